/-
  A part of the proof of this claim (AtG): what functions of the program compute, and plain facts of that. No conditions.
-/
import Derived.Test.YtdkopkplfdobnaaAtF
set_option linter.all false
namespace Go.Proofs.Ytdkopkplfdobnaa
open Go Go.Am
noncomputable section

def anyStats_l1 (r : Rdr) (width : Int) (c : Nat) : Nat → Nat → Nat → (List (List Val)) → Nat × (List (List Val))
 | 0, n, i, seen => (n, seen)
 | k + 1, n, i, seen => (bif (decide (((i : Nat) : Int) < ((List.length (Tab.Rows ((randomTable r width 8).1)) : Nat) : Int))) then (bif (Val.Null (List.getD (List.getD (Tab.Rows ((randomTable r width 8).1)) i []) c Val.zero)) then (anyStats_l1 r width c k (n + 1) (i + 1) seen) else (bif ((countRow seen ([(List.getD (List.getD (Tab.Rows ((randomTable r width 8).1)) i []) c Val.zero)] : List Val)) == 0) then (anyStats_l1 r width c k n (i + 1) (seen ++ ([([(List.getD (List.getD (Tab.Rows ((randomTable r width 8).1)) i []) c Val.zero)] : List Val)] : List (List Val)))) else (anyStats_l1 r width c k n (i + 1) seen))) else (n, seen))

def anyStats_l0 (r : Rdr) (width : Int) : Nat → Nat → (List Int) → (List Int) → (List Int) × (List Int)
 | 0, c, ar4216, ar4240 => (ar4216, ar4240)
 | k + 1, c, ar4216, ar4240 => (bif (decide (((c : Nat) : Int) < (Tab.Width ((randomTable r width 8).1)))) then (Go.Am.andThen (anyStats_l1 r width c ((List.length (Tab.Rows ((randomTable r width 8).1))) - 0 + 1) 0 0 ([] : List (List Val))) (fun z => (fun (n : Nat) (seen : List (List Val)) => (anyStats_l0 r width k (c + 1) (ar4216 ++ ([((List.length seen : Nat) : Int)] : List Int)) (ar4240 ++ ([((n : Nat) : Int)] : List Int)))) z.1 z.2)) else (ar4216, ar4240))

def anyStats (r : Rdr) (width : Int) : Sta × Rdr := (Go.Am.andThen (anyStats_l0 r width (Int.toNat ((Tab.Width ((randomTable r width 8).1)) - ((0 : Nat) : Int)) + 1) 0 ([] : List Int) ([] : List Int)) (fun z => (fun (ar4216 : List Int) (ar4240 : List Int) => (bif ((pick (Rdr.b ((randomTable r width 8).2)) (Rdr.p ((randomTable r width 8).2)) 2) == 0) then (bif ((pick (Rdr.b ((randomTable r width 8).2)) ((Rdr.p ((randomTable r width 8).2)) + 1) 16) == 0) then ((Sta.mk (one (Rdr.b ((randomTable r width 8).2)) (((Rdr.p ((randomTable r width 8).2)) + 1) + 1) ([(-1), 401] : List Int)) ar4216 ar4240), (Rdr.mk (Rdr.b ((randomTable r width 8).2)) ((((Rdr.p ((randomTable r width 8).2)) + 1) + 1) + 1))) else (bif ((pick (Rdr.b ((randomTable r width 8).2)) ((Rdr.p ((randomTable r width 8).2)) + 1) 16) == 1) then ((Sta.mk (((List.length (Tab.Rows ((randomTable r width 8).1))) + 100 : Nat) : Int) ar4216 (List.set ar4240 0 ((((List.length (Tab.Rows ((randomTable r width 8).1))) + 100) + 1 : Nat) : Int))), (Rdr.mk (Rdr.b ((randomTable r width 8).2)) (((Rdr.p ((randomTable r width 8).2)) + 1) + 1))) else (bif ((pick (Rdr.b ((randomTable r width 8).2)) ((Rdr.p ((randomTable r width 8).2)) + 1) 16) == 2) then ((Sta.mk (((List.length (Tab.Rows ((randomTable r width 8).1))) + 100 : Nat) : Int) (ar4216 ++ ([0] : List Int)) ar4240), (Rdr.mk (Rdr.b ((randomTable r width 8).2)) (((Rdr.p ((randomTable r width 8).2)) + 1) + 1))) else ((Sta.mk (((List.length (Tab.Rows ((randomTable r width 8).1))) + 100 : Nat) : Int) ar4216 ar4240), (Rdr.mk (Rdr.b ((randomTable r width 8).2)) (((Rdr.p ((randomTable r width 8).2)) + 1) + 1)))))) else (bif ((pick (Rdr.b ((randomTable r width 8).2)) ((Rdr.p ((randomTable r width 8).2)) + 1) 16) == 0) then ((Sta.mk (one (Rdr.b ((randomTable r width 8).2)) (((Rdr.p ((randomTable r width 8).2)) + 1) + 1) ([(-1), 401] : List Int)) ar4216 ar4240), (Rdr.mk (Rdr.b ((randomTable r width 8).2)) ((((Rdr.p ((randomTable r width 8).2)) + 1) + 1) + 1))) else (bif ((pick (Rdr.b ((randomTable r width 8).2)) ((Rdr.p ((randomTable r width 8).2)) + 1) 16) == 1) then ((Sta.mk ((List.length (Tab.Rows ((randomTable r width 8).1)) : Nat) : Int) ar4216 (List.set ar4240 0 (((List.length (Tab.Rows ((randomTable r width 8).1))) + 1 : Nat) : Int))), (Rdr.mk (Rdr.b ((randomTable r width 8).2)) (((Rdr.p ((randomTable r width 8).2)) + 1) + 1))) else (bif ((pick (Rdr.b ((randomTable r width 8).2)) ((Rdr.p ((randomTable r width 8).2)) + 1) 16) == 2) then ((Sta.mk ((List.length (Tab.Rows ((randomTable r width 8).1)) : Nat) : Int) (ar4216 ++ ([0] : List Int)) ar4240), (Rdr.mk (Rdr.b ((randomTable r width 8).2)) (((Rdr.p ((randomTable r width 8).2)) + 1) + 1))) else ((Sta.mk ((List.length (Tab.Rows ((randomTable r width 8).1)) : Nat) : Int) ar4216 ar4240), (Rdr.mk (Rdr.b ((randomTable r width 8).2)) (((Rdr.p ((randomTable r width 8).2)) + 1) + 1)))))))) z.1 z.2))

def anyStats_sp : FnSpec := mkSpecB [.box 2, .val (.int .i64)] [.val (.named 3)] (fun (r : Rdr) (width : Int) => (0 ≤ r.p ∧ r.p ≤ 700000000000) ∧ 1 ≤ width ∧ width ≤ 6) (fun (r : Rdr) (width : Int) => [⟨(.named 3), ((anyStats r width).1)⟩]) (fun (r : Rdr) (width : Int) => [⟨(.named 2), ((anyStats r width).2)⟩])

theorem anyStats_ok : FnOK Try.prog 11 anyStats_sp := by
 have hC : CtxOK Try.prog (mkCtx tyL [(10, pickS), (21, randomTable_sp), (22, oneS), (36, countRow_sp)]) := CtxOK.cons pickS_ok (CtxOK.cons randomTable_ok (CtxOK.cons oneS_ok (CtxOK.cons countRow_ok (CtxOK.nil tyOK))))
 have hC1 := hC.rebase 1000
 refine FnOK.of_body Try.func11 (by kernel_rfl) rfl (C := (mkCtx tyL [(10, pickS), (21, randomTable_sp), (22, oneS), (36, countRow_sp)])) hC.ty (by kernel_rfl) ?_
 intro (r : Rdr) (width : Int) hwf hpre E
 have hpre : (0 ≤ r.p ∧ r.p ≤ 700000000000) ∧ 1 ≤ width ∧ width ≤ 6 := hpre
 have hw_r : Wf ⟨(.named 2), (r : Rdr)⟩ := hwf _ (List.Mem.head _)
 obtain ⟨hl_r_b, hr_r_p⟩ := Rdr.wfl hw_r
 have hw_width : Wf ⟨(.int .i64), (width : Int)⟩ := hwf _ (List.Mem.tail _ (List.Mem.head _))
 have hr_width : -9223372036854775808 ≤ width ∧ width ≤ 9223372036854775807 := hw_width.int_inv
 have hT := randomTable_p r (width := width) (most := 8) hpre.2 (by decide)
 have hw := hT.2.w
 have hlen := hT.2.len
 have hwe := randomTable_w r width 8
 have hrw := fun (i : Nat) (h : i < (randomTable r width 8).1.Rows.length) => hT.2.rows _ (getD_mem (randomTable r width 8).1.Rows i [] h)
 have e0 : anyStats r width = anyStats r width := rfl
 refine AW.seq (AW.r1 hC [0, 1, 4] [0, 16] ⟨[(0, .ref 0 0 0), (1, sI width), (4, .ref 16 1 0)], [(0, .box 0 [sD9 (Rdr.b r), sI (Rdr.p r)]), (16, .box 1 [sI 0, .nilsl, .nilsl])]⟩ ?_)
 refine AW.seq (AW.regionO [0, 1, 2, 3, 4, 5] (by rfl) ?_)
 refine AWO.run hC false [] [0, 1, 2] [3, 4, 5] [0, 4, 8] [0, 16]
  ⟨[(0, .ref 0 0 0), (4, .ref 16 1 0), (8, sD7 ((randomTable r width 8).1))], [(0, .box 0 [sD9 (Rdr.b ((randomTable r width 8).2)), sI (Rdr.p ((randomTable r width 8).2))]), (16, .box 1 [sI 0, .nilsl, .nilsl])]⟩
  [((0 ≤ r.p ∧ r.p ≤ 800000000000) ∧ width ≤ 100 ∧ (0 ≤ (8 : Int) ∧ (8 : Int) ≤ 99))] (by rfl) (by kernel_rfl) ?_ ?_
 ·
  refine ⟨?_, trivial⟩
  ·
   omega
 refine AWO.call hC.ty (vs := [sD7 ((randomTable r width 8).1)]) (caps := []) (by rfl) rfl (.inl rfl) (by decide) (by kernel_rfl) (by kernel_rfl) Try.func20 (by kernel_rfl) rfl (by kernel_rfl) ?_
 intro o1
 refine AW.kp [0, 1000, 1004] [0, 16] ⟨[(0, sD7 ((randomTable r width 8).1)), (1000, .ref 0 0 0), (1004, .ref 16 1 0)], [(0, .box 0 [sD9 (Rdr.b ((randomTable r width 8).2)), sI (Rdr.p ((randomTable r width 8).2))]), (16, .box 1 [sI 0, .nilsl, .nilsl])]⟩ ?_
 refine AW.seq (AW.r1 hC1 [1, 2, 1000, 1004] [0, 16, 4004, 4008] ⟨[(1, .ref 4004 1 0), (2, .ref 4008 1 0), (1000, .ref 0 0 0), (1004, .ref 16 1 0)], [(0, .box 0 [sD9 (Rdr.b ((randomTable r width 8).2)), sI (Rdr.p ((randomTable r width 8).2))]), (16, .box 1 [sI 0, .nilsl, .nilsl]), (4004, .box 1 [sI (Tab.Width ((randomTable r width 8).1)), sD12 (Tab.Rows ((randomTable r width 8).1))]), (4008, .box 1 [sI 0, .nilsl, .nilsl])]⟩ ?_)
 refine AW.seq (AW.r1 hC1 [1, 2, 3, 1000, 1004] [0, 16, 4004, 4008, 4012] ⟨[(1, .ref 4004 1 0), (2, .ref 4008 1 0), (3, .ref 4012 1 0), (1000, .ref 0 0 0), (1004, .ref 16 1 0)], [(0, .box 0 [sD9 (Rdr.b ((randomTable r width 8).2)), sI (Rdr.p ((randomTable r width 8).2))]), (16, .box 1 [sI 0, .nilsl, .nilsl]), (4004, .box 1 [sI (Tab.Width ((randomTable r width 8).1)), sD12 (Tab.Rows ((randomTable r width 8).1))]), (4008, .box 1 [sI 0, .nilsl, .nilsl]), (4012, .box 1 [sI ((List.length (Tab.Rows ((randomTable r width 8).1)) : Nat) : Int), .nilsl, .nilsl])]⟩ ?_)
 refine AW.seq (AW.seq (AW.r1 hC1 [1, 2, 3, 4, 1000, 1004] [0, 16, 4004, 4008, 4012] ⟨[(1, .ref 4004 1 0), (2, .ref 4008 1 0), (3, .ref 4012 1 0), (4, sI 0), (1000, .ref 0 0 0), (1004, .ref 16 1 0)], [(0, .box 0 [sD9 (Rdr.b ((randomTable r width 8).2)), sI (Rdr.p ((randomTable r width 8).2))]), (16, .box 1 [sI 0, .nilsl, .nilsl]), (4004, .box 1 [sI (Tab.Width ((randomTable r width 8).1)), sD12 (Tab.Rows ((randomTable r width 8).1))]), (4008, .box 1 [sI 0, .nilsl, .nilsl]), (4012, .box 1 [sI ((List.length (Tab.Rows ((randomTable r width 8).1)) : Nat) : Int), .nilsl, .nilsl])]⟩ ?_))
 refine AW.adoptB 4012 1 1 4216 [sI ((List.length (Tab.Rows ((randomTable r width 8).1)) : Nat) : Int), .nilsl, .nilsl] (.int .i64) (by kernel_rfl) (by kernel_rfl) (by kernel_rfl) ?_
 refine AW.adoptB 4012 1 2 4240 [sI ((List.length (Tab.Rows ((randomTable r width 8).1)) : Nat) : Int), .arr 4216 1, .nilsl] (.int .i64) (by kernel_rfl) (by kernel_rfl) (by kernel_rfl) ?_
 refine AW.kp [1, 2, 3, 4, 1000, 1004] [0, 16, 4004, 4008, 4012, 4216, 4240] ⟨[(1, .ref 4004 1 0), (2, .ref 4008 1 0), (3, .ref 4012 1 0), (4, sI 0), (1000, .ref 0 0 0), (1004, .ref 16 1 0)], [(0, .box 0 [sD9 (Rdr.b ((randomTable r width 8).2)), sI (Rdr.p ((randomTable r width 8).2))]), (16, .box 1 [sI 0, .nilsl, .nilsl]), (4004, .box 1 [sI (Tab.Width ((randomTable r width 8).1)), sD12 (Tab.Rows ((randomTable r width 8).1))]), (4008, .box 1 [sI 0, .nilsl, .nilsl]), (4012, .box 1 [sI ((List.length (Tab.Rows ((randomTable r width 8).1)) : Nat) : Int), .arr 4216 1, .arr 4240 1]), (4216, .arr 1 (.int .i64) (([] : List Int) : List Int)), (4240, .arr 1 (.int .i64) (([] : List Int) : List Int))]⟩ ?_
 refine AW.cutQ (α := (List Int) × (List Int)) (fun x => ⟨[(2, .ref 4008 1 0), (3, .ref 4012 1 0), (1000, .ref 0 0 0), (1004, .ref 16 1 0)], [(0, .box 0 [sD9 (Rdr.b ((randomTable r width 8).2)), sI (Rdr.p ((randomTable r width 8).2))]), (16, .box 1 [sI 0, .nilsl, .nilsl]), (4008, .box 1 [sI 0, .nilsl, .nilsl]), (4012, .box 1 [sI ((List.length (Tab.Rows ((randomTable r width 8).1)) : Nat) : Int), .arr 4216 1, .arr 4240 1]), (4216, .arr 1 (.int .i64) (x.1 : List Int)), (4240, .arr 1 (.int .i64) (x.2 : List Int))]⟩) (fun x => (List.length x.1 = Int.toNat width ∧ List.length x.2 = Int.toNat width) ∧ (anyStats_l0 r width (Int.toNat ((Tab.Width ((randomTable r width 8).1)) - ((0 : Nat) : Int)) + 1) 0 ([] : List Int) ([] : List Int)) = x) ?_ ?_
 ·
  skip
  refine AW.block (AW.loop (α := Nat × (List Int) × (List Int)) (fun x => ⟨[(1, .ref 4004 1 0), (2, .ref 4008 1 0), (3, .ref 4012 1 0), (4, sI ((x.1 : Nat) : Int)), (1000, .ref 0 0 0), (1004, .ref 16 1 0)], [(0, .box 0 [sD9 (Rdr.b ((randomTable r width 8).2)), sI (Rdr.p ((randomTable r width 8).2))]), (16, .box 1 [sI 0, .nilsl, .nilsl]), (4004, .box 1 [sI (Tab.Width ((randomTable r width 8).1)), sD12 (Tab.Rows ((randomTable r width 8).1))]), (4008, .box 1 [sI 0, .nilsl, .nilsl]), (4012, .box 1 [sI ((List.length (Tab.Rows ((randomTable r width 8).1)) : Nat) : Int), .arr 4216 1, .arr 4240 1]), (4216, .arr 1 (.int .i64) (x.2.1 : List Int)), (4240, .arr 1 (.int .i64) (x.2.2 : List Int))]⟩) (fun x => ((List.length x.2.1 = x.1 ∧ List.length x.2.2 = x.1) ∧ (x.1 : Int) ≤ width) ∧ ∃ k, Int.toNat ((Tab.Width ((randomTable r width 8).1)) - ((x.1 : Nat) : Int)) < k ∧ (anyStats_l0 r width (Int.toNat ((Tab.Width ((randomTable r width 8).1)) - ((0 : Nat) : Int)) + 1) 0 ([] : List Int) ([] : List Int)) = anyStats_l0 r width k x.1 x.2.1 x.2.2) (fun x => Int.toNat ((Tab.Width ((randomTable r width 8).1)) - ((x.1 : Nat) : Int))) (0, ([] : List Int), ([] : List Int)) (by kernel_rfl) ⟨?_, _, Nat.lt_succ_self _, rfl⟩ ?_)
  ·
   show (List.length ([] : List Int) = 0 ∧ List.length ([] : List Int) = 0) ∧ (0 : Int) ≤ width
   exact ⟨⟨rfl, rfl⟩, by omega⟩
  ·
   intro x hR
   obtain ⟨c, ar4216, ar4240⟩ := x
   obtain ⟨hI0, k521, hk519, e520⟩ := hR
   replace hI0 : (List.length ar4216 = c ∧ List.length ar4240 = c) ∧ (c : Int) ≤ width := hI0
   replace hk519 : Int.toNat ((Tab.Width ((randomTable r width 8).1)) - ((c : Nat) : Int)) < k521 := hk519
   obtain ⟨k521q, rfl⟩ : ∃ k, k521 = k + 1 := ⟨k521 - 1, by omega⟩
   refine AW.seq (AW.seq (AW.r1 hC1 [1, 2, 3, 4, 16, 1000, 1004] [0, 16, 4004, 4008, 4012, 4216, 4240] ⟨[(1, .ref 4004 1 0), (2, .ref 4008 1 0), (3, .ref 4012 1 0), (4, sI ((c : Nat) : Int)), (16, sB (decide (((c : Nat) : Int) < (Tab.Width ((randomTable r width 8).1))))), (1000, .ref 0 0 0), (1004, .ref 16 1 0)], [(0, .box 0 [sD9 (Rdr.b ((randomTable r width 8).2)), sI (Rdr.p ((randomTable r width 8).2))]), (16, .box 1 [sI 0, .nilsl, .nilsl]), (4004, .box 1 [sI (Tab.Width ((randomTable r width 8).1)), sD12 (Tab.Rows ((randomTable r width 8).1))]), (4008, .box 1 [sI 0, .nilsl, .nilsl]), (4012, .box 1 [sI ((List.length (Tab.Rows ((randomTable r width 8).1)) : Nat) : Int), .arr 4216 1, .arr 4240 1]), (4216, .arr 1 (.int .i64) (ar4216 : List Int)), (4240, .arr 1 (.int .i64) (ar4240 : List Int))]⟩ ?_))
   refine AW.cd (decide (((c : Nat) : Int) < (Tab.Width ((randomTable r width 8).1)))) ?_ ?_
   ·
    intro h522
    have h522q := (of_decide_eq_true h522)
    have e523 := e520.trans (Go.Am.bif_t h522)
    refine AW.kp [1, 2, 3, 4, 1000, 1004] [0, 16, 4004, 4008, 4012, 4216, 4240] ⟨[(1, .ref 4004 1 0), (2, .ref 4008 1 0), (3, .ref 4012 1 0), (4, sI ((c : Nat) : Int)), (1000, .ref 0 0 0), (1004, .ref 16 1 0)], [(0, .box 0 [sD9 (Rdr.b ((randomTable r width 8).2)), sI (Rdr.p ((randomTable r width 8).2))]), (16, .box 1 [sI 0, .nilsl, .nilsl]), (4004, .box 1 [sI (Tab.Width ((randomTable r width 8).1)), sD12 (Tab.Rows ((randomTable r width 8).1))]), (4008, .box 1 [sI 0, .nilsl, .nilsl]), (4012, .box 1 [sI ((List.length (Tab.Rows ((randomTable r width 8).1)) : Nat) : Int), .arr 4216 1, .arr 4240 1]), (4216, .arr 1 (.int .i64) (ar4216 : List Int)), (4240, .arr 1 (.int .i64) (ar4240 : List Int))]⟩ ?_
    refine AW.skip (AW.seq (AW.block (AW.seq (AW.r1 hC1 [1, 2, 3, 4, 5, 1000, 1004] [0, 16, 4004, 4008, 4012, 4076, 4216, 4240] ⟨[(1, .ref 4004 1 0), (2, .ref 4008 1 0), (3, .ref 4012 1 0), (4, sI ((c : Nat) : Int)), (5, .arr 4076 1), (1000, .ref 0 0 0), (1004, .ref 16 1 0)], [(0, .box 0 [sD9 (Rdr.b ((randomTable r width 8).2)), sI (Rdr.p ((randomTable r width 8).2))]), (16, .box 1 [sI 0, .nilsl, .nilsl]), (4004, .box 1 [sI (Tab.Width ((randomTable r width 8).1)), sD12 (Tab.Rows ((randomTable r width 8).1))]), (4008, .box 1 [sI 0, .nilsl, .nilsl]), (4012, .box 1 [sI ((List.length (Tab.Rows ((randomTable r width 8).1)) : Nat) : Int), .arr 4216 1, .arr 4240 1]), (4076, .arr 1 (.slice (.named 0)) (([] : List (List Val)) : List (List Val))), (4216, .arr 1 (.int .i64) (ar4216 : List Int)), (4240, .arr 1 (.int .i64) (ar4240 : List Int))]⟩ ?_))))
    refine AW.seq (AW.r1 hC1 [1, 2, 3, 4, 5, 6, 1000, 1004] [0, 16, 4004, 4008, 4012, 4076, 4216, 4240] ⟨[(1, .ref 4004 1 0), (2, .ref 4008 1 0), (3, .ref 4012 1 0), (4, sI ((c : Nat) : Int)), (5, .arr 4076 1), (6, sI 0), (1000, .ref 0 0 0), (1004, .ref 16 1 0)], [(0, .box 0 [sD9 (Rdr.b ((randomTable r width 8).2)), sI (Rdr.p ((randomTable r width 8).2))]), (16, .box 1 [sI 0, .nilsl, .nilsl]), (4004, .box 1 [sI (Tab.Width ((randomTable r width 8).1)), sD12 (Tab.Rows ((randomTable r width 8).1))]), (4008, .box 1 [sI 0, .nilsl, .nilsl]), (4012, .box 1 [sI ((List.length (Tab.Rows ((randomTable r width 8).1)) : Nat) : Int), .arr 4216 1, .arr 4240 1]), (4076, .arr 1 (.slice (.named 0)) (([] : List (List Val)) : List (List Val))), (4216, .arr 1 (.int .i64) (ar4216 : List Int)), (4240, .arr 1 (.int .i64) (ar4240 : List Int))]⟩ ?_)
    refine AW.seq (AW.seq (AW.r1 hC1 [1, 2, 3, 4, 5, 6, 7, 1000, 1004] [0, 16, 4004, 4008, 4012, 4076, 4216, 4240] ⟨[(1, .ref 4004 1 0), (2, .ref 4008 1 0), (3, .ref 4012 1 0), (4, sI ((c : Nat) : Int)), (5, .arr 4076 1), (6, sI 0), (7, sI 0), (1000, .ref 0 0 0), (1004, .ref 16 1 0)], [(0, .box 0 [sD9 (Rdr.b ((randomTable r width 8).2)), sI (Rdr.p ((randomTable r width 8).2))]), (16, .box 1 [sI 0, .nilsl, .nilsl]), (4004, .box 1 [sI (Tab.Width ((randomTable r width 8).1)), sD12 (Tab.Rows ((randomTable r width 8).1))]), (4008, .box 1 [sI 0, .nilsl, .nilsl]), (4012, .box 1 [sI ((List.length (Tab.Rows ((randomTable r width 8).1)) : Nat) : Int), .arr 4216 1, .arr 4240 1]), (4076, .arr 1 (.slice (.named 0)) (([] : List (List Val)) : List (List Val))), (4216, .arr 1 (.int .i64) (ar4216 : List Int)), (4240, .arr 1 (.int .i64) (ar4240 : List Int))]⟩ ?_))
    refine AW.cutQ (α := Nat × (List (List Val))) (fun x => ⟨[(1, .ref 4004 1 0), (2, .ref 4008 1 0), (3, .ref 4012 1 0), (4, sI ((c : Nat) : Int)), (5, .arr 4076 1), (6, sI ((x.1 : Nat) : Int)), (1000, .ref 0 0 0), (1004, .ref 16 1 0)], [(0, .box 0 [sD9 (Rdr.b ((randomTable r width 8).2)), sI (Rdr.p ((randomTable r width 8).2))]), (16, .box 1 [sI 0, .nilsl, .nilsl]), (4004, .box 1 [sI (Tab.Width ((randomTable r width 8).1)), sD12 (Tab.Rows ((randomTable r width 8).1))]), (4008, .box 1 [sI 0, .nilsl, .nilsl]), (4012, .box 1 [sI ((List.length (Tab.Rows ((randomTable r width 8).1)) : Nat) : Int), .arr 4216 1, .arr 4240 1]), (4076, .arr 1 (.slice (.named 0)) (x.2 : List (List Val))), (4216, .arr 1 (.int .i64) (ar4216 : List Int)), (4240, .arr 1 (.int .i64) (ar4240 : List Int))]⟩) (fun x => (x.1 ≤ 100 ∧ List.length x.2 ≤ 100) ∧ (anyStats_l1 r width c ((List.length (Tab.Rows ((randomTable r width 8).1))) - 0 + 1) 0 0 ([] : List (List Val))) = x) ?_ ?_
    ·
     skip
     refine AW.block (AW.loop (α := Nat × Nat × (List (List Val))) (fun x => ⟨[(1, .ref 4004 1 0), (2, .ref 4008 1 0), (3, .ref 4012 1 0), (4, sI ((c : Nat) : Int)), (5, .arr 4076 1), (6, sI ((x.1 : Nat) : Int)), (7, sI ((x.2.1 : Nat) : Int)), (1000, .ref 0 0 0), (1004, .ref 16 1 0)], [(0, .box 0 [sD9 (Rdr.b ((randomTable r width 8).2)), sI (Rdr.p ((randomTable r width 8).2))]), (16, .box 1 [sI 0, .nilsl, .nilsl]), (4004, .box 1 [sI (Tab.Width ((randomTable r width 8).1)), sD12 (Tab.Rows ((randomTable r width 8).1))]), (4008, .box 1 [sI 0, .nilsl, .nilsl]), (4012, .box 1 [sI ((List.length (Tab.Rows ((randomTable r width 8).1)) : Nat) : Int), .arr 4216 1, .arr 4240 1]), (4076, .arr 1 (.slice (.named 0)) (x.2.2 : List (List Val))), (4216, .arr 1 (.int .i64) (ar4216 : List Int)), (4240, .arr 1 (.int .i64) (ar4240 : List Int))]⟩) (fun x => ((x.1 ≤ x.2.1 ∧ x.2.1 ≤ 100) ∧ List.length x.2.2 ≤ x.2.1) ∧ ∃ k, (List.length (Tab.Rows ((randomTable r width 8).1))) - x.2.1 < k ∧ (anyStats_l1 r width c ((List.length (Tab.Rows ((randomTable r width 8).1))) - 0 + 1) 0 0 ([] : List (List Val))) = anyStats_l1 r width c k x.1 x.2.1 x.2.2) (fun x => (List.length (Tab.Rows ((randomTable r width 8).1))) - x.2.1) (0, 0, ([] : List (List Val))) (by kernel_rfl) ⟨?_, _, Nat.lt_succ_self _, rfl⟩ ?_)
     ·
      show (0 ≤ 0 ∧ 0 ≤ 100) ∧ List.length ([] : List (List Val)) ≤ 0
      exact ⟨⟨by omega, by omega⟩, by simp⟩
     ·
      intro x hR
      obtain ⟨n, i, seen⟩ := x
      obtain ⟨hI1, k562, hk560, e561⟩ := hR
      replace hI1 : (n ≤ i ∧ i ≤ 100) ∧ List.length seen ≤ i := hI1
      replace hk560 : (List.length (Tab.Rows ((randomTable r width 8).1))) - i < k562 := hk560
      obtain ⟨k562q, rfl⟩ : ∃ k, k562 = k + 1 := ⟨k562 - 1, by omega⟩
      refine AW.seq (AW.seq (AW.r1 hC1 [1, 2, 3, 4, 5, 6, 7, 24, 1000, 1004] [0, 16, 4004, 4008, 4012, 4076, 4216, 4240] ⟨[(1, .ref 4004 1 0), (2, .ref 4008 1 0), (3, .ref 4012 1 0), (4, sI ((c : Nat) : Int)), (5, .arr 4076 1), (6, sI ((n : Nat) : Int)), (7, sI ((i : Nat) : Int)), (24, sB (decide (((i : Nat) : Int) < ((List.length (Tab.Rows ((randomTable r width 8).1)) : Nat) : Int)))), (1000, .ref 0 0 0), (1004, .ref 16 1 0)], [(0, .box 0 [sD9 (Rdr.b ((randomTable r width 8).2)), sI (Rdr.p ((randomTable r width 8).2))]), (16, .box 1 [sI 0, .nilsl, .nilsl]), (4004, .box 1 [sI (Tab.Width ((randomTable r width 8).1)), sD12 (Tab.Rows ((randomTable r width 8).1))]), (4008, .box 1 [sI 0, .nilsl, .nilsl]), (4012, .box 1 [sI ((List.length (Tab.Rows ((randomTable r width 8).1)) : Nat) : Int), .arr 4216 1, .arr 4240 1]), (4076, .arr 1 (.slice (.named 0)) (seen : List (List Val))), (4216, .arr 1 (.int .i64) (ar4216 : List Int)), (4240, .arr 1 (.int .i64) (ar4240 : List Int))]⟩ ?_))
      refine AW.cd (decide (((i : Nat) : Int) < ((List.length (Tab.Rows ((randomTable r width 8).1)) : Nat) : Int))) ?_ ?_
      ·
       intro h563
       have h563q := (of_decide_eq_true h563)
       have e564 := e561.trans (Go.Am.bif_t h563)
       refine AW.kp [1, 2, 3, 4, 5, 6, 7, 1000, 1004] [0, 16, 4004, 4008, 4012, 4076, 4216, 4240] ⟨[(1, .ref 4004 1 0), (2, .ref 4008 1 0), (3, .ref 4012 1 0), (4, sI ((c : Nat) : Int)), (5, .arr 4076 1), (6, sI ((n : Nat) : Int)), (7, sI ((i : Nat) : Int)), (1000, .ref 0 0 0), (1004, .ref 16 1 0)], [(0, .box 0 [sD9 (Rdr.b ((randomTable r width 8).2)), sI (Rdr.p ((randomTable r width 8).2))]), (16, .box 1 [sI 0, .nilsl, .nilsl]), (4004, .box 1 [sI (Tab.Width ((randomTable r width 8).1)), sD12 (Tab.Rows ((randomTable r width 8).1))]), (4008, .box 1 [sI 0, .nilsl, .nilsl]), (4012, .box 1 [sI ((List.length (Tab.Rows ((randomTable r width 8).1)) : Nat) : Int), .arr 4216 1, .arr 4240 1]), (4076, .arr 1 (.slice (.named 0)) (seen : List (List Val))), (4216, .arr 1 (.int .i64) (ar4216 : List Int)), (4240, .arr 1 (.int .i64) (ar4240 : List Int))]⟩ ?_
       refine AW.skip (AW.seq (AW.block (AW.seq (AW.r0 hC1 [1, 2, 3, 4, 5, 6, 7, 8, 1000, 1004] [0, 16, 4004, 4008, 4012, 4032, 4076, 4216, 4240] ⟨[(1, .ref 4004 1 0), (2, .ref 4008 1 0), (3, .ref 4012 1 0), (4, sI ((c : Nat) : Int)), (5, .arr 4076 1), (6, sI ((n : Nat) : Int)), (7, sI ((i : Nat) : Int)), (8, .ref 4032 1 0), (1000, .ref 0 0 0), (1004, .ref 16 1 0)], [(0, .box 0 [sD9 (Rdr.b ((randomTable r width 8).2)), sI (Rdr.p ((randomTable r width 8).2))]), (16, .box 1 [sI 0, .nilsl, .nilsl]), (4004, .box 1 [sI (Tab.Width ((randomTable r width 8).1)), sD12 (Tab.Rows ((randomTable r width 8).1))]), (4008, .box 1 [sI 0, .nilsl, .nilsl]), (4012, .box 1 [sI ((List.length (Tab.Rows ((randomTable r width 8).1)) : Nat) : Int), .arr 4216 1, .arr 4240 1]), (4032, .box 1 [sB (Val.Null (List.getD (List.getD (Tab.Rows ((randomTable r width 8).1)) i []) c Val.zero)), sI (Val.N (List.getD (List.getD (Tab.Rows ((randomTable r width 8).1)) i []) c Val.zero))]), (4076, .arr 1 (.slice (.named 0)) (seen : List (List Val))), (4216, .arr 1 (.int .i64) (ar4216 : List Int)), (4240, .arr 1 (.int .i64) (ar4240 : List Int))]⟩ [IX ((i : Nat) : Int) ((List.length (Tab.Rows ((randomTable r width 8).1)) : Nat) : Int), IX ((c : Nat) : Int) ((List.length (List.getD (Tab.Rows ((randomTable r width 8).1)) i []) : Nat) : Int)] ?_ ?_))))
       ·
        refine ⟨?_, ?_, trivial⟩
        ·
         refine IX.of ?_
         omega
        ·
         refine IX.of ?_
         have h := hrw i (by omega); omega
       refine AW.seq (AW.r1 hC1 [1, 2, 3, 4, 5, 6, 7, 8, 36, 1000, 1004] [0, 16, 4004, 4008, 4012, 4032, 4076, 4216, 4240] ⟨[(1, .ref 4004 1 0), (2, .ref 4008 1 0), (3, .ref 4012 1 0), (4, sI ((c : Nat) : Int)), (5, .arr 4076 1), (6, sI ((n : Nat) : Int)), (7, sI ((i : Nat) : Int)), (8, .ref 4032 1 0), (36, sB (Val.Null (List.getD (List.getD (Tab.Rows ((randomTable r width 8).1)) i []) c Val.zero))), (1000, .ref 0 0 0), (1004, .ref 16 1 0)], [(0, .box 0 [sD9 (Rdr.b ((randomTable r width 8).2)), sI (Rdr.p ((randomTable r width 8).2))]), (16, .box 1 [sI 0, .nilsl, .nilsl]), (4004, .box 1 [sI (Tab.Width ((randomTable r width 8).1)), sD12 (Tab.Rows ((randomTable r width 8).1))]), (4008, .box 1 [sI 0, .nilsl, .nilsl]), (4012, .box 1 [sI ((List.length (Tab.Rows ((randomTable r width 8).1)) : Nat) : Int), .arr 4216 1, .arr 4240 1]), (4032, .box 1 [sB (Val.Null (List.getD (List.getD (Tab.Rows ((randomTable r width 8).1)) i []) c Val.zero)), sI (Val.N (List.getD (List.getD (Tab.Rows ((randomTable r width 8).1)) i []) c Val.zero))]), (4076, .arr 1 (.slice (.named 0)) (seen : List (List Val))), (4216, .arr 1 (.int .i64) (ar4216 : List Int)), (4240, .arr 1 (.int .i64) (ar4240 : List Int))]⟩ ?_)
       refine AW.cd (Val.Null (List.getD (List.getD (Tab.Rows ((randomTable r width 8).1)) i []) c Val.zero)) ?_ ?_
       ·
        intro h565
        have h565q : (Val.Null (List.getD (List.getD (Tab.Rows ((randomTable r width 8).1)) i []) c Val.zero)) = true := h565
        have e566 := e564.trans (Go.Am.bif_t h565)
        refine AW.r0 hC1 [1, 2, 3, 4, 5, 6, 7, 1000, 1004] [0, 16, 4004, 4008, 4012, 4076, 4216, 4240] ⟨[(1, .ref 4004 1 0), (2, .ref 4008 1 0), (3, .ref 4012 1 0), (4, sI ((c : Nat) : Int)), (5, .arr 4076 1), (6, sI ((n + 1 : Nat) : Int)), (7, sI ((i : Nat) : Int)), (1000, .ref 0 0 0), (1004, .ref 16 1 0)], [(0, .box 0 [sD9 (Rdr.b ((randomTable r width 8).2)), sI (Rdr.p ((randomTable r width 8).2))]), (16, .box 1 [sI 0, .nilsl, .nilsl]), (4004, .box 1 [sI (Tab.Width ((randomTable r width 8).1)), sD12 (Tab.Rows ((randomTable r width 8).1))]), (4008, .box 1 [sI 0, .nilsl, .nilsl]), (4012, .box 1 [sI ((List.length (Tab.Rows ((randomTable r width 8).1)) : Nat) : Int), .arr 4216 1, .arr 4240 1]), (4076, .arr 1 (.slice (.named 0)) (seen : List (List Val))), (4216, .arr 1 (.int .i64) (ar4216 : List Int)), (4240, .arr 1 (.int .i64) (ar4240 : List Int))]⟩ [R64 ((n + 1 : Nat) : Int)] ?_ ?_
        ·
         refine ⟨?_, trivial⟩
         ·
          refine R64.of ?_
          omega
        refine AW.r0 hC1 [1, 2, 3, 4, 5, 6, 7, 1000, 1004] [0, 16, 4004, 4008, 4012, 4076, 4216, 4240] ⟨[(1, .ref 4004 1 0), (2, .ref 4008 1 0), (3, .ref 4012 1 0), (4, sI ((c : Nat) : Int)), (5, .arr 4076 1), (6, sI ((n + 1 : Nat) : Int)), (7, sI ((i + 1 : Nat) : Int)), (1000, .ref 0 0 0), (1004, .ref 16 1 0)], [(0, .box 0 [sD9 (Rdr.b ((randomTable r width 8).2)), sI (Rdr.p ((randomTable r width 8).2))]), (16, .box 1 [sI 0, .nilsl, .nilsl]), (4004, .box 1 [sI (Tab.Width ((randomTable r width 8).1)), sD12 (Tab.Rows ((randomTable r width 8).1))]), (4008, .box 1 [sI 0, .nilsl, .nilsl]), (4012, .box 1 [sI ((List.length (Tab.Rows ((randomTable r width 8).1)) : Nat) : Int), .arr 4216 1, .arr 4240 1]), (4076, .arr 1 (.slice (.named 0)) (seen : List (List Val))), (4216, .arr 1 (.int .i64) (ar4216 : List Int)), (4240, .arr 1 (.int .i64) (ar4240 : List Int))]⟩ [R64 ((i + 1 : Nat) : Int)] ?_ ?_
        ·
         refine ⟨?_, trivial⟩
         ·
          refine R64.of ?_
          omega
        refine AW.back (x := (n, i, seen)) (n + 1, i + 1, seen) (by kernel_rfl) ⟨?_, k562q, ?_, e566⟩ ?_
        ·
         show ((n + 1) ≤ (i + 1) ∧ (i + 1) ≤ 100) ∧ List.length seen ≤ (i + 1)
         (try simp only [List.length_append, List.length_cons, List.length_nil])
         omega
        ·
         show (List.length (Tab.Rows ((randomTable r width 8).1))) - (i + 1) < k562q
         omega
        ·
         show (List.length (Tab.Rows ((randomTable r width 8).1))) - (i + 1) < (List.length (Tab.Rows ((randomTable r width 8).1))) - i
         omega
       ·
        intro h567
        have h567q : (Val.Null (List.getD (List.getD (Tab.Rows ((randomTable r width 8).1)) i []) c Val.zero)) = false := h567
        have e568 := e564.trans (Go.Am.bif_f h567)
        refine AW.seq (AW.r0 hC1 [1, 2, 3, 4, 5, 6, 7, 8, 43, 1000, 1004] [0, 16, 4004, 4008, 4012, 4032, 4076, 4216, 4240] ⟨[(1, .ref 4004 1 0), (2, .ref 4008 1 0), (3, .ref 4012 1 0), (4, sI ((c : Nat) : Int)), (5, .arr 4076 1), (6, sI ((n : Nat) : Int)), (7, sI ((i : Nat) : Int)), (8, .ref 4032 1 0), (43, sB ((countRow seen ([(List.getD (List.getD (Tab.Rows ((randomTable r width 8).1)) i []) c Val.zero)] : List Val)) == 0)), (1000, .ref 0 0 0), (1004, .ref 16 1 0)], [(0, .box 0 [sD9 (Rdr.b ((randomTable r width 8).2)), sI (Rdr.p ((randomTable r width 8).2))]), (16, .box 1 [sI 0, .nilsl, .nilsl]), (4004, .box 1 [sI (Tab.Width ((randomTable r width 8).1)), sD12 (Tab.Rows ((randomTable r width 8).1))]), (4008, .box 1 [sI 0, .nilsl, .nilsl]), (4012, .box 1 [sI ((List.length (Tab.Rows ((randomTable r width 8).1)) : Nat) : Int), .arr 4216 1, .arr 4240 1]), (4032, .box 1 [sB (Val.Null (List.getD (List.getD (Tab.Rows ((randomTable r width 8).1)) i []) c Val.zero)), sI (Val.N (List.getD (List.getD (Tab.Rows ((randomTable r width 8).1)) i []) c Val.zero))]), (4076, .arr 1 (.slice (.named 0)) (seen : List (List Val))), (4216, .arr 1 (.int .i64) (ar4216 : List Int)), (4240, .arr 1 (.int .i64) (ar4240 : List Int))]⟩ [(True)] ?_ ?_)
        ·
         refine ⟨?_, trivial⟩
         ·
          trivial
        refine AW.cd ((countRow seen ([(List.getD (List.getD (Tab.Rows ((randomTable r width 8).1)) i []) c Val.zero)] : List Val)) == 0) ?_ ?_
        ·
         intro h569
         have h569q := (Go.Am.beq_pos h569)
         have e570 := e568.trans (Go.Am.bif_t h569)
         refine AW.r0 hC1 [1, 2, 3, 4, 5, 6, 7, 1000, 1004] [0, 16, 4004, 4008, 4012, 4076, 4216, 4240] ⟨[(1, .ref 4004 1 0), (2, .ref 4008 1 0), (3, .ref 4012 1 0), (4, sI ((c : Nat) : Int)), (5, .arr 4076 1), (6, sI ((n : Nat) : Int)), (7, sI ((i : Nat) : Int)), (1000, .ref 0 0 0), (1004, .ref 16 1 0)], [(0, .box 0 [sD9 (Rdr.b ((randomTable r width 8).2)), sI (Rdr.p ((randomTable r width 8).2))]), (16, .box 1 [sI 0, .nilsl, .nilsl]), (4004, .box 1 [sI (Tab.Width ((randomTable r width 8).1)), sD12 (Tab.Rows ((randomTable r width 8).1))]), (4008, .box 1 [sI 0, .nilsl, .nilsl]), (4012, .box 1 [sI ((List.length (Tab.Rows ((randomTable r width 8).1)) : Nat) : Int), .arr 4216 1, .arr 4240 1]), (4076, .arr 1 (.slice (.named 0)) ((seen ++ ([([(List.getD (List.getD (Tab.Rows ((randomTable r width 8).1)) i []) c Val.zero)] : List Val)] : List (List Val))) : List (List Val))), (4216, .arr 1 (.int .i64) (ar4216 : List Int)), (4240, .arr 1 (.int .i64) (ar4240 : List Int))]⟩ [(((List.length seen : Nat) : Int) + ((List.length ([([(List.getD (List.getD (Tab.Rows ((randomTable r width 8).1)) i []) c Val.zero)] : List Val)] : List (List Val)) : Nat) : Int) ≤ 4294967296)] ?_ ?_
         ·
          refine ⟨?_, trivial⟩
          ·
           simp only [List.length_cons, List.length_nil, List.length_append]; omega
         refine AW.r0 hC1 [1, 2, 3, 4, 5, 6, 7, 1000, 1004] [0, 16, 4004, 4008, 4012, 4076, 4216, 4240] ⟨[(1, .ref 4004 1 0), (2, .ref 4008 1 0), (3, .ref 4012 1 0), (4, sI ((c : Nat) : Int)), (5, .arr 4076 1), (6, sI ((n : Nat) : Int)), (7, sI ((i + 1 : Nat) : Int)), (1000, .ref 0 0 0), (1004, .ref 16 1 0)], [(0, .box 0 [sD9 (Rdr.b ((randomTable r width 8).2)), sI (Rdr.p ((randomTable r width 8).2))]), (16, .box 1 [sI 0, .nilsl, .nilsl]), (4004, .box 1 [sI (Tab.Width ((randomTable r width 8).1)), sD12 (Tab.Rows ((randomTable r width 8).1))]), (4008, .box 1 [sI 0, .nilsl, .nilsl]), (4012, .box 1 [sI ((List.length (Tab.Rows ((randomTable r width 8).1)) : Nat) : Int), .arr 4216 1, .arr 4240 1]), (4076, .arr 1 (.slice (.named 0)) ((seen ++ ([([(List.getD (List.getD (Tab.Rows ((randomTable r width 8).1)) i []) c Val.zero)] : List Val)] : List (List Val))) : List (List Val))), (4216, .arr 1 (.int .i64) (ar4216 : List Int)), (4240, .arr 1 (.int .i64) (ar4240 : List Int))]⟩ [R64 ((i + 1 : Nat) : Int)] ?_ ?_
         ·
          refine ⟨?_, trivial⟩
          ·
           refine R64.of ?_
           omega
         refine AW.back (x := (n, i, seen)) (n, i + 1, (seen ++ ([([(List.getD (List.getD (Tab.Rows ((randomTable r width 8).1)) i []) c Val.zero)] : List Val)] : List (List Val)))) (by kernel_rfl) ⟨?_, k562q, ?_, e570⟩ ?_
         ·
          show (n ≤ (i + 1) ∧ (i + 1) ≤ 100) ∧ List.length (seen ++ ([([(List.getD (List.getD (Tab.Rows ((randomTable r width 8).1)) i []) c Val.zero)] : List Val)] : List (List Val))) ≤ (i + 1)
          (try simp only [List.length_append, List.length_cons, List.length_nil])
          omega
         ·
          show (List.length (Tab.Rows ((randomTable r width 8).1))) - (i + 1) < k562q
          omega
         ·
          show (List.length (Tab.Rows ((randomTable r width 8).1))) - (i + 1) < (List.length (Tab.Rows ((randomTable r width 8).1))) - i
          omega
        ·
         intro h571
         have h571q := (Go.Am.beq_neg h571)
         have e572 := e568.trans (Go.Am.bif_f h571)
         refine AW.kp [1, 2, 3, 4, 5, 6, 7, 1000, 1004] [0, 16, 4004, 4008, 4012, 4076, 4216, 4240] ⟨[(1, .ref 4004 1 0), (2, .ref 4008 1 0), (3, .ref 4012 1 0), (4, sI ((c : Nat) : Int)), (5, .arr 4076 1), (6, sI ((n : Nat) : Int)), (7, sI ((i : Nat) : Int)), (1000, .ref 0 0 0), (1004, .ref 16 1 0)], [(0, .box 0 [sD9 (Rdr.b ((randomTable r width 8).2)), sI (Rdr.p ((randomTable r width 8).2))]), (16, .box 1 [sI 0, .nilsl, .nilsl]), (4004, .box 1 [sI (Tab.Width ((randomTable r width 8).1)), sD12 (Tab.Rows ((randomTable r width 8).1))]), (4008, .box 1 [sI 0, .nilsl, .nilsl]), (4012, .box 1 [sI ((List.length (Tab.Rows ((randomTable r width 8).1)) : Nat) : Int), .arr 4216 1, .arr 4240 1]), (4076, .arr 1 (.slice (.named 0)) (seen : List (List Val))), (4216, .arr 1 (.int .i64) (ar4216 : List Int)), (4240, .arr 1 (.int .i64) (ar4240 : List Int))]⟩ ?_
         refine AW.skip (AW.r0 hC1 [1, 2, 3, 4, 5, 6, 7, 1000, 1004] [0, 16, 4004, 4008, 4012, 4076, 4216, 4240] ⟨[(1, .ref 4004 1 0), (2, .ref 4008 1 0), (3, .ref 4012 1 0), (4, sI ((c : Nat) : Int)), (5, .arr 4076 1), (6, sI ((n : Nat) : Int)), (7, sI ((i + 1 : Nat) : Int)), (1000, .ref 0 0 0), (1004, .ref 16 1 0)], [(0, .box 0 [sD9 (Rdr.b ((randomTable r width 8).2)), sI (Rdr.p ((randomTable r width 8).2))]), (16, .box 1 [sI 0, .nilsl, .nilsl]), (4004, .box 1 [sI (Tab.Width ((randomTable r width 8).1)), sD12 (Tab.Rows ((randomTable r width 8).1))]), (4008, .box 1 [sI 0, .nilsl, .nilsl]), (4012, .box 1 [sI ((List.length (Tab.Rows ((randomTable r width 8).1)) : Nat) : Int), .arr 4216 1, .arr 4240 1]), (4076, .arr 1 (.slice (.named 0)) (seen : List (List Val))), (4216, .arr 1 (.int .i64) (ar4216 : List Int)), (4240, .arr 1 (.int .i64) (ar4240 : List Int))]⟩ [R64 ((i + 1 : Nat) : Int)] ?_ ?_)
         ·
          refine ⟨?_, trivial⟩
          ·
           refine R64.of ?_
           omega
         refine AW.back (x := (n, i, seen)) (n, i + 1, seen) (by kernel_rfl) ⟨?_, k562q, ?_, e572⟩ ?_
         ·
          show (n ≤ (i + 1) ∧ (i + 1) ≤ 100) ∧ List.length seen ≤ (i + 1)
          (try simp only [List.length_append, List.length_cons, List.length_nil])
          omega
         ·
          show (List.length (Tab.Rows ((randomTable r width 8).1))) - (i + 1) < k562q
          omega
         ·
          show (List.length (Tab.Rows ((randomTable r width 8).1))) - (i + 1) < (List.length (Tab.Rows ((randomTable r width 8).1))) - i
          omega
      ·
       intro h573
       have h573q := (of_decide_eq_false h573)
       have e574 := e561.trans (Go.Am.bif_f h573)
       refine AW.kp [1, 2, 3, 4, 5, 6, 1000, 1004] [0, 16, 4004, 4008, 4012, 4076, 4216, 4240] ⟨[(1, .ref 4004 1 0), (2, .ref 4008 1 0), (3, .ref 4012 1 0), (4, sI ((c : Nat) : Int)), (5, .arr 4076 1), (6, sI ((n : Nat) : Int)), (1000, .ref 0 0 0), (1004, .ref 16 1 0)], [(0, .box 0 [sD9 (Rdr.b ((randomTable r width 8).2)), sI (Rdr.p ((randomTable r width 8).2))]), (16, .box 1 [sI 0, .nilsl, .nilsl]), (4004, .box 1 [sI (Tab.Width ((randomTable r width 8).1)), sD12 (Tab.Rows ((randomTable r width 8).1))]), (4008, .box 1 [sI 0, .nilsl, .nilsl]), (4012, .box 1 [sI ((List.length (Tab.Rows ((randomTable r width 8).1)) : Nat) : Int), .arr 4216 1, .arr 4240 1]), (4076, .arr 1 (.slice (.named 0)) (seen : List (List Val))), (4216, .arr 1 (.int .i64) (ar4216 : List Int)), (4240, .arr 1 (.int .i64) (ar4240 : List Int))]⟩ ?_
       refine AW.exit ?_
       refine AW.meet (n, seen) (by kernel_rfl) ⟨?_, e574⟩
       show n ≤ 100 ∧ List.length seen ≤ 100
       omega
    ·
     intro x hR
     obtain ⟨n, seen⟩ := x
     obtain ⟨hJ1, e575⟩ := hR
     replace hJ1 : n ≤ 100 ∧ List.length seen ≤ 100 := hJ1
     have e576 := e523.trans (Go.Am.then_eq e575)
     refine AW.seq (AW.r0 hC1 [1, 2, 3, 4, 6, 1000, 1004] [0, 16, 4004, 4008, 4012, 4216, 4240] ⟨[(1, .ref 4004 1 0), (2, .ref 4008 1 0), (3, .ref 4012 1 0), (4, sI ((c : Nat) : Int)), (6, sI ((n : Nat) : Int)), (1000, .ref 0 0 0), (1004, .ref 16 1 0)], [(0, .box 0 [sD9 (Rdr.b ((randomTable r width 8).2)), sI (Rdr.p ((randomTable r width 8).2))]), (16, .box 1 [sI 0, .nilsl, .nilsl]), (4004, .box 1 [sI (Tab.Width ((randomTable r width 8).1)), sD12 (Tab.Rows ((randomTable r width 8).1))]), (4008, .box 1 [sI 0, .nilsl, .nilsl]), (4012, .box 1 [sI ((List.length (Tab.Rows ((randomTable r width 8).1)) : Nat) : Int), .arr 4216 1, .arr 4240 1]), (4216, .arr 1 (.int .i64) ((ar4216 ++ ([((List.length seen : Nat) : Int)] : List Int)) : List Int)), (4240, .arr 1 (.int .i64) (ar4240 : List Int))]⟩ [(((List.length ar4216 : Nat) : Int) + ((List.length ([((List.length seen : Nat) : Int)] : List Int) : Nat) : Int) ≤ 4294967296)] ?_ ?_)
     ·
      refine ⟨?_, trivial⟩
      ·
       simp only [List.length_cons, List.length_nil, List.length_append]; omega
     refine AW.r0 hC1 [1, 2, 3, 4, 1000, 1004] [0, 16, 4004, 4008, 4012, 4216, 4240] ⟨[(1, .ref 4004 1 0), (2, .ref 4008 1 0), (3, .ref 4012 1 0), (4, sI ((c : Nat) : Int)), (1000, .ref 0 0 0), (1004, .ref 16 1 0)], [(0, .box 0 [sD9 (Rdr.b ((randomTable r width 8).2)), sI (Rdr.p ((randomTable r width 8).2))]), (16, .box 1 [sI 0, .nilsl, .nilsl]), (4004, .box 1 [sI (Tab.Width ((randomTable r width 8).1)), sD12 (Tab.Rows ((randomTable r width 8).1))]), (4008, .box 1 [sI 0, .nilsl, .nilsl]), (4012, .box 1 [sI ((List.length (Tab.Rows ((randomTable r width 8).1)) : Nat) : Int), .arr 4216 1, .arr 4240 1]), (4216, .arr 1 (.int .i64) ((ar4216 ++ ([((List.length seen : Nat) : Int)] : List Int)) : List Int)), (4240, .arr 1 (.int .i64) ((ar4240 ++ ([((n : Nat) : Int)] : List Int)) : List Int))]⟩ [(((List.length ar4240 : Nat) : Int) + ((List.length ([((n : Nat) : Int)] : List Int) : Nat) : Int) ≤ 4294967296)] ?_ ?_
     ·
      refine ⟨?_, trivial⟩
      ·
       simp only [List.length_cons, List.length_nil, List.length_append]; omega
     refine AW.r0 hC1 [1, 2, 3, 4, 1000, 1004] [0, 16, 4004, 4008, 4012, 4216, 4240] ⟨[(1, .ref 4004 1 0), (2, .ref 4008 1 0), (3, .ref 4012 1 0), (4, sI ((c + 1 : Nat) : Int)), (1000, .ref 0 0 0), (1004, .ref 16 1 0)], [(0, .box 0 [sD9 (Rdr.b ((randomTable r width 8).2)), sI (Rdr.p ((randomTable r width 8).2))]), (16, .box 1 [sI 0, .nilsl, .nilsl]), (4004, .box 1 [sI (Tab.Width ((randomTable r width 8).1)), sD12 (Tab.Rows ((randomTable r width 8).1))]), (4008, .box 1 [sI 0, .nilsl, .nilsl]), (4012, .box 1 [sI ((List.length (Tab.Rows ((randomTable r width 8).1)) : Nat) : Int), .arr 4216 1, .arr 4240 1]), (4216, .arr 1 (.int .i64) ((ar4216 ++ ([((List.length seen : Nat) : Int)] : List Int)) : List Int)), (4240, .arr 1 (.int .i64) ((ar4240 ++ ([((n : Nat) : Int)] : List Int)) : List Int))]⟩ [R64 ((c + 1 : Nat) : Int)] ?_ ?_
     ·
      refine ⟨?_, trivial⟩
      ·
       refine R64.of ?_
       omega
     refine AW.back (x := (c, ar4216, ar4240)) (c + 1, (ar4216 ++ ([((List.length seen : Nat) : Int)] : List Int)), (ar4240 ++ ([((n : Nat) : Int)] : List Int))) (by kernel_rfl) ⟨?_, k521q, ?_, e576⟩ ?_
     ·
      show (List.length (ar4216 ++ ([((List.length seen : Nat) : Int)] : List Int)) = (c + 1) ∧ List.length (ar4240 ++ ([((n : Nat) : Int)] : List Int)) = (c + 1)) ∧ ((c + 1) : Int) ≤ width
      simp only [List.length_append, List.length_cons, List.length_nil]
      omega
     ·
      show Int.toNat ((Tab.Width ((randomTable r width 8).1)) - (((c + 1) : Nat) : Int)) < k521q
      omega
     ·
      show Int.toNat ((Tab.Width ((randomTable r width 8).1)) - (((c + 1) : Nat) : Int)) < Int.toNat ((Tab.Width ((randomTable r width 8).1)) - ((c : Nat) : Int))
      omega
   ·
    intro h577
    have h577q := (of_decide_eq_false h577)
    have e578 := e520.trans (Go.Am.bif_f h577)
    refine AW.kp [2, 3, 1000, 1004] [0, 16, 4008, 4012, 4216, 4240] ⟨[(2, .ref 4008 1 0), (3, .ref 4012 1 0), (1000, .ref 0 0 0), (1004, .ref 16 1 0)], [(0, .box 0 [sD9 (Rdr.b ((randomTable r width 8).2)), sI (Rdr.p ((randomTable r width 8).2))]), (16, .box 1 [sI 0, .nilsl, .nilsl]), (4008, .box 1 [sI 0, .nilsl, .nilsl]), (4012, .box 1 [sI ((List.length (Tab.Rows ((randomTable r width 8).1)) : Nat) : Int), .arr 4216 1, .arr 4240 1]), (4216, .arr 1 (.int .i64) (ar4216 : List Int)), (4240, .arr 1 (.int .i64) (ar4240 : List Int))]⟩ ?_
    refine AW.exit ?_
    refine AW.meet (ar4216, ar4240) (by kernel_rfl) ⟨?_, e578⟩
    show List.length ar4216 = Int.toNat width ∧ List.length ar4240 = Int.toNat width
    omega
 ·
  intro x hR
  obtain ⟨ar4216, ar4240⟩ := x
  obtain ⟨hJ0, e579⟩ := hR
  replace hJ0 : List.length ar4216 = Int.toNat width ∧ List.length ar4240 = Int.toNat width := hJ0
  have e580 := e0.trans (Go.Am.then_eq e579)
  refine AW.seq (AW.r1 hC1 [2, 1000, 1004] [0, 16, 4008, 4216, 4240] ⟨[(2, .ref 4008 1 0), (1000, .ref 0 0 0), (1004, .ref 16 1 0)], [(0, .box 0 [sD9 (Rdr.b ((randomTable r width 8).2)), sI (Rdr.p ((randomTable r width 8).2))]), (16, .box 1 [sI 0, .nilsl, .nilsl]), (4008, .box 1 [sI ((List.length (Tab.Rows ((randomTable r width 8).1)) : Nat) : Int), .arr 4216 1, .arr 4240 1]), (4216, .arr 1 (.int .i64) (ar4216 : List Int)), (4240, .arr 1 (.int .i64) (ar4240 : List Int))]⟩ ?_)
  refine AW.ret ?_
  refine ⟨[.agg [sI ((List.length (Tab.Rows ((randomTable r width 8).1)) : Nat) : Int), .arr 4216 1, .arr 4240 1]], by kernel_rfl, ?_⟩
  refine AWO.keep [0, 4, 9] [0, 16, 4216, 4240] ⟨[(0, .ref 0 0 0), (4, .ref 16 1 0), (9, .agg [sI ((List.length (Tab.Rows ((randomTable r width 8).1)) : Nat) : Int), .arr 4216 1, .arr 4240 1])], [(0, .box 0 [sD9 (Rdr.b ((randomTable r width 8).2)), sI (Rdr.p ((randomTable r width 8).2))]), (16, .box 1 [sI 0, .nilsl, .nilsl]), (4216, .arr 1 (.int .i64) (ar4216 : List Int)), (4240, .arr 1 (.int .i64) (ar4240 : List Int))]⟩ (by kernel_rfl) ?_
  refine AWO.run hC false [] [4, 5] [] [0, 4, 5] [0, 16, 20, 4216, 4240]
   ⟨[(0, .ref 0 0 0), (4, .ref 16 1 0), (5, .ref 20 1 0)], [(0, .box 0 [sD9 (Rdr.b ((randomTable r width 8).2)), sI (Rdr.p ((randomTable r width 8).2))]), (16, .box 1 [sI 0, .nilsl, .nilsl]), (20, .box 1 [sI ((List.length (Tab.Rows ((randomTable r width 8).1)) : Nat) : Int), .arr 4216 1, .arr 4240 1]), (4216, .arr 1 (.int .i64) (ar4216 : List Int)), (4240, .arr 1 (.int .i64) (ar4240 : List Int))]⟩
   [] (by rfl) (by kernel_rfl) ?_ ?_
  ·
   exact trivial
  refine AWO.nil ?_
  refine AW.seq (AW.seq (AW.r0 hC [0, 4, 5, 12] [0, 16, 20, 4216, 4240] ⟨[(0, .ref 0 0 0), (4, .ref 16 1 0), (5, .ref 20 1 0), (12, sB ((pick (Rdr.b ((randomTable r width 8).2)) (Rdr.p ((randomTable r width 8).2)) 2) == 0))], [(0, .box 0 [sD9 (Rdr.b ((randomTable r width 8).2)), sI ((Rdr.p ((randomTable r width 8).2)) + 1)]), (16, .box 1 [sI 0, .nilsl, .nilsl]), (20, .box 1 [sI ((List.length (Tab.Rows ((randomTable r width 8).1)) : Nat) : Int), .arr 4216 1, .arr 4240 1]), (4216, .arr 1 (.int .i64) (ar4216 : List Int)), (4240, .arr 1 (.int .i64) (ar4240 : List Int))]⟩ [(0 ≤ ((randomTable r width 8).2).p ∧ ((randomTable r width 8).2).p ≤ 1099511627776)] ?_ ?_))
  ·
   refine ⟨?_, trivial⟩
   ·
    omega
  refine AW.cd ((pick (Rdr.b ((randomTable r width 8).2)) (Rdr.p ((randomTable r width 8).2)) 2) == 0) ?_ ?_
  ·
   intro h581
   have h581q := (Go.Am.beq_pos h581)
   have e582 := e580.trans (Go.Am.bif_t h581)
   refine AW.r0 hC [0, 4, 5] [0, 16, 20, 4216, 4240] ⟨[(0, .ref 0 0 0), (4, .ref 16 1 0), (5, .ref 20 1 0)], [(0, .box 0 [sD9 (Rdr.b ((randomTable r width 8).2)), sI ((Rdr.p ((randomTable r width 8).2)) + 1)]), (16, .box 1 [sI 0, .nilsl, .nilsl]), (20, .box 1 [sI (((List.length (Tab.Rows ((randomTable r width 8).1))) + 100 : Nat) : Int), .arr 4216 1, .arr 4240 1]), (4216, .arr 1 (.int .i64) (ar4216 : List Int)), (4240, .arr 1 (.int .i64) (ar4240 : List Int))]⟩ [R64 (((List.length (Tab.Rows ((randomTable r width 8).1))) + 100 : Nat) : Int)] ?_ ?_
   ·
    refine ⟨?_, trivial⟩
    ·
     refine R64.of ?_
     omega
   refine AW.seq (AW.seq (AW.r0 hC [0, 4, 5, 18] [0, 16, 20, 4216, 4240] ⟨[(0, .ref 0 0 0), (4, .ref 16 1 0), (5, .ref 20 1 0), (18, sI (pick (Rdr.b ((randomTable r width 8).2)) ((Rdr.p ((randomTable r width 8).2)) + 1) 16))], [(0, .box 0 [sD9 (Rdr.b ((randomTable r width 8).2)), sI (((Rdr.p ((randomTable r width 8).2)) + 1) + 1)]), (16, .box 1 [sI 0, .nilsl, .nilsl]), (20, .box 1 [sI (((List.length (Tab.Rows ((randomTable r width 8).1))) + 100 : Nat) : Int), .arr 4216 1, .arr 4240 1]), (4216, .arr 1 (.int .i64) (ar4216 : List Int)), (4240, .arr 1 (.int .i64) (ar4240 : List Int))]⟩ [(0 ≤ (Rdr.mk (Rdr.b ((randomTable r width 8).2)) ((Rdr.p ((randomTable r width 8).2)) + 1)).p ∧ (Rdr.mk (Rdr.b ((randomTable r width 8).2)) ((Rdr.p ((randomTable r width 8).2)) + 1)).p ≤ 1099511627776)] ?_ ?_))
   ·
    refine ⟨?_, trivial⟩
    ·
     simp only [List.length_cons, List.length_nil, List.length_append]; omega
   refine AW.block (AW.seq (AW.r1 hC [0, 4, 5, 18, 19] [0, 16, 20, 4216, 4240] ⟨[(0, .ref 0 0 0), (4, .ref 16 1 0), (5, .ref 20 1 0), (18, sI (pick (Rdr.b ((randomTable r width 8).2)) ((Rdr.p ((randomTable r width 8).2)) + 1) 16)), (19, sB ((pick (Rdr.b ((randomTable r width 8).2)) ((Rdr.p ((randomTable r width 8).2)) + 1) 16) == 0))], [(0, .box 0 [sD9 (Rdr.b ((randomTable r width 8).2)), sI (((Rdr.p ((randomTable r width 8).2)) + 1) + 1)]), (16, .box 1 [sI 0, .nilsl, .nilsl]), (20, .box 1 [sI (((List.length (Tab.Rows ((randomTable r width 8).1))) + 100 : Nat) : Int), .arr 4216 1, .arr 4240 1]), (4216, .arr 1 (.int .i64) (ar4216 : List Int)), (4240, .arr 1 (.int .i64) (ar4240 : List Int))]⟩ ?_))
   refine AW.cd ((pick (Rdr.b ((randomTable r width 8).2)) ((Rdr.p ((randomTable r width 8).2)) + 1) 16) == 0) ?_ ?_
   ·
    intro h583
    have h583q := (Go.Am.beq_pos h583)
    have e584 := e582.trans (Go.Am.bif_t h583)
    refine AW.r0 hC [4, 5] [0, 16, 20, 4216, 4240] ⟨[(4, .ref 16 1 0), (5, .ref 20 1 0)], [(0, .box 0 [sD9 (Rdr.b ((randomTable r width 8).2)), sI ((((Rdr.p ((randomTable r width 8).2)) + 1) + 1) + 1)]), (16, .box 1 [sI 0, .nilsl, .nilsl]), (20, .box 1 [sI (one (Rdr.b ((randomTable r width 8).2)) (((Rdr.p ((randomTable r width 8).2)) + 1) + 1) ([(-1), 401] : List Int)), .arr 4216 1, .arr 4240 1]), (4216, .arr 1 (.int .i64) (ar4216 : List Int)), (4240, .arr 1 (.int .i64) (ar4240 : List Int))]⟩ [((0 ≤ (Rdr.mk (Rdr.b ((randomTable r width 8).2)) (((Rdr.p ((randomTable r width 8).2)) + 1) + 1)).p ∧ (Rdr.mk (Rdr.b ((randomTable r width 8).2)) (((Rdr.p ((randomTable r width 8).2)) + 1) + 1)).p ≤ 1099511627775) ∧ 1 ≤ (List.length ([(-1), 401] : List Int) : Int))] ?_ ?_
    ·
     refine ⟨?_, trivial⟩
     ·
      simp only [List.length_cons, List.length_nil, List.length_append]; omega
    refine AW.seq (AW.r1 hC [4] [0, 16, 4216, 4240] ⟨[(4, .ref 16 1 0)], [(0, .box 0 [sD9 (Rdr.b ((randomTable r width 8).2)), sI ((((Rdr.p ((randomTable r width 8).2)) + 1) + 1) + 1)]), (16, .box 1 [sI (one (Rdr.b ((randomTable r width 8).2)) (((Rdr.p ((randomTable r width 8).2)) + 1) + 1) ([(-1), 401] : List Int)), .arr 4216 1, .arr 4240 1]), (4216, .arr 1 (.int .i64) (ar4216 : List Int)), (4240, .arr 1 (.int .i64) (ar4240 : List Int))]⟩ ?_)
    exact AW.ret (AW.retE (β := Sta × Rdr) (fun v => [⟨(.named 3), v.1⟩]) (fun v => [⟨(.named 2), v.2⟩]) (v := ((Sta.mk (one (Rdr.b ((randomTable r width 8).2)) (((Rdr.p ((randomTable r width 8).2)) + 1) + 1) ([(-1), 401] : List Int)) ar4216 ar4240), (Rdr.mk (Rdr.b ((randomTable r width 8).2)) ((((Rdr.p ((randomTable r width 8).2)) + 1) + 1) + 1)))) e584 (by kernel_rfl) rfl rfl)
   ·
    intro h585
    have h585q := (Go.Am.beq_neg h585)
    have e586 := e582.trans (Go.Am.bif_f h585)
    refine AW.seq (AW.r1 hC [4, 5, 18, 25] [0, 16, 20, 4216, 4240] ⟨[(4, .ref 16 1 0), (5, .ref 20 1 0), (18, sI (pick (Rdr.b ((randomTable r width 8).2)) ((Rdr.p ((randomTable r width 8).2)) + 1) 16)), (25, sB ((pick (Rdr.b ((randomTable r width 8).2)) ((Rdr.p ((randomTable r width 8).2)) + 1) 16) == 1))], [(0, .box 0 [sD9 (Rdr.b ((randomTable r width 8).2)), sI (((Rdr.p ((randomTable r width 8).2)) + 1) + 1)]), (16, .box 1 [sI 0, .nilsl, .nilsl]), (20, .box 1 [sI (((List.length (Tab.Rows ((randomTable r width 8).1))) + 100 : Nat) : Int), .arr 4216 1, .arr 4240 1]), (4216, .arr 1 (.int .i64) (ar4216 : List Int)), (4240, .arr 1 (.int .i64) (ar4240 : List Int))]⟩ ?_)
    refine AW.cd ((pick (Rdr.b ((randomTable r width 8).2)) ((Rdr.p ((randomTable r width 8).2)) + 1) 16) == 1) ?_ ?_
    ·
     intro h587
     have h587q := (Go.Am.beq_pos h587)
     have e588 := e586.trans (Go.Am.bif_t h587)
     refine AW.r0 hC [4, 5] [0, 16, 20, 4216, 4240] ⟨[(4, .ref 16 1 0), (5, .ref 20 1 0)], [(0, .box 0 [sD9 (Rdr.b ((randomTable r width 8).2)), sI (((Rdr.p ((randomTable r width 8).2)) + 1) + 1)]), (16, .box 1 [sI 0, .nilsl, .nilsl]), (20, .box 1 [sI (((List.length (Tab.Rows ((randomTable r width 8).1))) + 100 : Nat) : Int), .arr 4216 1, .arr 4240 1]), (4216, .arr 1 (.int .i64) (ar4216 : List Int)), (4240, .arr 1 (.int .i64) ((List.set ar4240 0 ((((List.length (Tab.Rows ((randomTable r width 8).1))) + 100) + 1 : Nat) : Int)) : List Int))]⟩ [R64 ((((List.length (Tab.Rows ((randomTable r width 8).1))) + 100) + 1 : Nat) : Int), IX (0 : Int) ((List.length ar4240 : Nat) : Int)] ?_ ?_
     ·
      refine ⟨?_, ?_, trivial⟩
      ·
       refine R64.of ?_
       omega
      ·
       refine IX.of ?_
       omega
     refine AW.seq (AW.r1 hC [4] [0, 16, 4216, 4240] ⟨[(4, .ref 16 1 0)], [(0, .box 0 [sD9 (Rdr.b ((randomTable r width 8).2)), sI (((Rdr.p ((randomTable r width 8).2)) + 1) + 1)]), (16, .box 1 [sI (((List.length (Tab.Rows ((randomTable r width 8).1))) + 100 : Nat) : Int), .arr 4216 1, .arr 4240 1]), (4216, .arr 1 (.int .i64) (ar4216 : List Int)), (4240, .arr 1 (.int .i64) ((List.set ar4240 0 ((((List.length (Tab.Rows ((randomTable r width 8).1))) + 100) + 1 : Nat) : Int)) : List Int))]⟩ ?_)
     exact AW.ret (AW.retE (β := Sta × Rdr) (fun v => [⟨(.named 3), v.1⟩]) (fun v => [⟨(.named 2), v.2⟩]) (v := ((Sta.mk (((List.length (Tab.Rows ((randomTable r width 8).1))) + 100 : Nat) : Int) ar4216 (List.set ar4240 0 ((((List.length (Tab.Rows ((randomTable r width 8).1))) + 100) + 1 : Nat) : Int))), (Rdr.mk (Rdr.b ((randomTable r width 8).2)) (((Rdr.p ((randomTable r width 8).2)) + 1) + 1)))) e588 (by kernel_rfl) rfl rfl)
    ·
     intro h589
     have h589q := (Go.Am.beq_neg h589)
     have e590 := e586.trans (Go.Am.bif_f h589)
     refine AW.seq (AW.r1 hC [4, 5, 33] [0, 16, 20, 4216, 4240] ⟨[(4, .ref 16 1 0), (5, .ref 20 1 0), (33, sB ((pick (Rdr.b ((randomTable r width 8).2)) ((Rdr.p ((randomTable r width 8).2)) + 1) 16) == 2))], [(0, .box 0 [sD9 (Rdr.b ((randomTable r width 8).2)), sI (((Rdr.p ((randomTable r width 8).2)) + 1) + 1)]), (16, .box 1 [sI 0, .nilsl, .nilsl]), (20, .box 1 [sI (((List.length (Tab.Rows ((randomTable r width 8).1))) + 100 : Nat) : Int), .arr 4216 1, .arr 4240 1]), (4216, .arr 1 (.int .i64) (ar4216 : List Int)), (4240, .arr 1 (.int .i64) (ar4240 : List Int))]⟩ ?_)
     refine AW.cd ((pick (Rdr.b ((randomTable r width 8).2)) ((Rdr.p ((randomTable r width 8).2)) + 1) 16) == 2) ?_ ?_
     ·
      intro h591
      have h591q := (Go.Am.beq_pos h591)
      have e592 := e590.trans (Go.Am.bif_t h591)
      refine AW.r0 hC [4, 5] [0, 16, 20, 4216, 4240] ⟨[(4, .ref 16 1 0), (5, .ref 20 1 0)], [(0, .box 0 [sD9 (Rdr.b ((randomTable r width 8).2)), sI (((Rdr.p ((randomTable r width 8).2)) + 1) + 1)]), (16, .box 1 [sI 0, .nilsl, .nilsl]), (20, .box 1 [sI (((List.length (Tab.Rows ((randomTable r width 8).1))) + 100 : Nat) : Int), .arr 4216 1, .arr 4240 1]), (4216, .arr 1 (.int .i64) ((ar4216 ++ ([0] : List Int)) : List Int)), (4240, .arr 1 (.int .i64) (ar4240 : List Int))]⟩ [(((List.length ar4216 : Nat) : Int) + ((List.length ([0] : List Int) : Nat) : Int) ≤ 4294967296)] ?_ ?_
      ·
       refine ⟨?_, trivial⟩
       ·
        simp only [List.length_cons, List.length_nil, List.length_append]; omega
      refine AW.seq (AW.r1 hC [4] [0, 16, 4216, 4240] ⟨[(4, .ref 16 1 0)], [(0, .box 0 [sD9 (Rdr.b ((randomTable r width 8).2)), sI (((Rdr.p ((randomTable r width 8).2)) + 1) + 1)]), (16, .box 1 [sI (((List.length (Tab.Rows ((randomTable r width 8).1))) + 100 : Nat) : Int), .arr 4216 1, .arr 4240 1]), (4216, .arr 1 (.int .i64) ((ar4216 ++ ([0] : List Int)) : List Int)), (4240, .arr 1 (.int .i64) (ar4240 : List Int))]⟩ ?_)
      exact AW.ret (AW.retE (β := Sta × Rdr) (fun v => [⟨(.named 3), v.1⟩]) (fun v => [⟨(.named 2), v.2⟩]) (v := ((Sta.mk (((List.length (Tab.Rows ((randomTable r width 8).1))) + 100 : Nat) : Int) (ar4216 ++ ([0] : List Int)) ar4240), (Rdr.mk (Rdr.b ((randomTable r width 8).2)) (((Rdr.p ((randomTable r width 8).2)) + 1) + 1)))) e592 (by kernel_rfl) rfl rfl)
     ·
      intro h593
      have h593q := (Go.Am.beq_neg h593)
      have e594 := e590.trans (Go.Am.bif_f h593)
      refine AW.kp [4, 5] [0, 16, 20, 4216, 4240] ⟨[(4, .ref 16 1 0), (5, .ref 20 1 0)], [(0, .box 0 [sD9 (Rdr.b ((randomTable r width 8).2)), sI (((Rdr.p ((randomTable r width 8).2)) + 1) + 1)]), (16, .box 1 [sI 0, .nilsl, .nilsl]), (20, .box 1 [sI (((List.length (Tab.Rows ((randomTable r width 8).1))) + 100 : Nat) : Int), .arr 4216 1, .arr 4240 1]), (4216, .arr 1 (.int .i64) (ar4216 : List Int)), (4240, .arr 1 (.int .i64) (ar4240 : List Int))]⟩ ?_
      refine AW.skip (AW.seq (AW.r1 hC [4] [0, 16, 4216, 4240] ⟨[(4, .ref 16 1 0)], [(0, .box 0 [sD9 (Rdr.b ((randomTable r width 8).2)), sI (((Rdr.p ((randomTable r width 8).2)) + 1) + 1)]), (16, .box 1 [sI (((List.length (Tab.Rows ((randomTable r width 8).1))) + 100 : Nat) : Int), .arr 4216 1, .arr 4240 1]), (4216, .arr 1 (.int .i64) (ar4216 : List Int)), (4240, .arr 1 (.int .i64) (ar4240 : List Int))]⟩ ?_))
      exact AW.ret (AW.retE (β := Sta × Rdr) (fun v => [⟨(.named 3), v.1⟩]) (fun v => [⟨(.named 2), v.2⟩]) (v := ((Sta.mk (((List.length (Tab.Rows ((randomTable r width 8).1))) + 100 : Nat) : Int) ar4216 ar4240), (Rdr.mk (Rdr.b ((randomTable r width 8).2)) (((Rdr.p ((randomTable r width 8).2)) + 1) + 1)))) e594 (by kernel_rfl) rfl rfl)
  ·
   intro h595
   have h595q := (Go.Am.beq_neg h595)
   have e596 := e580.trans (Go.Am.bif_f h595)
   refine AW.kp [0, 4, 5] [0, 16, 20, 4216, 4240] ⟨[(0, .ref 0 0 0), (4, .ref 16 1 0), (5, .ref 20 1 0)], [(0, .box 0 [sD9 (Rdr.b ((randomTable r width 8).2)), sI ((Rdr.p ((randomTable r width 8).2)) + 1)]), (16, .box 1 [sI 0, .nilsl, .nilsl]), (20, .box 1 [sI ((List.length (Tab.Rows ((randomTable r width 8).1)) : Nat) : Int), .arr 4216 1, .arr 4240 1]), (4216, .arr 1 (.int .i64) (ar4216 : List Int)), (4240, .arr 1 (.int .i64) (ar4240 : List Int))]⟩ ?_
   refine AW.skip (AW.seq (AW.seq (AW.r0 hC [0, 4, 5, 18] [0, 16, 20, 4216, 4240] ⟨[(0, .ref 0 0 0), (4, .ref 16 1 0), (5, .ref 20 1 0), (18, sI (pick (Rdr.b ((randomTable r width 8).2)) ((Rdr.p ((randomTable r width 8).2)) + 1) 16))], [(0, .box 0 [sD9 (Rdr.b ((randomTable r width 8).2)), sI (((Rdr.p ((randomTable r width 8).2)) + 1) + 1)]), (16, .box 1 [sI 0, .nilsl, .nilsl]), (20, .box 1 [sI ((List.length (Tab.Rows ((randomTable r width 8).1)) : Nat) : Int), .arr 4216 1, .arr 4240 1]), (4216, .arr 1 (.int .i64) (ar4216 : List Int)), (4240, .arr 1 (.int .i64) (ar4240 : List Int))]⟩ [(0 ≤ (Rdr.mk (Rdr.b ((randomTable r width 8).2)) ((Rdr.p ((randomTable r width 8).2)) + 1)).p ∧ (Rdr.mk (Rdr.b ((randomTable r width 8).2)) ((Rdr.p ((randomTable r width 8).2)) + 1)).p ≤ 1099511627776)] ?_ ?_)))
   ·
    refine ⟨?_, trivial⟩
    ·
     simp only [List.length_cons, List.length_nil, List.length_append]; omega
   refine AW.block (AW.seq (AW.r1 hC [0, 4, 5, 18, 19] [0, 16, 20, 4216, 4240] ⟨[(0, .ref 0 0 0), (4, .ref 16 1 0), (5, .ref 20 1 0), (18, sI (pick (Rdr.b ((randomTable r width 8).2)) ((Rdr.p ((randomTable r width 8).2)) + 1) 16)), (19, sB ((pick (Rdr.b ((randomTable r width 8).2)) ((Rdr.p ((randomTable r width 8).2)) + 1) 16) == 0))], [(0, .box 0 [sD9 (Rdr.b ((randomTable r width 8).2)), sI (((Rdr.p ((randomTable r width 8).2)) + 1) + 1)]), (16, .box 1 [sI 0, .nilsl, .nilsl]), (20, .box 1 [sI ((List.length (Tab.Rows ((randomTable r width 8).1)) : Nat) : Int), .arr 4216 1, .arr 4240 1]), (4216, .arr 1 (.int .i64) (ar4216 : List Int)), (4240, .arr 1 (.int .i64) (ar4240 : List Int))]⟩ ?_))
   refine AW.cd ((pick (Rdr.b ((randomTable r width 8).2)) ((Rdr.p ((randomTable r width 8).2)) + 1) 16) == 0) ?_ ?_
   ·
    intro h597
    have h597q := (Go.Am.beq_pos h597)
    have e598 := e596.trans (Go.Am.bif_t h597)
    refine AW.r0 hC [4, 5] [0, 16, 20, 4216, 4240] ⟨[(4, .ref 16 1 0), (5, .ref 20 1 0)], [(0, .box 0 [sD9 (Rdr.b ((randomTable r width 8).2)), sI ((((Rdr.p ((randomTable r width 8).2)) + 1) + 1) + 1)]), (16, .box 1 [sI 0, .nilsl, .nilsl]), (20, .box 1 [sI (one (Rdr.b ((randomTable r width 8).2)) (((Rdr.p ((randomTable r width 8).2)) + 1) + 1) ([(-1), 401] : List Int)), .arr 4216 1, .arr 4240 1]), (4216, .arr 1 (.int .i64) (ar4216 : List Int)), (4240, .arr 1 (.int .i64) (ar4240 : List Int))]⟩ [((0 ≤ (Rdr.mk (Rdr.b ((randomTable r width 8).2)) (((Rdr.p ((randomTable r width 8).2)) + 1) + 1)).p ∧ (Rdr.mk (Rdr.b ((randomTable r width 8).2)) (((Rdr.p ((randomTable r width 8).2)) + 1) + 1)).p ≤ 1099511627775) ∧ 1 ≤ (List.length ([(-1), 401] : List Int) : Int))] ?_ ?_
    ·
     refine ⟨?_, trivial⟩
     ·
      simp only [List.length_cons, List.length_nil, List.length_append]; omega
    refine AW.seq (AW.r1 hC [4] [0, 16, 4216, 4240] ⟨[(4, .ref 16 1 0)], [(0, .box 0 [sD9 (Rdr.b ((randomTable r width 8).2)), sI ((((Rdr.p ((randomTable r width 8).2)) + 1) + 1) + 1)]), (16, .box 1 [sI (one (Rdr.b ((randomTable r width 8).2)) (((Rdr.p ((randomTable r width 8).2)) + 1) + 1) ([(-1), 401] : List Int)), .arr 4216 1, .arr 4240 1]), (4216, .arr 1 (.int .i64) (ar4216 : List Int)), (4240, .arr 1 (.int .i64) (ar4240 : List Int))]⟩ ?_)
    exact AW.ret (AW.retE (β := Sta × Rdr) (fun v => [⟨(.named 3), v.1⟩]) (fun v => [⟨(.named 2), v.2⟩]) (v := ((Sta.mk (one (Rdr.b ((randomTable r width 8).2)) (((Rdr.p ((randomTable r width 8).2)) + 1) + 1) ([(-1), 401] : List Int)) ar4216 ar4240), (Rdr.mk (Rdr.b ((randomTable r width 8).2)) ((((Rdr.p ((randomTable r width 8).2)) + 1) + 1) + 1)))) e598 (by kernel_rfl) rfl rfl)
   ·
    intro h599
    have h599q := (Go.Am.beq_neg h599)
    have e600 := e596.trans (Go.Am.bif_f h599)
    refine AW.seq (AW.r1 hC [4, 5, 18, 25] [0, 16, 20, 4216, 4240] ⟨[(4, .ref 16 1 0), (5, .ref 20 1 0), (18, sI (pick (Rdr.b ((randomTable r width 8).2)) ((Rdr.p ((randomTable r width 8).2)) + 1) 16)), (25, sB ((pick (Rdr.b ((randomTable r width 8).2)) ((Rdr.p ((randomTable r width 8).2)) + 1) 16) == 1))], [(0, .box 0 [sD9 (Rdr.b ((randomTable r width 8).2)), sI (((Rdr.p ((randomTable r width 8).2)) + 1) + 1)]), (16, .box 1 [sI 0, .nilsl, .nilsl]), (20, .box 1 [sI ((List.length (Tab.Rows ((randomTable r width 8).1)) : Nat) : Int), .arr 4216 1, .arr 4240 1]), (4216, .arr 1 (.int .i64) (ar4216 : List Int)), (4240, .arr 1 (.int .i64) (ar4240 : List Int))]⟩ ?_)
    refine AW.cd ((pick (Rdr.b ((randomTable r width 8).2)) ((Rdr.p ((randomTable r width 8).2)) + 1) 16) == 1) ?_ ?_
    ·
     intro h601
     have h601q := (Go.Am.beq_pos h601)
     have e602 := e600.trans (Go.Am.bif_t h601)
     refine AW.r0 hC [4, 5] [0, 16, 20, 4216, 4240] ⟨[(4, .ref 16 1 0), (5, .ref 20 1 0)], [(0, .box 0 [sD9 (Rdr.b ((randomTable r width 8).2)), sI (((Rdr.p ((randomTable r width 8).2)) + 1) + 1)]), (16, .box 1 [sI 0, .nilsl, .nilsl]), (20, .box 1 [sI ((List.length (Tab.Rows ((randomTable r width 8).1)) : Nat) : Int), .arr 4216 1, .arr 4240 1]), (4216, .arr 1 (.int .i64) (ar4216 : List Int)), (4240, .arr 1 (.int .i64) ((List.set ar4240 0 (((List.length (Tab.Rows ((randomTable r width 8).1))) + 1 : Nat) : Int)) : List Int))]⟩ [R64 (((List.length (Tab.Rows ((randomTable r width 8).1))) + 1 : Nat) : Int), IX (0 : Int) ((List.length ar4240 : Nat) : Int)] ?_ ?_
     ·
      refine ⟨?_, ?_, trivial⟩
      ·
       refine R64.of ?_
       omega
      ·
       refine IX.of ?_
       omega
     refine AW.seq (AW.r1 hC [4] [0, 16, 4216, 4240] ⟨[(4, .ref 16 1 0)], [(0, .box 0 [sD9 (Rdr.b ((randomTable r width 8).2)), sI (((Rdr.p ((randomTable r width 8).2)) + 1) + 1)]), (16, .box 1 [sI ((List.length (Tab.Rows ((randomTable r width 8).1)) : Nat) : Int), .arr 4216 1, .arr 4240 1]), (4216, .arr 1 (.int .i64) (ar4216 : List Int)), (4240, .arr 1 (.int .i64) ((List.set ar4240 0 (((List.length (Tab.Rows ((randomTable r width 8).1))) + 1 : Nat) : Int)) : List Int))]⟩ ?_)
     exact AW.ret (AW.retE (β := Sta × Rdr) (fun v => [⟨(.named 3), v.1⟩]) (fun v => [⟨(.named 2), v.2⟩]) (v := ((Sta.mk ((List.length (Tab.Rows ((randomTable r width 8).1)) : Nat) : Int) ar4216 (List.set ar4240 0 (((List.length (Tab.Rows ((randomTable r width 8).1))) + 1 : Nat) : Int))), (Rdr.mk (Rdr.b ((randomTable r width 8).2)) (((Rdr.p ((randomTable r width 8).2)) + 1) + 1)))) e602 (by kernel_rfl) rfl rfl)
    ·
     intro h603
     have h603q := (Go.Am.beq_neg h603)
     have e604 := e600.trans (Go.Am.bif_f h603)
     refine AW.seq (AW.r1 hC [4, 5, 33] [0, 16, 20, 4216, 4240] ⟨[(4, .ref 16 1 0), (5, .ref 20 1 0), (33, sB ((pick (Rdr.b ((randomTable r width 8).2)) ((Rdr.p ((randomTable r width 8).2)) + 1) 16) == 2))], [(0, .box 0 [sD9 (Rdr.b ((randomTable r width 8).2)), sI (((Rdr.p ((randomTable r width 8).2)) + 1) + 1)]), (16, .box 1 [sI 0, .nilsl, .nilsl]), (20, .box 1 [sI ((List.length (Tab.Rows ((randomTable r width 8).1)) : Nat) : Int), .arr 4216 1, .arr 4240 1]), (4216, .arr 1 (.int .i64) (ar4216 : List Int)), (4240, .arr 1 (.int .i64) (ar4240 : List Int))]⟩ ?_)
     refine AW.cd ((pick (Rdr.b ((randomTable r width 8).2)) ((Rdr.p ((randomTable r width 8).2)) + 1) 16) == 2) ?_ ?_
     ·
      intro h605
      have h605q := (Go.Am.beq_pos h605)
      have e606 := e604.trans (Go.Am.bif_t h605)
      refine AW.r0 hC [4, 5] [0, 16, 20, 4216, 4240] ⟨[(4, .ref 16 1 0), (5, .ref 20 1 0)], [(0, .box 0 [sD9 (Rdr.b ((randomTable r width 8).2)), sI (((Rdr.p ((randomTable r width 8).2)) + 1) + 1)]), (16, .box 1 [sI 0, .nilsl, .nilsl]), (20, .box 1 [sI ((List.length (Tab.Rows ((randomTable r width 8).1)) : Nat) : Int), .arr 4216 1, .arr 4240 1]), (4216, .arr 1 (.int .i64) ((ar4216 ++ ([0] : List Int)) : List Int)), (4240, .arr 1 (.int .i64) (ar4240 : List Int))]⟩ [(((List.length ar4216 : Nat) : Int) + ((List.length ([0] : List Int) : Nat) : Int) ≤ 4294967296)] ?_ ?_
      ·
       refine ⟨?_, trivial⟩
       ·
        simp only [List.length_cons, List.length_nil, List.length_append]; omega
      refine AW.seq (AW.r1 hC [4] [0, 16, 4216, 4240] ⟨[(4, .ref 16 1 0)], [(0, .box 0 [sD9 (Rdr.b ((randomTable r width 8).2)), sI (((Rdr.p ((randomTable r width 8).2)) + 1) + 1)]), (16, .box 1 [sI ((List.length (Tab.Rows ((randomTable r width 8).1)) : Nat) : Int), .arr 4216 1, .arr 4240 1]), (4216, .arr 1 (.int .i64) ((ar4216 ++ ([0] : List Int)) : List Int)), (4240, .arr 1 (.int .i64) (ar4240 : List Int))]⟩ ?_)
      exact AW.ret (AW.retE (β := Sta × Rdr) (fun v => [⟨(.named 3), v.1⟩]) (fun v => [⟨(.named 2), v.2⟩]) (v := ((Sta.mk ((List.length (Tab.Rows ((randomTable r width 8).1)) : Nat) : Int) (ar4216 ++ ([0] : List Int)) ar4240), (Rdr.mk (Rdr.b ((randomTable r width 8).2)) (((Rdr.p ((randomTable r width 8).2)) + 1) + 1)))) e606 (by kernel_rfl) rfl rfl)
     ·
      intro h607
      have h607q := (Go.Am.beq_neg h607)
      have e608 := e604.trans (Go.Am.bif_f h607)
      refine AW.kp [4, 5] [0, 16, 20, 4216, 4240] ⟨[(4, .ref 16 1 0), (5, .ref 20 1 0)], [(0, .box 0 [sD9 (Rdr.b ((randomTable r width 8).2)), sI (((Rdr.p ((randomTable r width 8).2)) + 1) + 1)]), (16, .box 1 [sI 0, .nilsl, .nilsl]), (20, .box 1 [sI ((List.length (Tab.Rows ((randomTable r width 8).1)) : Nat) : Int), .arr 4216 1, .arr 4240 1]), (4216, .arr 1 (.int .i64) (ar4216 : List Int)), (4240, .arr 1 (.int .i64) (ar4240 : List Int))]⟩ ?_
      refine AW.skip (AW.seq (AW.r1 hC [4] [0, 16, 4216, 4240] ⟨[(4, .ref 16 1 0)], [(0, .box 0 [sD9 (Rdr.b ((randomTable r width 8).2)), sI (((Rdr.p ((randomTable r width 8).2)) + 1) + 1)]), (16, .box 1 [sI ((List.length (Tab.Rows ((randomTable r width 8).1)) : Nat) : Int), .arr 4216 1, .arr 4240 1]), (4216, .arr 1 (.int .i64) (ar4216 : List Int)), (4240, .arr 1 (.int .i64) (ar4240 : List Int))]⟩ ?_))
      exact AW.ret (AW.retE (β := Sta × Rdr) (fun v => [⟨(.named 3), v.1⟩]) (fun v => [⟨(.named 2), v.2⟩]) (v := ((Sta.mk ((List.length (Tab.Rows ((randomTable r width 8).1)) : Nat) : Int) ar4216 ar4240), (Rdr.mk (Rdr.b ((randomTable r width 8).2)) (((Rdr.p ((randomTable r width 8).2)) + 1) + 1)))) e608 (by kernel_rfl) rfl rfl)

theorem anyStats_p (r : Rdr) {width : Int} (hw : 1 ≤ width ∧ width ≤ 6) : CB r (r.p + 40010) (anyStats r width) := by
 have hT := (randomTable_p r (width := width) (most := 8) hw (by decide)).1
 unfold anyStats Go.Am.andThen
 dsimp only
 repeat' (first | exact CB.mk (by dsimp only; omega) | refine CB.bif (fun _ => ?_) (fun _ => ?_))

end
end Go.Proofs.Ytdkopkplfdobnaa
