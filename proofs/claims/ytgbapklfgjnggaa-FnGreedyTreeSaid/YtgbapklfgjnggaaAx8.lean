/-
  A part of the proof of this claim (Ax8): what functions of the program compute, and plain facts of that. No conditions.
-/
import Derived.Test.YtgbapklfgjnggaaAx7
set_option linter.all false
namespace Go.Proofs.Ytgbapklfgjnggaa
open Go Go.Am
noncomputable section

def anyGraph_l0 (r : Rdr) : Nat → Nat → Int → (List Int) → Int × (List Int)
 | 0, i, r1, ar4092 => (r1, ar4092)
 | k + 1, i, r1, ar4092 => (bif (decide (((i : Nat) : Int) < (1 + (pick (Rdr.b r) (Rdr.p r) 5)))) then (anyGraph_l0 r k (i + 1) (r1 + 1) (ar4092 ++ ([(one (Rdr.b r) r1 ([1, 2, 10, 50, 100, 1000, 7] : List Int))] : List Int))) else (r1, ar4092))

def anyGraph_l1 (r : Rdr) : Nat → Int → Int → (List Edge) → Int × (List Edge)
 | 0, k1, r11, ar4204 => (r11, ar4204)
 | k + 1, k1, r11, ar4204 => (bif (bif (decide (0 < k1)) then (decide (1 < (1 + (pick (Rdr.b r) (Rdr.p r) 5)))) else false) then (anyGraph_l1 r k (k1 - 1) (((r11 + 1) + 1) + 1) (ar4204 ++ ([(Edge.mk (pick (Rdr.b r) (r11 + 1) (1 + (pick (Rdr.b r) r11 ((1 + (pick (Rdr.b r) (Rdr.p r) 5)) - 1)))) (1 + (pick (Rdr.b r) r11 ((1 + (pick (Rdr.b r) (Rdr.p r) 5)) - 1))) (one (Rdr.b r) ((r11 + 1) + 1) ([1, 2, 10, 100, 3] : List Int)))] : List Edge))) else (r11, ar4204))

def anyGraph (r : Rdr) : Graph × Rdr := (Go.Am.andThen (anyGraph_l0 r (Int.toNat ((1 + (pick (Rdr.b r) (Rdr.p r) 5)) - ((0 : Nat) : Int)) + 1) 0 ((Rdr.p r) + 1) ([] : List Int)) (fun z => (fun (r1 : Int) (ar4092 : List Int) => (Go.Am.andThen (anyGraph_l1 r (Int.toNat (pick (Rdr.b r) r1 6) + 1) (pick (Rdr.b r) r1 6) (r1 + 1) ([] : List Edge)) (fun z => (fun (r11 : Int) (ar4204 : List Edge) => (bif ((pick (Rdr.b r) r11 18) == 0) then ((Graph.mk (List.set ar4092 0 (one (Rdr.b r) (r11 + 1) ([0, 1001] : List Int))) ar4204), (Rdr.mk (Rdr.b r) ((r11 + 1) + 1))) else (bif ((pick (Rdr.b r) r11 18) == 1) then ((Graph.mk ar4092 (ar4204 ++ ([(Edge.mk 0 (one (Rdr.b r) (r11 + 1) ([0, ((List.length ar4092 : Nat) : Int)] : List Int)) 1)] : List Edge))), (Rdr.mk (Rdr.b r) ((r11 + 1) + 1))) else (bif ((pick (Rdr.b r) r11 18) == 2) then ((Graph.mk (ar4092 ++ ([5, 5, 5, 5, 5] : List Int)) ar4204), (Rdr.mk (Rdr.b r) (r11 + 1))) else ((Graph.mk ar4092 ar4204), (Rdr.mk (Rdr.b r) (r11 + 1))))))) z.1 z.2))) z.1 z.2))

def anyGraph_sp : FnSpec := mkSpecB [.box 2] [.val (.named 1)] (fun (r : Rdr) => 0 ≤ r.p ∧ r.p ≤ 1000000000000) (fun (r : Rdr) => [⟨(.named 1), ((anyGraph r).1)⟩]) (fun (r : Rdr) => [⟨(.named 2), ((anyGraph r).2)⟩])

theorem anyGraph_ok : FnOK Try.prog 50 anyGraph_sp := by
 have hC : CtxOK Try.prog (mkCtx tyL [(51, pickS), (81, oneS)]) := CtxOK.cons pickS_ok (CtxOK.cons oneS_ok (CtxOK.nil tyOK))
 have hM : Try.prog.follows .mixedOrders = true := Try.checked.mixed
 have hC1 := hC.rebase 1000
 refine FnOK.of_body Try.func50 (by kernel_rfl) rfl (C := (mkCtx tyL [(51, pickS), (81, oneS)])) hC.ty (by kernel_rfl) ?_
 intro (r : Rdr) hwf hpre E
 have hpre : 0 ≤ r.p ∧ r.p ≤ 1000000000000 := hpre
 have hw_r : Wf ⟨(.named 2), (r : Rdr)⟩ := hwf _ (List.Mem.head _)
 have hl_r_b : ((List.length (Rdr.b r) : Nat) : Int) ≤ 9223372036854775807 := (hw_r.field (tv := ⟨(.slice (.int .u8)), Rdr.b r⟩) (List.Mem.head _)).len
 have hr_r_p : -9223372036854775808 ≤ Rdr.p r ∧ Rdr.p r ≤ 9223372036854775807 := (hw_r.field (tv := ⟨(.int .i64), Rdr.p r⟩) (List.Mem.tail _ (List.Mem.head _))).int_inv
 have h5 := pick_ok (n := 5) r.b r.p (by decide)
 have e0 : anyGraph r = anyGraph r := rfl
 refine AW.seq (AW.r1U hC [0, 2] [0, 8] [(2, .ref 8 1 0)] [(8, .box 1 [.nilsl, .nilsl])] ?_)
 refine AW.seq (AW.regionO [0, 1, 2, 3] (by rfl) ?_)
 refine AWO.runU hC false [] [0] [1, 2, 3] [0, 2, 4] [0, 8]
  [(4, .ref 0 0 0)] []
  [] (by rfl) (by kernel_rfl) ?_ ?_
 ·
  exact trivial
 refine AWO.call hC.ty (vs := [.ref 0 0 0]) (caps := []) (by rfl) rfl (.inl rfl) (by decide) (by kernel_rfl) (by kernel_rfl) Try.func80 (by kernel_rfl) rfl (by kernel_rfl) ?_
 intro o1 ho1
 refine AW.kpU [0, 1000, 1002] [0, 8] [] [] ?_
 refine AW.seq (AW.r1U hC1 [0, 2, 1000, 1002] [0, 8, 4008] [(2, .ref 4008 1 0)] [(4008, .box 1 [.nilsl, .nilsl])] ?_)
 refine AW.seq (AW.r1U hC1 [0, 2, 3, 1000, 1002] [0, 8, 4008, 4012] [(3, .ref 4012 1 0)] [(4012, .box 1 [.nilsl, .nilsl])] ?_)
 refine AW.seq (AW.r0U hC1 [0, 2, 3, 4, 1000, 1002] [0, 8, 4008, 4012] [(4, .int .i64 (1 + (pick (Rdr.b r) (Rdr.p r) 5)))] [(0, .box 0 [.data (.slice (.int .u8)) ((Rdr.b r) : List Int), .int .i64 ((Rdr.p r) + 1)])] [(0 ≤ r.p ∧ r.p ≤ 1099511627776), (-9223372036854775808 ≤ (1 + (pick (Rdr.b r) (Rdr.p r) 5)) ∧ (1 + (pick (Rdr.b r) (Rdr.p r) 5)) ≤ 9223372036854775807)] ?_ ?_)
 ·
  refine ⟨?_, ?_, trivial⟩
  ·
   omega
  ·
   omega
 refine AW.seq (AW.seq (AW.r1U hC1 [0, 2, 3, 4, 5, 1000, 1002] [0, 8, 4008, 4012] [(5, .int .i64 0)] [] ?_))
 refine AW.adoptB 4012 1 0 4092 [.nilsl, .nilsl] (.int .i64) (by kernel_rfl) (by kernel_rfl) (by kernel_rfl) ?_
 refine AW.kp [0, 2, 3, 4, 5, 1000, 1002] [0, 8, 4008, 4012, 4092] ⟨[(0, .ref 0 0 0), (2, .ref 4008 1 0), (3, .ref 4012 1 0), (4, .int .i64 (1 + (pick (Rdr.b r) (Rdr.p r) 5))), (5, .int .i64 0), (1000, .ref 0 0 0), (1002, .ref 8 1 0)], [(0, .box 0 [.data (.slice (.int .u8)) ((Rdr.b r) : List Int), .int .i64 ((Rdr.p r) + 1)]), (8, .box 1 [.nilsl, .nilsl]), (4008, .box 1 [.nilsl, .nilsl]), (4012, .box 1 [.arr 4092 1, .nilsl]), (4092, .arr 1 (.int .i64) (([] : List Int) : List Int))]⟩ ?_
 refine AW.cutQ (α := Int × (List Int)) (fun x => ⟨[(0, .ref 0 0 0), (2, .ref 4008 1 0), (3, .ref 4012 1 0), (4, .int .i64 (1 + (pick (Rdr.b r) (Rdr.p r) 5))), (1000, .ref 0 0 0), (1002, .ref 8 1 0)], [(0, .box 0 [.data (.slice (.int .u8)) ((Rdr.b r) : List Int), .int .i64 x.1]), (8, .box 1 [.nilsl, .nilsl]), (4008, .box 1 [.nilsl, .nilsl]), (4012, .box 1 [.arr 4092 1, .nilsl]), (4092, .arr 1 (.int .i64) (x.2 : List Int))]⟩) (fun x => ((0 ≤ x.1 ∧ x.1 ≤ r.p + 10) ∧ (1 ≤ List.length x.2 ∧ List.length x.2 ≤ 5)) ∧ (anyGraph_l0 r (Int.toNat ((1 + (pick (Rdr.b r) (Rdr.p r) 5)) - ((0 : Nat) : Int)) + 1) 0 ((Rdr.p r) + 1) ([] : List Int)) = x) ?_ ?_
 ·
  skip
  refine AW.block (AW.loop (α := Nat × Int × (List Int)) (fun x => ⟨[(0, .ref 0 0 0), (2, .ref 4008 1 0), (3, .ref 4012 1 0), (4, .int .i64 (1 + (pick (Rdr.b r) (Rdr.p r) 5))), (5, .int .i64 ((x.1 : Nat) : Int)), (1000, .ref 0 0 0), (1002, .ref 8 1 0)], [(0, .box 0 [.data (.slice (.int .u8)) ((Rdr.b r) : List Int), .int .i64 x.2.1]), (8, .box 1 [.nilsl, .nilsl]), (4008, .box 1 [.nilsl, .nilsl]), (4012, .box 1 [.arr 4092 1, .nilsl]), (4092, .arr 1 (.int .i64) (x.2.2 : List Int))]⟩) (fun x => ((0 ≤ x.2.1 ∧ x.2.1 ≤ r.p + 1 + (x.1 : Int)) ∧ (List.length x.2.2 = x.1 ∧ (x.1 : Int) ≤ 5)) ∧ ∃ k, Int.toNat ((1 + (pick (Rdr.b r) (Rdr.p r) 5)) - ((x.1 : Nat) : Int)) < k ∧ (anyGraph_l0 r (Int.toNat ((1 + (pick (Rdr.b r) (Rdr.p r) 5)) - ((0 : Nat) : Int)) + 1) 0 ((Rdr.p r) + 1) ([] : List Int)) = anyGraph_l0 r k x.1 x.2.1 x.2.2) (fun x => Int.toNat ((1 + (pick (Rdr.b r) (Rdr.p r) 5)) - ((x.1 : Nat) : Int))) (0, ((Rdr.p r) + 1), ([] : List Int)) (by kernel_rfl) ⟨?_, _, Nat.lt_succ_self _, rfl⟩ ?_)
  ·
   show (0 ≤ ((Rdr.p r) + 1) ∧ ((Rdr.p r) + 1) ≤ r.p + 1 + (0 : Int)) ∧ (List.length ([] : List Int) = 0 ∧ (0 : Int) ≤ 5)
   exact ⟨by omega, rfl, by decide⟩
  ·
   intro x hR
   obtain ⟨i, r1, ar4092⟩ := x
   obtain ⟨hI0, k45, hk43, e44⟩ := hR
   replace hI0 : (0 ≤ r1 ∧ r1 ≤ r.p + 1 + (i : Int)) ∧ (List.length ar4092 = i ∧ (i : Int) ≤ 5) := hI0
   replace hk43 : Int.toNat ((1 + (pick (Rdr.b r) (Rdr.p r) 5)) - ((i : Nat) : Int)) < k45 := hk43
   obtain ⟨k45q, rfl⟩ : ∃ k, k45 = k + 1 := ⟨k45 - 1, by omega⟩
   refine AW.seq (AW.seq (AW.r1U hC1 [0, 2, 3, 4, 5, 14, 1000, 1002] [0, 8, 4008, 4012, 4092] [(14, .bool (decide (((i : Nat) : Int) < (1 + (pick (Rdr.b r) (Rdr.p r) 5)))))] [] ?_))
   refine AW.cd (decide (((i : Nat) : Int) < (1 + (pick (Rdr.b r) (Rdr.p r) 5)))) ?_ ?_
   ·
    intro h46
    have h46q : ((i : Nat) : Int) < (1 + (pick (Rdr.b r) (Rdr.p r) 5)) := (of_decide_eq_true h46)
    have e47 := e44.trans (Go.Am.bif_t h46)
    refine AW.kpU [0, 2, 3, 4, 5, 1000, 1002] [0, 8, 4008, 4012, 4092] [] [] ?_
    refine AW.skip (AW.seq (AW.block (AW.d0U hC1 hM [0, 2, 3, 4, 5, 1000, 1002] [0, 8, 4008, 4012, 4092] [] [(0, .box 0 [.data (.slice (.int .u8)) ((Rdr.b r) : List Int), .int .i64 (r1 + 1)]), (4092, .arr 1 (.int .i64) ((ar4092 ++ ([(one (Rdr.b r) r1 ([1, 2, 10, 50, 100, 1000, 7] : List Int))] : List Int)) : List Int))] [((0 ≤ (Rdr.mk (Rdr.b r) r1).p ∧ (Rdr.mk (Rdr.b r) r1).p ≤ 1099511627775) ∧ 1 ≤ (List.length ([1, 2, 10, 50, 100, 1000, 7] : List Int) : Int)), (((List.length ar4092 : Nat) : Int) + ((List.length ([(one (Rdr.b r) r1 ([1, 2, 10, 50, 100, 1000, 7] : List Int))] : List Int) : Nat) : Int) ≤ 4294967296)] ?_ ?_)))
    ·
     refine ⟨?_, ?_, trivial⟩
     ·
      refine ⟨?_, ?_⟩ <;> (try dsimp only) <;> first | omega | (simp only [List.length_cons, List.length_nil]; omega) | decide
     ·
      simp only [List.length_append, List.length_cons, List.length_nil]; omega
    refine AW.r0U hC1 [0, 2, 3, 4, 5, 1000, 1002] [0, 8, 4008, 4012, 4092] [(5, .int .i64 ((i + 1 : Nat) : Int))] [] [(-9223372036854775808 ≤ ((i + 1 : Nat) : Int) ∧ ((i + 1 : Nat) : Int) ≤ 9223372036854775807)] ?_ ?_
    ·
     refine ⟨?_, trivial⟩
     ·
      omega
    refine AW.back (x := (i, r1, ar4092)) (i + 1, (r1 + 1), (ar4092 ++ ([(one (Rdr.b r) r1 ([1, 2, 10, 50, 100, 1000, 7] : List Int))] : List Int))) (by kernel_rfl) ⟨?_, k45q, ?_, e47⟩ ?_
    ·
     show (0 ≤ (r1 + 1) ∧ (r1 + 1) ≤ r.p + 1 + ((i + 1) : Int)) ∧ (List.length (ar4092 ++ ([(one (Rdr.b r) r1 ([1, 2, 10, 50, 100, 1000, 7] : List Int))] : List Int)) = (i + 1) ∧ ((i + 1) : Int) ≤ 5)
     simp only [List.length_append, List.length_cons, List.length_nil]
     omega
    ·
     show Int.toNat ((1 + (pick (Rdr.b r) (Rdr.p r) 5)) - (((i + 1) : Nat) : Int)) < k45q
     omega
    ·
     show Int.toNat ((1 + (pick (Rdr.b r) (Rdr.p r) 5)) - (((i + 1) : Nat) : Int)) < Int.toNat ((1 + (pick (Rdr.b r) (Rdr.p r) 5)) - ((i : Nat) : Int))
     omega
   ·
    intro h48
    have h48q : ¬ (((i : Nat) : Int) < (1 + (pick (Rdr.b r) (Rdr.p r) 5))) := (of_decide_eq_false h48)
    have e49 := e44.trans (Go.Am.bif_f h48)
    refine AW.kpU [0, 2, 3, 4, 1000, 1002] [0, 8, 4008, 4012, 4092] [] [] ?_
    refine AW.exit ?_
    refine AW.meet (r1, ar4092) (by kernel_rfl) ⟨?_, e49⟩
    show (0 ≤ r1 ∧ r1 ≤ r.p + 10) ∧ (1 ≤ List.length ar4092 ∧ List.length ar4092 ≤ 5)
    omega
 ·
  intro x hR
  obtain ⟨r1, ar4092⟩ := x
  obtain ⟨hJ0, e50⟩ := hR
  replace hJ0 : (0 ≤ r1 ∧ r1 ≤ r.p + 10) ∧ (1 ≤ List.length ar4092 ∧ List.length ar4092 ≤ 5) := hJ0
  have e51 := e0.trans (Go.Am.then_eq e50)
  refine AW.seq (AW.seq (AW.r0U hC1 [0, 2, 3, 4, 6, 1000, 1002] [0, 8, 4008, 4012, 4092] [(6, .int .i64 (pick (Rdr.b r) r1 6))] [(0, .box 0 [.data (.slice (.int .u8)) ((Rdr.b r) : List Int), .int .i64 (r1 + 1)])] [(0 ≤ (Rdr.mk (Rdr.b r) r1).p ∧ (Rdr.mk (Rdr.b r) r1).p ≤ 1099511627776)] ?_ ?_))
  ·
   refine ⟨?_, trivial⟩
   ·
    dsimp only; omega
  refine AW.adoptB 4012 1 1 4204 [.arr 4092 1, .nilsl] (.named 0) (by kernel_rfl) (by kernel_rfl) (by kernel_rfl) ?_
  refine AW.kp [0, 2, 3, 4, 6, 1000, 1002] [0, 8, 4008, 4012, 4092, 4204] ⟨[(0, .ref 0 0 0), (2, .ref 4008 1 0), (3, .ref 4012 1 0), (4, .int .i64 (1 + (pick (Rdr.b r) (Rdr.p r) 5))), (6, .int .i64 (pick (Rdr.b r) r1 6)), (1000, .ref 0 0 0), (1002, .ref 8 1 0)], [(0, .box 0 [.data (.slice (.int .u8)) ((Rdr.b r) : List Int), .int .i64 (r1 + 1)]), (8, .box 1 [.nilsl, .nilsl]), (4008, .box 1 [.nilsl, .nilsl]), (4012, .box 1 [.arr 4092 1, .arr 4204 1]), (4092, .arr 1 (.int .i64) (ar4092 : List Int)), (4204, .arr 1 (.named 0) (([] : List Edge) : List Edge))]⟩ ?_
  refine AW.cutQ (α := Int × (List Edge)) (fun x => ⟨[(2, .ref 4008 1 0), (3, .ref 4012 1 0), (1000, .ref 0 0 0), (1002, .ref 8 1 0)], [(0, .box 0 [.data (.slice (.int .u8)) ((Rdr.b r) : List Int), .int .i64 x.1]), (8, .box 1 [.nilsl, .nilsl]), (4008, .box 1 [.nilsl, .nilsl]), (4012, .box 1 [.arr 4092 1, .arr 4204 1]), (4092, .arr 1 (.int .i64) (ar4092 : List Int)), (4204, .arr 1 (.named 0) (x.2 : List Edge))]⟩) (fun x => ((0 ≤ x.1 ∧ x.1 ≤ r.p + 40) ∧ (List.length x.2 : Int) ≤ 5) ∧ (anyGraph_l1 r (Int.toNat (pick (Rdr.b r) r1 6) + 1) (pick (Rdr.b r) r1 6) (r1 + 1) ([] : List Edge)) = x) ?_ ?_
  ·
   skip
   refine AW.block (AW.loop (α := Int × Int × (List Edge)) (fun x => ⟨[(0, .ref 0 0 0), (2, .ref 4008 1 0), (3, .ref 4012 1 0), (4, .int .i64 (1 + (pick (Rdr.b r) (Rdr.p r) 5))), (6, .int .i64 x.1), (1000, .ref 0 0 0), (1002, .ref 8 1 0)], [(0, .box 0 [.data (.slice (.int .u8)) ((Rdr.b r) : List Int), .int .i64 x.2.1]), (8, .box 1 [.nilsl, .nilsl]), (4008, .box 1 [.nilsl, .nilsl]), (4012, .box 1 [.arr 4092 1, .arr 4204 1]), (4092, .arr 1 (.int .i64) (ar4092 : List Int)), (4204, .arr 1 (.named 0) (x.2.2 : List Edge))]⟩) (fun x => ((0 ≤ x.2.1 ∧ x.2.1 + 3 * x.1 ≤ r.p + 40) ∧ (0 ≤ x.1 ∧ (List.length x.2.2 : Int) + x.1 ≤ 5)) ∧ ∃ k, Int.toNat x.1 < k ∧ (anyGraph_l1 r (Int.toNat (pick (Rdr.b r) r1 6) + 1) (pick (Rdr.b r) r1 6) (r1 + 1) ([] : List Edge)) = anyGraph_l1 r k x.1 x.2.1 x.2.2) (fun x => Int.toNat x.1) ((pick (Rdr.b r) r1 6), (r1 + 1), ([] : List Edge)) (by kernel_rfl) ⟨?_, _, Nat.lt_succ_self _, rfl⟩ ?_)
   ·
    show (0 ≤ (r1 + 1) ∧ (r1 + 1) + 3 * (pick (Rdr.b r) r1 6) ≤ r.p + 40) ∧ (0 ≤ (pick (Rdr.b r) r1 6) ∧ (List.length ([] : List Edge) : Int) + (pick (Rdr.b r) r1 6) ≤ 5)
    have := pick_ok (n := 6) r.b r1 (by decide)
    simp only [List.length_nil]
    omega
   ·
    intro x hR
    obtain ⟨k1, r11, ar4204⟩ := x
    obtain ⟨hI1, k54, hk52, e53⟩ := hR
    replace hI1 : (0 ≤ r11 ∧ r11 + 3 * k1 ≤ r.p + 40) ∧ (0 ≤ k1 ∧ (List.length ar4204 : Int) + k1 ≤ 5) := hI1
    replace hk52 : Int.toNat k1 < k54 := hk52
    obtain ⟨k54q, rfl⟩ : ∃ k, k54 = k + 1 := ⟨k54 - 1, by omega⟩
    refine AW.seq (AW.seq (AW.r0U hC1 [0, 2, 3, 4, 6, 32, 1000, 1002] [0, 8, 4008, 4012, 4092, 4204] [(32, .bool (bif (decide (0 < k1)) then (decide (1 < (1 + (pick (Rdr.b r) (Rdr.p r) 5)))) else false))] [] [(((decide (0 < k1)) = true) → (((decide (0 < k1)) = true))), (((decide (0 < k1)) = true) → (((decide (0 < k1)) = true)))] ?_ ?_))
    ·
     refine ⟨?_, ?_, trivial⟩
     ·
      intro g55
      have g55p0 : 0 < k1 := (of_decide_eq_true g55)
      assumption
     ·
      intro g56
      have g56p0 : 0 < k1 := (of_decide_eq_true g56)
      assumption
    refine AW.cd (bif (decide (0 < k1)) then (decide (1 < (1 + (pick (Rdr.b r) (Rdr.p r) 5)))) else false) ?_ ?_
    ·
     intro h57
     have h57q : (0 < k1) ∧ (1 < (1 + (pick (Rdr.b r) (Rdr.p r) 5))) := (And.imp (fun h => (of_decide_eq_true h)) (fun h => (of_decide_eq_true h)) (Go.Am.and_pos h57))
     have e58 := e53.trans (Go.Am.bif_t h57)
     refine AW.kpU [0, 2, 3, 4, 6, 1000, 1002] [0, 8, 4008, 4012, 4092, 4204] [] [] ?_
     refine AW.skip (AW.seq (AW.block (AW.seq (AW.r0U hC1 [0, 2, 3, 4, 6, 7, 1000, 1002] [0, 8, 4008, 4012, 4092, 4204] [(7, .int .i64 (1 + (pick (Rdr.b r) r11 ((1 + (pick (Rdr.b r) (Rdr.p r) 5)) - 1))))] [(0, .box 0 [.data (.slice (.int .u8)) ((Rdr.b r) : List Int), .int .i64 (r11 + 1)])] [(-9223372036854775808 ≤ ((1 + (pick (Rdr.b r) (Rdr.p r) 5)) - 1) ∧ ((1 + (pick (Rdr.b r) (Rdr.p r) 5)) - 1) ≤ 9223372036854775807), (0 ≤ (Rdr.mk (Rdr.b r) r11).p ∧ (Rdr.mk (Rdr.b r) r11).p ≤ 1099511627776), (-9223372036854775808 ≤ (1 + (pick (Rdr.b r) r11 ((1 + (pick (Rdr.b r) (Rdr.p r) 5)) - 1))) ∧ (1 + (pick (Rdr.b r) r11 ((1 + (pick (Rdr.b r) (Rdr.p r) 5)) - 1))) ≤ 9223372036854775807)] ?_ ?_))))
     ·
      refine ⟨?_, ?_, ?_, trivial⟩
      ·
       omega
      ·
       dsimp only; omega
      ·
       have h := pick_ok (n := 1 + pick r.b r.p 5 - 1) r.b r11 (by omega); first | omega | (simp only [List.length_append, List.length_cons, List.length_nil]; omega)
     refine AW.d0U hC1 hM [0, 2, 3, 4, 6, 1000, 1002] [0, 8, 4008, 4012, 4092, 4204] [] [(0, .box 0 [.data (.slice (.int .u8)) ((Rdr.b r) : List Int), .int .i64 (((r11 + 1) + 1) + 1)]), (4204, .arr 1 (.named 0) ((ar4204 ++ ([(Edge.mk (pick (Rdr.b r) (r11 + 1) (1 + (pick (Rdr.b r) r11 ((1 + (pick (Rdr.b r) (Rdr.p r) 5)) - 1)))) (1 + (pick (Rdr.b r) r11 ((1 + (pick (Rdr.b r) (Rdr.p r) 5)) - 1))) (one (Rdr.b r) ((r11 + 1) + 1) ([1, 2, 10, 100, 3] : List Int)))] : List Edge)) : List Edge))] [(0 ≤ (Rdr.mk (Rdr.b r) (r11 + 1)).p ∧ (Rdr.mk (Rdr.b r) (r11 + 1)).p ≤ 1099511627776), ((0 ≤ (Rdr.mk (Rdr.b r) ((r11 + 1) + 1)).p ∧ (Rdr.mk (Rdr.b r) ((r11 + 1) + 1)).p ≤ 1099511627775) ∧ 1 ≤ (List.length ([1, 2, 10, 100, 3] : List Int) : Int)), (((List.length ar4204 : Nat) : Int) + ((List.length ([(Edge.mk (pick (Rdr.b r) (r11 + 1) (1 + (pick (Rdr.b r) r11 ((1 + (pick (Rdr.b r) (Rdr.p r) 5)) - 1)))) (1 + (pick (Rdr.b r) r11 ((1 + (pick (Rdr.b r) (Rdr.p r) 5)) - 1))) (one (Rdr.b r) ((r11 + 1) + 1) ([1, 2, 10, 100, 3] : List Int)))] : List Edge) : Nat) : Int) ≤ 4294967296)] ?_ ?_
     ·
      refine ⟨?_, ?_, ?_, trivial⟩
      ·
       dsimp only; omega
      ·
       refine ⟨?_, ?_⟩ <;> (try dsimp only) <;> first | omega | (simp only [List.length_cons, List.length_nil]; omega) | decide
      ·
       have h := pick_ok (n := 1 + pick r.b r.p 5 - 1) r.b r11 (by omega); first | omega | (simp only [List.length_append, List.length_cons, List.length_nil]; omega)
     refine AW.r0U hC1 [0, 2, 3, 4, 6, 1000, 1002] [0, 8, 4008, 4012, 4092, 4204] [(6, .int .i64 (k1 - 1))] [] [(-9223372036854775808 ≤ (k1 - 1) ∧ (k1 - 1) ≤ 9223372036854775807)] ?_ ?_
     ·
      refine ⟨?_, trivial⟩
      ·
       omega
     refine AW.back (x := (k1, r11, ar4204)) ((k1 - 1), (((r11 + 1) + 1) + 1), (ar4204 ++ ([(Edge.mk (pick (Rdr.b r) (r11 + 1) (1 + (pick (Rdr.b r) r11 ((1 + (pick (Rdr.b r) (Rdr.p r) 5)) - 1)))) (1 + (pick (Rdr.b r) r11 ((1 + (pick (Rdr.b r) (Rdr.p r) 5)) - 1))) (one (Rdr.b r) ((r11 + 1) + 1) ([1, 2, 10, 100, 3] : List Int)))] : List Edge))) (by kernel_rfl) ⟨?_, k54q, ?_, e58⟩ ?_
     ·
      show (0 ≤ (((r11 + 1) + 1) + 1) ∧ (((r11 + 1) + 1) + 1) + 3 * (k1 - 1) ≤ r.p + 40) ∧ (0 ≤ (k1 - 1) ∧ (List.length (ar4204 ++ ([(Edge.mk (pick (Rdr.b r) (r11 + 1) (1 + (pick (Rdr.b r) r11 ((1 + (pick (Rdr.b r) (Rdr.p r) 5)) - 1)))) (1 + (pick (Rdr.b r) r11 ((1 + (pick (Rdr.b r) (Rdr.p r) 5)) - 1))) (one (Rdr.b r) ((r11 + 1) + 1) ([1, 2, 10, 100, 3] : List Int)))] : List Edge)) : Int) + (k1 - 1) ≤ 5)
      have := h57q.1
      simp only [List.length_append, List.length_cons, List.length_nil]
      omega
     ·
      show Int.toNat (k1 - 1) < k54q
      have := h57q.1
      omega
     ·
      show Int.toNat (k1 - 1) < Int.toNat k1
      have := h57q.1
      omega
    ·
     intro h59
     have h59q : (¬ (0 < k1)) ∨ (¬ (1 < (1 + (pick (Rdr.b r) (Rdr.p r) 5)))) := (Or.imp (fun h => (of_decide_eq_false h)) (fun h => (of_decide_eq_false h)) (Go.Am.and_neg h59))
     have e60 := e53.trans (Go.Am.bif_f h59)
     refine AW.kpU [2, 3, 1000, 1002] [0, 8, 4008, 4012, 4092, 4204] [] [] ?_
     refine AW.exit ?_
     refine AW.meet (r11, ar4204) (by kernel_rfl) ⟨?_, e60⟩
     show (0 ≤ r11 ∧ r11 ≤ r.p + 40) ∧ (List.length ar4204 : Int) ≤ 5
     omega
  ·
   intro x hR
   obtain ⟨r11, ar4204⟩ := x
   obtain ⟨hJ1, e61⟩ := hR
   replace hJ1 : (0 ≤ r11 ∧ r11 ≤ r.p + 40) ∧ (List.length ar4204 : Int) ≤ 5 := hJ1
   have e62 := e51.trans (Go.Am.then_eq e61)
   refine AW.seq (AW.r1U hC1 [2, 1000, 1002] [0, 8, 4008, 4092, 4204] [] [(4008, .box 1 [.arr 4092 1, .arr 4204 1])] ?_)
   refine AW.ret ?_
   refine ⟨[.agg [.arr 4092 1, .arr 4204 1]], by kernel_rfl, ?_⟩
   refine AWO.keep [0, 2, 5] [0, 8, 4092, 4204] ⟨[(0, .ref 0 0 0), (2, .ref 8 1 0), (5, .agg [.arr 4092 1, .arr 4204 1])], [(0, .box 0 [.data (.slice (.int .u8)) ((Rdr.b r) : List Int), .int .i64 r11]), (8, .box 1 [.nilsl, .nilsl]), (4092, .arr 1 (.int .i64) (ar4092 : List Int)), (4204, .arr 1 (.named 0) (ar4204 : List Edge))]⟩ (by kernel_rfl) ?_
   refine AWO.runU hC false [] [2, 3] [] [0, 2, 3] [0, 8, 12, 4092, 4204]
    [(3, .ref 12 1 0)] [(12, .box 1 [.arr 4092 1, .arr 4204 1])]
    [] (by rfl) (by kernel_rfl) ?_ ?_
   ·
    exact trivial
   refine AWO.nil ?_
   refine AW.seq (AW.seq (AW.r0U hC [0, 2, 3, 7] [0, 8, 12, 4092, 4204] [(7, .int .i64 (pick (Rdr.b r) r11 18))] [(0, .box 0 [.data (.slice (.int .u8)) ((Rdr.b r) : List Int), .int .i64 (r11 + 1)])] [(0 ≤ (Rdr.mk (Rdr.b r) r11).p ∧ (Rdr.mk (Rdr.b r) r11).p ≤ 1099511627776)] ?_ ?_))
   ·
    refine ⟨?_, trivial⟩
    ·
     dsimp only; omega
   refine AW.block (AW.seq (AW.r1U hC [0, 2, 3, 7, 8] [0, 8, 12, 4092, 4204] [(8, .bool ((pick (Rdr.b r) r11 18) == 0))] [] ?_))
   refine AW.cd ((pick (Rdr.b r) r11 18) == 0) ?_ ?_
   ·
    intro h63
    have h63q : (pick (Rdr.b r) r11 18) = 0 := (Go.Am.beq_pos h63)
    have e64 := e62.trans (Go.Am.bif_t h63)
    refine AW.d0U hC hM [2, 3] [0, 8, 12, 4092, 4204] [] [(0, .box 0 [.data (.slice (.int .u8)) ((Rdr.b r) : List Int), .int .i64 ((r11 + 1) + 1)]), (4092, .arr 1 (.int .i64) ((List.set ar4092 0 (one (Rdr.b r) (r11 + 1) ([0, 1001] : List Int))) : List Int))] [((0 ≤ (Rdr.mk (Rdr.b r) (r11 + 1)).p ∧ (Rdr.mk (Rdr.b r) (r11 + 1)).p ≤ 1099511627775) ∧ 1 ≤ (List.length ([0, 1001] : List Int) : Int)), (0 ≤ (0 : Int) ∧ (0 : Int) < ((List.length ar4092 : Nat) : Int))] ?_ ?_
    ·
     refine ⟨?_, ?_, trivial⟩
     ·
      refine ⟨?_, ?_⟩ <;> (try dsimp only) <;> first | omega | (simp only [List.length_cons, List.length_nil]; omega) | decide
     ·
      omega
    refine AW.seq (AW.r1U hC [2] [0, 8, 4092, 4204] [] [(8, .box 1 [.arr 4092 1, .arr 4204 1])] ?_)
    exact AW.ret (AW.retE (β := Graph × Rdr) (fun v => [⟨(.named 1), v.1⟩]) (fun v => [⟨(.named 2), v.2⟩]) (v := ((Graph.mk (List.set ar4092 0 (one (Rdr.b r) (r11 + 1) ([0, 1001] : List Int))) ar4204), (Rdr.mk (Rdr.b r) ((r11 + 1) + 1)))) e64 (by kernel_rfl) rfl rfl)
   ·
    intro h65
    have h65q : (pick (Rdr.b r) r11 18) ≠ 0 := (Go.Am.beq_neg h65)
    have e66 := e62.trans (Go.Am.bif_f h65)
    refine AW.seq (AW.r1U hC [0, 2, 3, 7, 16] [0, 8, 12, 4092, 4204] [(16, .bool ((pick (Rdr.b r) r11 18) == 1))] [] ?_)
    refine AW.cd ((pick (Rdr.b r) r11 18) == 1) ?_ ?_
    ·
     intro h67
     have h67q : (pick (Rdr.b r) r11 18) = 1 := (Go.Am.beq_pos h67)
     have e68 := e66.trans (Go.Am.bif_t h67)
     refine AW.d0U hC hM [2, 3] [0, 8, 12, 4092, 4204] [] [(0, .box 0 [.data (.slice (.int .u8)) ((Rdr.b r) : List Int), .int .i64 ((r11 + 1) + 1)]), (4204, .arr 1 (.named 0) ((ar4204 ++ ([(Edge.mk 0 (one (Rdr.b r) (r11 + 1) ([0, ((List.length ar4092 : Nat) : Int)] : List Int)) 1)] : List Edge)) : List Edge))] [((0 ≤ (Rdr.mk (Rdr.b r) (r11 + 1)).p ∧ (Rdr.mk (Rdr.b r) (r11 + 1)).p ≤ 1099511627775) ∧ 1 ≤ (List.length ([0, ((List.length ar4092 : Nat) : Int)] : List Int) : Int)), (((List.length ar4204 : Nat) : Int) + ((List.length ([(Edge.mk 0 (one (Rdr.b r) (r11 + 1) ([0, ((List.length ar4092 : Nat) : Int)] : List Int)) 1)] : List Edge) : Nat) : Int) ≤ 4294967296)] ?_ ?_
     ·
      refine ⟨?_, ?_, trivial⟩
      ·
       refine ⟨?_, ?_⟩ <;> (try dsimp only) <;> first | omega | (simp only [List.length_cons, List.length_nil]; omega) | decide
      ·
       simp only [List.length_append, List.length_cons, List.length_nil]; omega
     refine AW.seq (AW.r1U hC [2] [0, 8, 4092, 4204] [] [(8, .box 1 [.arr 4092 1, .arr 4204 1])] ?_)
     exact AW.ret (AW.retE (β := Graph × Rdr) (fun v => [⟨(.named 1), v.1⟩]) (fun v => [⟨(.named 2), v.2⟩]) (v := ((Graph.mk ar4092 (ar4204 ++ ([(Edge.mk 0 (one (Rdr.b r) (r11 + 1) ([0, ((List.length ar4092 : Nat) : Int)] : List Int)) 1)] : List Edge))), (Rdr.mk (Rdr.b r) ((r11 + 1) + 1)))) e68 (by kernel_rfl) rfl rfl)
    ·
     intro h69
     have h69q : (pick (Rdr.b r) r11 18) ≠ 1 := (Go.Am.beq_neg h69)
     have e70 := e66.trans (Go.Am.bif_f h69)
     refine AW.seq (AW.r1U hC [2, 3, 30] [0, 8, 12, 4092, 4204] [(30, .bool ((pick (Rdr.b r) r11 18) == 2))] [] ?_)
     refine AW.cd ((pick (Rdr.b r) r11 18) == 2) ?_ ?_
     ·
      intro h71
      have h71q : (pick (Rdr.b r) r11 18) = 2 := (Go.Am.beq_pos h71)
      have e72 := e70.trans (Go.Am.bif_t h71)
      refine AW.r0U hC [2, 3] [0, 8, 12, 4092, 4204] [] [(4092, .arr 1 (.int .i64) ((ar4092 ++ ([5, 5, 5, 5, 5] : List Int)) : List Int))] [(((List.length ar4092 : Nat) : Int) + ((List.length ([5, 5, 5, 5, 5] : List Int) : Nat) : Int) ≤ 4294967296)] ?_ ?_
      ·
       refine ⟨?_, trivial⟩
       ·
        simp only [List.length_append, List.length_cons, List.length_nil]; omega
      refine AW.seq (AW.r1U hC [2] [0, 8, 4092, 4204] [] [(8, .box 1 [.arr 4092 1, .arr 4204 1])] ?_)
      exact AW.ret (AW.retE (β := Graph × Rdr) (fun v => [⟨(.named 1), v.1⟩]) (fun v => [⟨(.named 2), v.2⟩]) (v := ((Graph.mk (ar4092 ++ ([5, 5, 5, 5, 5] : List Int)) ar4204), (Rdr.mk (Rdr.b r) (r11 + 1)))) e72 (by kernel_rfl) rfl rfl)
     ·
      intro h73
      have h73q : (pick (Rdr.b r) r11 18) ≠ 2 := (Go.Am.beq_neg h73)
      have e74 := e70.trans (Go.Am.bif_f h73)
      refine AW.kpU [2, 3] [0, 8, 12, 4092, 4204] [] [] ?_
      refine AW.skip (AW.seq (AW.r1U hC [2] [0, 8, 4092, 4204] [] [(8, .box 1 [.arr 4092 1, .arr 4204 1])] ?_))
      exact AW.ret (AW.retE (β := Graph × Rdr) (fun v => [⟨(.named 1), v.1⟩]) (fun v => [⟨(.named 2), v.2⟩]) (v := ((Graph.mk ar4092 ar4204), (Rdr.mk (Rdr.b r) (r11 + 1)))) e74 (by kernel_rfl) rfl rfl)

end
end Go.Proofs.Ytgbapklfgjnggaa
