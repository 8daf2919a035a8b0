/-
  A part of the proof of this claim (Ao8): what functions of the program compute, and plain facts of that. No conditions.
-/
import Derived.Test.YtclennmbceaoeaaAo7
set_option linter.all false
namespace Go.Proofs.Ytclennmbceaoeaa
open Go Go.Am
noncomputable section

def anyGraph_l0 (r : Rdr) : Nat → Nat → Int → (List Int) → Int × (List Int)
 | 0, i, r1, ar4092 => (r1, ar4092)
 | k + 1, i, r1, ar4092 => (bif (decide (((i : Nat) : Int) < (1 + (pick (Rdr.b r) (Rdr.p r) 5)))) then (anyGraph_l0 r k (i + 1) (r1 + 1) (ar4092 ++ ([(one (Rdr.b r) r1 ([1, 2, 10, 50, 100, 1000, 7] : List Int))] : List Int))) else (r1, ar4092))

def anyGraph_l1 (r : Rdr) : Nat → Int → Int → (List Edge) → Int × (List Edge)
 | 0, k1, r11, ar4204 => (r11, ar4204)
 | k + 1, k1, r11, ar4204 => (bif (bif (decide (0 < k1)) then (decide (1 < (1 + (pick (Rdr.b r) (Rdr.p r) 5)))) else false) then (anyGraph_l1 r k (k1 - 1) (((r11 + 1) + 1) + 1) (ar4204 ++ ([(Edge.mk (pick (Rdr.b r) (r11 + 1) (1 + (pick (Rdr.b r) r11 ((1 + (pick (Rdr.b r) (Rdr.p r) 5)) - 1)))) (1 + (pick (Rdr.b r) r11 ((1 + (pick (Rdr.b r) (Rdr.p r) 5)) - 1))) (one (Rdr.b r) ((r11 + 1) + 1) ([1, 2, 10, 100, 3] : List Int)))] : List Edge))) else (r11, ar4204))

def anyGraph (r : Rdr) : Graph × Rdr := (Go.Am.andThen (anyGraph_l0 r (Int.toNat ((1 + (pick (Rdr.b r) (Rdr.p r) 5)) - ((0 : Nat) : Int)) + 1) 0 ((Rdr.p r) + 1) ([] : List Int)) (fun z => (fun (r1 : Int) (ar4092 : List Int) => (Go.Am.andThen (anyGraph_l1 r (Int.toNat (pick (Rdr.b r) r1 6) + 1) (pick (Rdr.b r) r1 6) (r1 + 1) ([] : List Edge)) (fun z => (fun (r11 : Int) (ar4204 : List Edge) => (bif ((pick (Rdr.b r) r11 18) == 0) then ((Graph.mk (List.set ar4092 0 (one (Rdr.b r) (r11 + 1) ([0, 1001] : List Int))) ar4204), (Rdr.mk (Rdr.b r) ((r11 + 1) + 1))) else (bif ((pick (Rdr.b r) r11 18) == 1) then ((Graph.mk ar4092 (ar4204 ++ ([(Edge.mk 0 (one (Rdr.b r) (r11 + 1) ([0, ((List.length ar4092 : Nat) : Int)] : List Int)) 1)] : List Edge))), (Rdr.mk (Rdr.b r) ((r11 + 1) + 1))) else (bif ((pick (Rdr.b r) r11 18) == 2) then ((Graph.mk (ar4092 ++ ([5, 5, 5, 5, 5] : List Int)) ar4204), (Rdr.mk (Rdr.b r) (r11 + 1))) else ((Graph.mk ar4092 ar4204), (Rdr.mk (Rdr.b r) (r11 + 1))))))) z.1 z.2))) z.1 z.2))

def anyGraph_sp : FnSpec := mkSpecB [.box 2] [.val (.named 1)] (fun (r : Rdr) => 0 ≤ r.p ∧ r.p ≤ 1000000000000) (fun (r : Rdr) => [⟨(.named 1), ((anyGraph r).1)⟩]) (fun (r : Rdr) => [⟨(.named 2), ((anyGraph r).2)⟩])

theorem anyGraph_ok : FnOK Try.prog 19 anyGraph_sp := by
 have hC : CtxOK Try.prog (mkCtx tyL [(37, pickS), (38, oneS)]) := CtxOK.cons pickS_ok (CtxOK.cons oneS_ok (CtxOK.nil tyOK)); have hM : Try.prog.follows .mixedOrders = true := Try.checked.mixed; have hC1 := hC.rebase 1000; refine FnOK.of_body Try.func19 (by kernel_rfl) rfl (C := (mkCtx tyL [(37, pickS), (38, oneS)])) hC.ty (by kernel_rfl) ?_; intro (r : Rdr) hwf hpre E; have hpre : 0 ≤ r.p ∧ r.p ≤ 1000000000000 := hpre; have hw_r : Wf ⟨(.named 2), (r : Rdr)⟩ := hwf _ (List.Mem.head _); have hl_r_b : ((List.length (Rdr.b r) : Nat) : Int) ≤ 9223372036854775807 := (hw_r.field (tv := ⟨(.slice (.int .u8)), Rdr.b r⟩) (List.Mem.head _)).len; have hr_r_p : -9223372036854775808 ≤ Rdr.p r ∧ Rdr.p r ≤ 9223372036854775807 := (hw_r.field (tv := ⟨(.int .i64), Rdr.p r⟩) (List.Mem.tail _ (List.Mem.head _))).int_inv; have h5 := pick_ok (n := 5) r.b r.p (by decide); have e0 : anyGraph r = anyGraph r := rfl; refine AW.seq (AW.r1U hC [0, 2] [0, 8] [(2, .ref 8 1 0)] [(8, .box 1 [.nilsl, .nilsl])] ?_); refine AW.seq (AW.regionO [0, 1, 2, 3] (by rfl) ?_)
 refine AWO.runU hC false [] [0] [1, 2, 3] [0, 2, 4] [0, 8]
  [(4, .ref 0 0 0)] []
  [] (by rfl) (by kernel_rfl) ?_ ?_
 · exact trivial
 refine AWO.call hC.ty (vs := [.ref 0 0 0]) (caps := []) (by rfl) rfl (.inl rfl) (by decide) (by kernel_rfl) (by kernel_rfl) Try.func36 (by kernel_rfl) rfl (by kernel_rfl) ?_; intro o1 ho1; refine AW.kpU [0, 1000, 1002] [0, 8] [] [] ?_; refine AW.seq (AW.r1U hC1 [0, 2, 1000, 1002] [0, 8, 4008] [(2, .ref 4008 1 0)] [(4008, .box 1 [.nilsl, .nilsl])] ?_); refine AW.seq (AW.r1U hC1 [0, 2, 3, 1000, 1002] [0, 8, 4008, 4012] [(3, .ref 4012 1 0)] [(4012, .box 1 [.nilsl, .nilsl])] ?_); refine AW.seq (AW.r0U hC1 [0, 2, 3, 4, 1000, 1002] [0, 8, 4008, 4012] [(4, .int .i64 (1 + (pick (Rdr.b r) (Rdr.p r) 5)))] [(0, .box 0 [.data (.slice (.int .u8)) ((Rdr.b r) : List Int), .int .i64 ((Rdr.p r) + 1)])] [(0 ≤ r.p ∧ r.p ≤ 1099511627776), (-9223372036854775808 ≤ (1 + (pick (Rdr.b r) (Rdr.p r) 5)) ∧ (1 + (pick (Rdr.b r) (Rdr.p r) 5)) ≤ 9223372036854775807)] ?_ ?_)
 ·
  refine ⟨?_, ?_, trivial⟩
  · first | (omega) | ((dsimp only; omega)) | ((have h := pick_ok (n := 1 + pick r.b r.p 5 - 1) r.b r11 (by omega); first | omega | (simp only [List.length_append, List.length_cons, List.length_nil]; omega))) | ((simp only [List.length_append, List.length_cons, List.length_nil]; omega)) | ((refine ⟨?_, ?_⟩ <;> (try dsimp only) <;> first | omega | decide | (simp; omega) | simp))
  · first | (omega) | ((dsimp only; omega)) | ((have h := pick_ok (n := 1 + pick r.b r.p 5 - 1) r.b r11 (by omega); first | omega | (simp only [List.length_append, List.length_cons, List.length_nil]; omega))) | ((simp only [List.length_append, List.length_cons, List.length_nil]; omega)) | ((refine ⟨?_, ?_⟩ <;> (try dsimp only) <;> first | omega | decide | (simp; omega) | simp))
 refine AW.seq (AW.seq (AW.r1U hC1 [0, 2, 3, 4, 5, 1000, 1002] [0, 8, 4008, 4012] [(5, .int .i64 0)] [] ?_)); refine AW.adoptB 4012 1 0 4092 [.nilsl, .nilsl] (.int .i64) (by kernel_rfl) (by kernel_rfl) (by kernel_rfl) ?_; refine AW.kp [0, 2, 3, 4, 5, 1000, 1002] [0, 8, 4008, 4012, 4092] ⟨[(0, .ref 0 0 0), (2, .ref 4008 1 0), (3, .ref 4012 1 0), (4, .int .i64 (1 + (pick (Rdr.b r) (Rdr.p r) 5))), (5, .int .i64 0), (1000, .ref 0 0 0), (1002, .ref 8 1 0)], [(0, .box 0 [.data (.slice (.int .u8)) ((Rdr.b r) : List Int), .int .i64 ((Rdr.p r) + 1)]), (8, .box 1 [.nilsl, .nilsl]), (4008, .box 1 [.nilsl, .nilsl]), (4012, .box 1 [.arr 4092 1, .nilsl]), (4092, .arr 1 (.int .i64) (([] : List Int) : List Int))]⟩ ?_; refine AW.lpB (ζ := Int × (List Int)) (fun x => ⟨[(0, .ref 0 0 0), (2, .ref 4008 1 0), (3, .ref 4012 1 0), (4, .int .i64 (1 + (pick (Rdr.b r) (Rdr.p r) 5))), (1000, .ref 0 0 0), (1002, .ref 8 1 0)], [(0, .box 0 [.data (.slice (.int .u8)) ((Rdr.b r) : List Int), .int .i64 x.1]), (8, .box 1 [.nilsl, .nilsl]), (4008, .box 1 [.nilsl, .nilsl]), (4012, .box 1 [.arr 4092 1, .nilsl]), (4092, .arr 1 (.int .i64) (x.2 : List Int))]⟩) (fun x => (0 ≤ x.1 ∧ x.1 ≤ r.p + 10) ∧ (1 ≤ List.length x.2 ∧ List.length x.2 ≤ 5)) (fun x => x) (α := Nat × Int × (List Int)) (fun x => ⟨[(0, .ref 0 0 0), (2, .ref 4008 1 0), (3, .ref 4012 1 0), (4, .int .i64 (1 + (pick (Rdr.b r) (Rdr.p r) 5))), (5, .int .i64 ((x.1 : Nat) : Int)), (1000, .ref 0 0 0), (1002, .ref 8 1 0)], [(0, .box 0 [.data (.slice (.int .u8)) ((Rdr.b r) : List Int), .int .i64 x.2.1]), (8, .box 1 [.nilsl, .nilsl]), (4008, .box 1 [.nilsl, .nilsl]), (4012, .box 1 [.arr 4092 1, .nilsl]), (4092, .arr 1 (.int .i64) (x.2.2 : List Int))]⟩) (fun x => (0 ≤ x.2.1 ∧ x.2.1 ≤ r.p + 1 + (x.1 : Int)) ∧ (List.length x.2.2 = x.1 ∧ (x.1 : Int) ≤ 5)) (fun x => Int.toNat ((1 + (pick (Rdr.b r) (Rdr.p r) 5)) - ((x.1 : Nat) : Int))) (fun k x => anyGraph_l0 r k x.1 x.2.1 x.2.2) (0, ((Rdr.p r) + 1), ([] : List Int)) (by kernel_rfl) ?_ ?_ ?_
 · first | exact ⟨by omega, rfl, by decide⟩ | (dsimp only; exact ⟨by omega, rfl, by decide⟩) | (show (0 ≤ ((Rdr.p r) + 1) ∧ ((Rdr.p r) + 1) ≤ r.p + 1 + (0 : Int)) ∧ (List.length ([] : List Int) = 0 ∧ (0 : Int) ≤ 5); exact ⟨by omega, rfl, by decide⟩)
 ·
  intro x k45q hI0 hk43 e44; obtain ⟨i, r1, ar4092⟩ := x; (first | dsimp only at e44 | skip); replace hI0 : (0 ≤ r1 ∧ r1 ≤ r.p + 1 + (i : Int)) ∧ (List.length ar4092 = i ∧ (i : Int) ≤ 5) := hI0; refine AW.seq (AW.seq (AW.r1U hC1 [0, 2, 3, 4, 5, 14, 1000, 1002] [0, 8, 4008, 4012, 4092] [(14, .bool (decide (((i : Nat) : Int) < (1 + (pick (Rdr.b r) (Rdr.p r) 5)))))] [] ?_)); refine AW.cdE e44 ?_ ?_
  ·
   intro h46q e47; refine AW.kpU [0, 2, 3, 4, 5, 1000, 1002] [0, 8, 4008, 4012, 4092] [] [] ?_; refine AW.skip (AW.seq (AW.block (AW.d0U hC1 hM [0, 2, 3, 4, 5, 1000, 1002] [0, 8, 4008, 4012, 4092] [] [(0, .box 0 [.data (.slice (.int .u8)) ((Rdr.b r) : List Int), .int .i64 (r1 + 1)]), (4092, .arr 1 (.int .i64) ((ar4092 ++ ([(one (Rdr.b r) r1 ([1, 2, 10, 50, 100, 1000, 7] : List Int))] : List Int)) : List Int))] [((0 ≤ (Rdr.mk (Rdr.b r) r1).p ∧ (Rdr.mk (Rdr.b r) r1).p ≤ 1099511627775) ∧ 1 ≤ (List.length ([1, 2, 10, 50, 100, 1000, 7] : List Int) : Int)), (((List.length ar4092 : Nat) : Int) + ((List.length ([(one (Rdr.b r) r1 ([1, 2, 10, 50, 100, 1000, 7] : List Int))] : List Int) : Nat) : Int) ≤ 4294967296)] ?_ ?_)))
   ·
    refine ⟨?_, ?_, trivial⟩
    · refine ⟨?_, ?_⟩ <;> (try dsimp only) <;> first | omega | (simp only [List.length_cons, List.length_nil]; omega) | decide
    · first | (omega) | ((dsimp only; omega)) | ((have h := pick_ok (n := 1 + pick r.b r.p 5 - 1) r.b r11 (by omega); first | omega | (simp only [List.length_append, List.length_cons, List.length_nil]; omega))) | ((simp only [List.length_append, List.length_cons, List.length_nil]; omega)) | ((refine ⟨?_, ?_⟩ <;> (try dsimp only) <;> first | omega | decide | (simp; omega) | simp))
   refine AW.r0U hC1 [0, 2, 3, 4, 5, 1000, 1002] [0, 8, 4008, 4012, 4092] [(5, .int .i64 ((i + 1 : Nat) : Int))] [] [(-9223372036854775808 ≤ ((i + 1 : Nat) : Int) ∧ ((i + 1 : Nat) : Int) ≤ 9223372036854775807)] ?_ ?_
   ·
    refine ⟨?_, trivial⟩
    · first | (omega) | ((dsimp only; omega)) | ((have h := pick_ok (n := 1 + pick r.b r.p 5 - 1) r.b r11 (by omega); first | omega | (simp only [List.length_append, List.length_cons, List.length_nil]; omega))) | ((simp only [List.length_append, List.length_cons, List.length_nil]; omega)) | ((refine ⟨?_, ?_⟩ <;> (try dsimp only) <;> first | omega | decide | (simp; omega) | simp))
   refine AW.bk (i + 1, (r1 + 1), (ar4092 ++ ([(one (Rdr.b r) r1 ([1, 2, 10, 50, 100, 1000, 7] : List Int))] : List Int))) e47 hk43 ?_ ?_
   · first | simp only [List.length_append, List.length_cons, List.length_nil]; omega | (dsimp only; simp only [List.length_append, List.length_cons, List.length_nil]; omega) | (show (0 ≤ (r1 + 1) ∧ (r1 + 1) ≤ r.p + 1 + ((i + 1) : Int)) ∧ (List.length (ar4092 ++ ([(one (Rdr.b r) r1 ([1, 2, 10, 50, 100, 1000, 7] : List Int))] : List Int)) = (i + 1) ∧ ((i + 1) : Int) ≤ 5); simp only [List.length_append, List.length_cons, List.length_nil]; omega)
   · first | omega | (simp only [lens]; omega) | (dsimp only; omega) | (dsimp only; (simp only [lens]; omega)) | (show Int.toNat ((1 + (pick (Rdr.b r) (Rdr.p r) 5)) - (((i + 1) : Nat) : Int)) < Int.toNat ((1 + (pick (Rdr.b r) (Rdr.p r) 5)) - ((i : Nat) : Int)); omega) | (show Int.toNat ((1 + (pick (Rdr.b r) (Rdr.p r) 5)) - (((i + 1) : Nat) : Int)) < Int.toNat ((1 + (pick (Rdr.b r) (Rdr.p r) 5)) - ((i : Nat) : Int)); (simp only [lens]; omega))
  · intro h48q e49; refine AW.kpU [0, 2, 3, 4, 1000, 1002] [0, 8, 4008, 4012, 4092] [] [] ?_; refine AW.exit ?_; refine AW.meet (r1, ar4092) (by kernel_rfl) ⟨?_, e49⟩; first | omega | (dsimp only; omega) | (show (0 ≤ r1 ∧ r1 ≤ r.p + 10) ∧ (1 ≤ List.length ar4092 ∧ List.length ar4092 ≤ 5); omega)
 ·
  intro x hJ0 e50; obtain ⟨r1, ar4092⟩ := x; replace hJ0 : (0 ≤ r1 ∧ r1 ≤ r.p + 10) ∧ (1 ≤ List.length ar4092 ∧ List.length ar4092 ≤ 5) := hJ0; have e51 := e0.trans (Go.Am.then_eq e50); (first | dsimp only at e51 | skip); refine AW.seq (AW.seq (AW.r0U hC1 [0, 2, 3, 4, 6, 1000, 1002] [0, 8, 4008, 4012, 4092] [(6, .int .i64 (pick (Rdr.b r) r1 6))] [(0, .box 0 [.data (.slice (.int .u8)) ((Rdr.b r) : List Int), .int .i64 (r1 + 1)])] [(0 ≤ (Rdr.mk (Rdr.b r) r1).p ∧ (Rdr.mk (Rdr.b r) r1).p ≤ 1099511627776)] ?_ ?_))
  ·
   refine ⟨?_, trivial⟩
   · first | (omega) | ((dsimp only; omega)) | ((have h := pick_ok (n := 1 + pick r.b r.p 5 - 1) r.b r11 (by omega); first | omega | (simp only [List.length_append, List.length_cons, List.length_nil]; omega))) | ((simp only [List.length_append, List.length_cons, List.length_nil]; omega)) | ((refine ⟨?_, ?_⟩ <;> (try dsimp only) <;> first | omega | decide | (simp; omega) | simp))
  refine AW.adoptB 4012 1 1 4204 [.arr 4092 1, .nilsl] (.named 0) (by kernel_rfl) (by kernel_rfl) (by kernel_rfl) ?_; refine AW.kp [0, 2, 3, 4, 6, 1000, 1002] [0, 8, 4008, 4012, 4092, 4204] ⟨[(0, .ref 0 0 0), (2, .ref 4008 1 0), (3, .ref 4012 1 0), (4, .int .i64 (1 + (pick (Rdr.b r) (Rdr.p r) 5))), (6, .int .i64 (pick (Rdr.b r) r1 6)), (1000, .ref 0 0 0), (1002, .ref 8 1 0)], [(0, .box 0 [.data (.slice (.int .u8)) ((Rdr.b r) : List Int), .int .i64 (r1 + 1)]), (8, .box 1 [.nilsl, .nilsl]), (4008, .box 1 [.nilsl, .nilsl]), (4012, .box 1 [.arr 4092 1, .arr 4204 1]), (4092, .arr 1 (.int .i64) (ar4092 : List Int)), (4204, .arr 1 (.named 0) (([] : List Edge) : List Edge))]⟩ ?_; refine AW.lpB (ζ := Int × (List Edge)) (fun x => ⟨[(2, .ref 4008 1 0), (3, .ref 4012 1 0), (1000, .ref 0 0 0), (1002, .ref 8 1 0)], [(0, .box 0 [.data (.slice (.int .u8)) ((Rdr.b r) : List Int), .int .i64 x.1]), (8, .box 1 [.nilsl, .nilsl]), (4008, .box 1 [.nilsl, .nilsl]), (4012, .box 1 [.arr 4092 1, .arr 4204 1]), (4092, .arr 1 (.int .i64) (ar4092 : List Int)), (4204, .arr 1 (.named 0) (x.2 : List Edge))]⟩) (fun x => (0 ≤ x.1 ∧ x.1 ≤ r.p + 40) ∧ (List.length x.2 : Int) ≤ 5) (fun x => x) (α := Int × Int × (List Edge)) (fun x => ⟨[(0, .ref 0 0 0), (2, .ref 4008 1 0), (3, .ref 4012 1 0), (4, .int .i64 (1 + (pick (Rdr.b r) (Rdr.p r) 5))), (6, .int .i64 x.1), (1000, .ref 0 0 0), (1002, .ref 8 1 0)], [(0, .box 0 [.data (.slice (.int .u8)) ((Rdr.b r) : List Int), .int .i64 x.2.1]), (8, .box 1 [.nilsl, .nilsl]), (4008, .box 1 [.nilsl, .nilsl]), (4012, .box 1 [.arr 4092 1, .arr 4204 1]), (4092, .arr 1 (.int .i64) (ar4092 : List Int)), (4204, .arr 1 (.named 0) (x.2.2 : List Edge))]⟩) (fun x => (0 ≤ x.2.1 ∧ x.2.1 + 3 * x.1 ≤ r.p + 40) ∧ (0 ≤ x.1 ∧ (List.length x.2.2 : Int) + x.1 ≤ 5)) (fun x => Int.toNat x.1) (fun k x => anyGraph_l1 r k x.1 x.2.1 x.2.2) ((pick (Rdr.b r) r1 6), (r1 + 1), ([] : List Edge)) (by kernel_rfl) ?_ ?_ ?_
  · first | have := pick_ok (n := 6) r.b r1 (by decide); simp only [List.length_nil]; omega | (dsimp only; have := pick_ok (n := 6) r.b r1 (by decide); simp only [List.length_nil]; omega) | (show (0 ≤ (r1 + 1) ∧ (r1 + 1) + 3 * (pick (Rdr.b r) r1 6) ≤ r.p + 40) ∧ (0 ≤ (pick (Rdr.b r) r1 6) ∧ (List.length ([] : List Edge) : Int) + (pick (Rdr.b r) r1 6) ≤ 5); have := pick_ok (n := 6) r.b r1 (by decide); simp only [List.length_nil]; omega)
  ·
   intro x k54q hI1 hk52 e53; obtain ⟨k1, r11, ar4204⟩ := x; (first | dsimp only at e53 | skip); replace hI1 : (0 ≤ r11 ∧ r11 + 3 * k1 ≤ r.p + 40) ∧ (0 ≤ k1 ∧ (List.length ar4204 : Int) + k1 ≤ 5) := hI1; refine AW.seq (AW.seq (AW.r0U hC1 [0, 2, 3, 4, 6, 32, 1000, 1002] [0, 8, 4008, 4012, 4092, 4204] [(32, .bool (bif (decide (0 < k1)) then (decide (1 < (1 + (pick (Rdr.b r) (Rdr.p r) 5)))) else false))] [] [(((decide (0 < k1)) = true) → (((decide (0 < k1)) = true))), (((decide (0 < k1)) = true) → (((decide (0 < k1)) = true)))] ?_ ?_))
   ·
    refine ⟨?_, ?_, trivial⟩
    · first | (intro g55; assumption) | (intro g55; exact ⟨by assumption, by assumption⟩) | (intro g55; (have g55p0 : 0 < k1 := (of_decide_eq_true g55)); assumption) | (intro g55; (have g55p0 : 0 < k1 := (of_decide_eq_true g55)); exact ⟨by assumption, by assumption⟩)
    · first | (intro g56; assumption) | (intro g56; exact ⟨by assumption, by assumption⟩) | (intro g56; (have g56p0 : 0 < k1 := (of_decide_eq_true g56)); assumption) | (intro g56; (have g56p0 : 0 < k1 := (of_decide_eq_true g56)); exact ⟨by assumption, by assumption⟩)
   refine AW.cdE e53 ?_ ?_
   ·
    intro h57q e58; refine AW.kpU [0, 2, 3, 4, 6, 1000, 1002] [0, 8, 4008, 4012, 4092, 4204] [] [] ?_; refine AW.skip (AW.seq (AW.block (AW.seq (AW.r0U hC1 [0, 2, 3, 4, 6, 7, 1000, 1002] [0, 8, 4008, 4012, 4092, 4204] [(7, .int .i64 (1 + (pick (Rdr.b r) r11 ((1 + (pick (Rdr.b r) (Rdr.p r) 5)) - 1))))] [(0, .box 0 [.data (.slice (.int .u8)) ((Rdr.b r) : List Int), .int .i64 (r11 + 1)])] [(-9223372036854775808 ≤ ((1 + (pick (Rdr.b r) (Rdr.p r) 5)) - 1) ∧ ((1 + (pick (Rdr.b r) (Rdr.p r) 5)) - 1) ≤ 9223372036854775807), (0 ≤ (Rdr.mk (Rdr.b r) r11).p ∧ (Rdr.mk (Rdr.b r) r11).p ≤ 1099511627776), (-9223372036854775808 ≤ (1 + (pick (Rdr.b r) r11 ((1 + (pick (Rdr.b r) (Rdr.p r) 5)) - 1))) ∧ (1 + (pick (Rdr.b r) r11 ((1 + (pick (Rdr.b r) (Rdr.p r) 5)) - 1))) ≤ 9223372036854775807)] ?_ ?_))))
    ·
     refine ⟨?_, ?_, ?_, trivial⟩
     · first | (omega) | ((dsimp only; omega)) | ((have h := pick_ok (n := 1 + pick r.b r.p 5 - 1) r.b r11 (by omega); first | omega | (simp only [List.length_append, List.length_cons, List.length_nil]; omega))) | ((simp only [List.length_append, List.length_cons, List.length_nil]; omega)) | ((refine ⟨?_, ?_⟩ <;> (try dsimp only) <;> first | omega | decide | (simp; omega) | simp))
     · first | (omega) | ((dsimp only; omega)) | ((have h := pick_ok (n := 1 + pick r.b r.p 5 - 1) r.b r11 (by omega); first | omega | (simp only [List.length_append, List.length_cons, List.length_nil]; omega))) | ((simp only [List.length_append, List.length_cons, List.length_nil]; omega)) | ((refine ⟨?_, ?_⟩ <;> (try dsimp only) <;> first | omega | decide | (simp; omega) | simp))
     · first | (omega) | ((dsimp only; omega)) | ((have h := pick_ok (n := 1 + pick r.b r.p 5 - 1) r.b r11 (by omega); first | omega | (simp only [List.length_append, List.length_cons, List.length_nil]; omega))) | ((simp only [List.length_append, List.length_cons, List.length_nil]; omega)) | ((refine ⟨?_, ?_⟩ <;> (try dsimp only) <;> first | omega | decide | (simp; omega) | simp))
    refine AW.d0U hC1 hM [0, 2, 3, 4, 6, 1000, 1002] [0, 8, 4008, 4012, 4092, 4204] [] [(0, .box 0 [.data (.slice (.int .u8)) ((Rdr.b r) : List Int), .int .i64 (((r11 + 1) + 1) + 1)]), (4204, .arr 1 (.named 0) ((ar4204 ++ ([(Edge.mk (pick (Rdr.b r) (r11 + 1) (1 + (pick (Rdr.b r) r11 ((1 + (pick (Rdr.b r) (Rdr.p r) 5)) - 1)))) (1 + (pick (Rdr.b r) r11 ((1 + (pick (Rdr.b r) (Rdr.p r) 5)) - 1))) (one (Rdr.b r) ((r11 + 1) + 1) ([1, 2, 10, 100, 3] : List Int)))] : List Edge)) : List Edge))] [(0 ≤ (Rdr.mk (Rdr.b r) (r11 + 1)).p ∧ (Rdr.mk (Rdr.b r) (r11 + 1)).p ≤ 1099511627776), ((0 ≤ (Rdr.mk (Rdr.b r) ((r11 + 1) + 1)).p ∧ (Rdr.mk (Rdr.b r) ((r11 + 1) + 1)).p ≤ 1099511627775) ∧ 1 ≤ (List.length ([1, 2, 10, 100, 3] : List Int) : Int)), (((List.length ar4204 : Nat) : Int) + ((List.length ([(Edge.mk (pick (Rdr.b r) (r11 + 1) (1 + (pick (Rdr.b r) r11 ((1 + (pick (Rdr.b r) (Rdr.p r) 5)) - 1)))) (1 + (pick (Rdr.b r) r11 ((1 + (pick (Rdr.b r) (Rdr.p r) 5)) - 1))) (one (Rdr.b r) ((r11 + 1) + 1) ([1, 2, 10, 100, 3] : List Int)))] : List Edge) : Nat) : Int) ≤ 4294967296)] ?_ ?_
    ·
     refine ⟨?_, ?_, ?_, trivial⟩
     · first | (omega) | ((dsimp only; omega)) | ((have h := pick_ok (n := 1 + pick r.b r.p 5 - 1) r.b r11 (by omega); first | omega | (simp only [List.length_append, List.length_cons, List.length_nil]; omega))) | ((simp only [List.length_append, List.length_cons, List.length_nil]; omega)) | ((refine ⟨?_, ?_⟩ <;> (try dsimp only) <;> first | omega | decide | (simp; omega) | simp))
     · refine ⟨?_, ?_⟩ <;> (try dsimp only) <;> first | omega | (simp only [List.length_cons, List.length_nil]; omega) | decide
     · first | (omega) | ((dsimp only; omega)) | ((have h := pick_ok (n := 1 + pick r.b r.p 5 - 1) r.b r11 (by omega); first | omega | (simp only [List.length_append, List.length_cons, List.length_nil]; omega))) | ((simp only [List.length_append, List.length_cons, List.length_nil]; omega)) | ((refine ⟨?_, ?_⟩ <;> (try dsimp only) <;> first | omega | decide | (simp; omega) | simp))
    refine AW.r0U hC1 [0, 2, 3, 4, 6, 1000, 1002] [0, 8, 4008, 4012, 4092, 4204] [(6, .int .i64 (k1 - 1))] [] [(-9223372036854775808 ≤ (k1 - 1) ∧ (k1 - 1) ≤ 9223372036854775807)] ?_ ?_
    ·
     refine ⟨?_, trivial⟩
     · first | (omega) | ((dsimp only; omega)) | ((have h := pick_ok (n := 1 + pick r.b r.p 5 - 1) r.b r11 (by omega); first | omega | (simp only [List.length_append, List.length_cons, List.length_nil]; omega))) | ((simp only [List.length_append, List.length_cons, List.length_nil]; omega)) | ((refine ⟨?_, ?_⟩ <;> (try dsimp only) <;> first | omega | decide | (simp; omega) | simp))
    refine AW.bk ((k1 - 1), (((r11 + 1) + 1) + 1), (ar4204 ++ ([(Edge.mk (pick (Rdr.b r) (r11 + 1) (1 + (pick (Rdr.b r) r11 ((1 + (pick (Rdr.b r) (Rdr.p r) 5)) - 1)))) (1 + (pick (Rdr.b r) r11 ((1 + (pick (Rdr.b r) (Rdr.p r) 5)) - 1))) (one (Rdr.b r) ((r11 + 1) + 1) ([1, 2, 10, 100, 3] : List Int)))] : List Edge))) e58 hk52 ?_ ?_
    · first | have := h57q.1; simp only [List.length_append, List.length_cons, List.length_nil]; omega | (dsimp only; have := h57q.1; simp only [List.length_append, List.length_cons, List.length_nil]; omega) | (show (0 ≤ (((r11 + 1) + 1) + 1) ∧ (((r11 + 1) + 1) + 1) + 3 * (k1 - 1) ≤ r.p + 40) ∧ (0 ≤ (k1 - 1) ∧ (List.length (ar4204 ++ ([(Edge.mk (pick (Rdr.b r) (r11 + 1) (1 + (pick (Rdr.b r) r11 ((1 + (pick (Rdr.b r) (Rdr.p r) 5)) - 1)))) (1 + (pick (Rdr.b r) r11 ((1 + (pick (Rdr.b r) (Rdr.p r) 5)) - 1))) (one (Rdr.b r) ((r11 + 1) + 1) ([1, 2, 10, 100, 3] : List Int)))] : List Edge)) : Int) + (k1 - 1) ≤ 5); have := h57q.1; simp only [List.length_append, List.length_cons, List.length_nil]; omega)
    · first | have := h57q.1; omega | (dsimp only; have := h57q.1; omega) | (show Int.toNat (k1 - 1) < Int.toNat k1; have := h57q.1; omega)
   · intro h59q e60; refine AW.kpU [2, 3, 1000, 1002] [0, 8, 4008, 4012, 4092, 4204] [] [] ?_; refine AW.exit ?_; refine AW.meet (r11, ar4204) (by kernel_rfl) ⟨?_, e60⟩; first | omega | (dsimp only; omega) | (show (0 ≤ r11 ∧ r11 ≤ r.p + 40) ∧ (List.length ar4204 : Int) ≤ 5; omega)
  ·
   intro x hJ1 e61; obtain ⟨r11, ar4204⟩ := x; replace hJ1 : (0 ≤ r11 ∧ r11 ≤ r.p + 40) ∧ (List.length ar4204 : Int) ≤ 5 := hJ1; have e62 := e51.trans (Go.Am.then_eq e61); (first | dsimp only at e62 | skip); refine AW.seq (AW.r1U hC1 [2, 1000, 1002] [0, 8, 4008, 4092, 4204] [] [(4008, .box 1 [.arr 4092 1, .arr 4204 1])] ?_); refine AW.ret ?_; refine ⟨[.agg [.arr 4092 1, .arr 4204 1]], by kernel_rfl, ?_⟩; refine AWO.keep [0, 2, 5] [0, 8, 4092, 4204] ⟨[(0, .ref 0 0 0), (2, .ref 8 1 0), (5, .agg [.arr 4092 1, .arr 4204 1])], [(0, .box 0 [.data (.slice (.int .u8)) ((Rdr.b r) : List Int), .int .i64 r11]), (8, .box 1 [.nilsl, .nilsl]), (4092, .arr 1 (.int .i64) (ar4092 : List Int)), (4204, .arr 1 (.named 0) (ar4204 : List Edge))]⟩ (by kernel_rfl) ?_
   refine AWO.runU hC false [] [2, 3] [] [0, 2, 3] [0, 8, 12, 4092, 4204]
    [(3, .ref 12 1 0)] [(12, .box 1 [.arr 4092 1, .arr 4204 1])]
    [] (by rfl) (by kernel_rfl) ?_ ?_
   · exact trivial
   refine AWO.nil ?_; refine AW.seq (AW.seq (AW.r0U hC [0, 2, 3, 7] [0, 8, 12, 4092, 4204] [(7, .int .i64 (pick (Rdr.b r) r11 18))] [(0, .box 0 [.data (.slice (.int .u8)) ((Rdr.b r) : List Int), .int .i64 (r11 + 1)])] [(0 ≤ (Rdr.mk (Rdr.b r) r11).p ∧ (Rdr.mk (Rdr.b r) r11).p ≤ 1099511627776)] ?_ ?_))
   ·
    refine ⟨?_, trivial⟩
    · first | (omega) | ((dsimp only; omega)) | ((have h := pick_ok (n := 1 + pick r.b r.p 5 - 1) r.b r11 (by omega); first | omega | (simp only [List.length_append, List.length_cons, List.length_nil]; omega))) | ((simp only [List.length_append, List.length_cons, List.length_nil]; omega)) | ((refine ⟨?_, ?_⟩ <;> (try dsimp only) <;> first | omega | decide | (simp; omega) | simp))
   refine AW.block (AW.seq (AW.r1U hC [0, 2, 3, 7, 8] [0, 8, 12, 4092, 4204] [(8, .bool ((pick (Rdr.b r) r11 18) == 0))] [] ?_)); refine AW.cdE e62 ?_ ?_
   ·
    intro h63q e64; refine AW.d0U hC hM [2, 3] [0, 8, 12, 4092, 4204] [] [(0, .box 0 [.data (.slice (.int .u8)) ((Rdr.b r) : List Int), .int .i64 ((r11 + 1) + 1)]), (4092, .arr 1 (.int .i64) ((List.set ar4092 0 (one (Rdr.b r) (r11 + 1) ([0, 1001] : List Int))) : List Int))] [((0 ≤ (Rdr.mk (Rdr.b r) (r11 + 1)).p ∧ (Rdr.mk (Rdr.b r) (r11 + 1)).p ≤ 1099511627775) ∧ 1 ≤ (List.length ([0, 1001] : List Int) : Int)), (0 ≤ (0 : Int) ∧ (0 : Int) < ((List.length ar4092 : Nat) : Int))] ?_ ?_
    ·
     refine ⟨?_, ?_, trivial⟩
     · refine ⟨?_, ?_⟩ <;> (try dsimp only) <;> first | omega | (simp only [List.length_cons, List.length_nil]; omega) | decide
     · first | (omega) | ((dsimp only; omega)) | ((have h := pick_ok (n := 1 + pick r.b r.p 5 - 1) r.b r11 (by omega); first | omega | (simp only [List.length_append, List.length_cons, List.length_nil]; omega))) | ((simp only [List.length_append, List.length_cons, List.length_nil]; omega)) | ((refine ⟨?_, ?_⟩ <;> (try dsimp only) <;> first | omega | decide | (simp; omega) | simp))
    refine AW.seq (AW.r1U hC [2] [0, 8, 4092, 4204] [] [(8, .box 1 [.arr 4092 1, .arr 4204 1])] ?_); exact AW.ret (AW.retE (β := Graph × Rdr) (fun v => [⟨(.named 1), v.1⟩]) (fun v => [⟨(.named 2), v.2⟩]) (v := ((Graph.mk (List.set ar4092 0 (one (Rdr.b r) (r11 + 1) ([0, 1001] : List Int))) ar4204), (Rdr.mk (Rdr.b r) ((r11 + 1) + 1)))) e64 (by kernel_rfl) rfl rfl)
   ·
    intro h65q e66; refine AW.seq (AW.r1U hC [0, 2, 3, 7, 16] [0, 8, 12, 4092, 4204] [(16, .bool ((pick (Rdr.b r) r11 18) == 1))] [] ?_); refine AW.cdE e66 ?_ ?_
    ·
     intro h67q e68; refine AW.d0U hC hM [2, 3] [0, 8, 12, 4092, 4204] [] [(0, .box 0 [.data (.slice (.int .u8)) ((Rdr.b r) : List Int), .int .i64 ((r11 + 1) + 1)]), (4204, .arr 1 (.named 0) ((ar4204 ++ ([(Edge.mk 0 (one (Rdr.b r) (r11 + 1) ([0, ((List.length ar4092 : Nat) : Int)] : List Int)) 1)] : List Edge)) : List Edge))] [((0 ≤ (Rdr.mk (Rdr.b r) (r11 + 1)).p ∧ (Rdr.mk (Rdr.b r) (r11 + 1)).p ≤ 1099511627775) ∧ 1 ≤ (List.length ([0, ((List.length ar4092 : Nat) : Int)] : List Int) : Int)), (((List.length ar4204 : Nat) : Int) + ((List.length ([(Edge.mk 0 (one (Rdr.b r) (r11 + 1) ([0, ((List.length ar4092 : Nat) : Int)] : List Int)) 1)] : List Edge) : Nat) : Int) ≤ 4294967296)] ?_ ?_
     ·
      refine ⟨?_, ?_, trivial⟩
      · refine ⟨?_, ?_⟩ <;> (try dsimp only) <;> first | omega | (simp only [List.length_cons, List.length_nil]; omega) | decide
      · first | (omega) | ((dsimp only; omega)) | ((have h := pick_ok (n := 1 + pick r.b r.p 5 - 1) r.b r11 (by omega); first | omega | (simp only [List.length_append, List.length_cons, List.length_nil]; omega))) | ((simp only [List.length_append, List.length_cons, List.length_nil]; omega)) | ((refine ⟨?_, ?_⟩ <;> (try dsimp only) <;> first | omega | decide | (simp; omega) | simp))
     refine AW.seq (AW.r1U hC [2] [0, 8, 4092, 4204] [] [(8, .box 1 [.arr 4092 1, .arr 4204 1])] ?_); exact AW.ret (AW.retE (β := Graph × Rdr) (fun v => [⟨(.named 1), v.1⟩]) (fun v => [⟨(.named 2), v.2⟩]) (v := ((Graph.mk ar4092 (ar4204 ++ ([(Edge.mk 0 (one (Rdr.b r) (r11 + 1) ([0, ((List.length ar4092 : Nat) : Int)] : List Int)) 1)] : List Edge))), (Rdr.mk (Rdr.b r) ((r11 + 1) + 1)))) e68 (by kernel_rfl) rfl rfl)
    ·
     intro h69q e70; refine AW.seq (AW.r1U hC [2, 3, 30] [0, 8, 12, 4092, 4204] [(30, .bool ((pick (Rdr.b r) r11 18) == 2))] [] ?_); refine AW.cdE e70 ?_ ?_
     ·
      intro h71q e72; refine AW.r0U hC [2, 3] [0, 8, 12, 4092, 4204] [] [(4092, .arr 1 (.int .i64) ((ar4092 ++ ([5, 5, 5, 5, 5] : List Int)) : List Int))] [(((List.length ar4092 : Nat) : Int) + ((List.length ([5, 5, 5, 5, 5] : List Int) : Nat) : Int) ≤ 4294967296)] ?_ ?_
      ·
       refine ⟨?_, trivial⟩
       · first | (omega) | ((dsimp only; omega)) | ((have h := pick_ok (n := 1 + pick r.b r.p 5 - 1) r.b r11 (by omega); first | omega | (simp only [List.length_append, List.length_cons, List.length_nil]; omega))) | ((simp only [List.length_append, List.length_cons, List.length_nil]; omega)) | ((refine ⟨?_, ?_⟩ <;> (try dsimp only) <;> first | omega | decide | (simp; omega) | simp))
      refine AW.seq (AW.r1U hC [2] [0, 8, 4092, 4204] [] [(8, .box 1 [.arr 4092 1, .arr 4204 1])] ?_); exact AW.ret (AW.retE (β := Graph × Rdr) (fun v => [⟨(.named 1), v.1⟩]) (fun v => [⟨(.named 2), v.2⟩]) (v := ((Graph.mk (ar4092 ++ ([5, 5, 5, 5, 5] : List Int)) ar4204), (Rdr.mk (Rdr.b r) (r11 + 1)))) e72 (by kernel_rfl) rfl rfl)
     · intro h73q e74; refine AW.kpU [2, 3] [0, 8, 12, 4092, 4204] [] [] ?_; refine AW.skip (AW.seq (AW.r1U hC [2] [0, 8, 4092, 4204] [] [(8, .box 1 [.arr 4092 1, .arr 4204 1])] ?_)); exact AW.ret (AW.retE (β := Graph × Rdr) (fun v => [⟨(.named 1), v.1⟩]) (fun v => [⟨(.named 2), v.2⟩]) (v := ((Graph.mk ar4092 ar4204), (Rdr.mk (Rdr.b r) (r11 + 1)))) e74 (by kernel_rfl) rfl rfl)

theorem anyGraph_l0_p (r : Rdr) : ∀ (k i : Nat) (p : Int) (a : List Int), p ≤ (anyGraph_l0 r k i p a).1 ∧ (anyGraph_l0 r k i p a).1 ≤ p + ((5 - i : Nat) : Int) := by
 have h5 := pick_ok (n := 5) r.b r.p (by decide); intro k
 induction k with
 | zero => intro i p a; exact ⟨Int.le_refl _, by show p ≤ p + _; omega⟩
 | succ k ih =>
  intro i p a; unfold anyGraph_l0; by_cases h : ((i : Nat) : Int) < 1 + pick r.b r.p 5
  · rw [decide_eq_true h, cond_true]; have := ih (i + 1) (p + 1) (a ++ ([(one (Rdr.b r) p ([1, 2, 10, 50, 100, 1000, 7] : List Int))] : List Int)); omega
  · rw [decide_eq_false h, cond_false]; simp only; omega

theorem anyGraph_l1_p (r : Rdr) : ∀ (k : Nat) (c p : Int) (a : List Edge), 0 ≤ c → p ≤ (anyGraph_l1 r k c p a).1 ∧ (anyGraph_l1 r k c p a).1 ≤ p + 3 * c := by
 intro k
 induction k with
 | zero => intro c p a h; exact ⟨Int.le_refl _, by show p ≤ p + 3 * c; omega⟩
 | succ k ih =>
  intro c p a h; unfold anyGraph_l1
  cases hc : (bif (decide (0 < c)) then (decide (1 < (1 + (pick (Rdr.b r) (Rdr.p r) 5)))) else false) with
  | true =>
   have h1 := of_decide_eq_true (and_pos hc).1; rw [cond_true]; have := ih (c - 1) (((p + 1) + 1) + 1) (a ++ ([(Edge.mk (pick (Rdr.b r) (p + 1) (1 + (pick (Rdr.b r) p ((1 + (pick (Rdr.b r) (Rdr.p r) 5)) - 1)))) (1 + (pick (Rdr.b r) p ((1 + (pick (Rdr.b r) (Rdr.p r) 5)) - 1))) (one (Rdr.b r) ((p + 1) + 1) ([1, 2, 10, 100, 3] : List Int)))] : List Edge)) (by omega); omega
  | false =>
   rw [cond_false]; simp only; omega

theorem anyGraph_p (r : Rdr) : r.p ≤ (anyGraph r).2.p ∧ (anyGraph r).2.p ≤ r.p + 40 := by
 have a := anyGraph_l0_p r (Int.toNat ((1 + (pick (Rdr.b r) (Rdr.p r) 5)) - ((0 : Nat) : Int)) + 1) 0 ((Rdr.p r) + 1) []; dsimp only [anyGraph, Go.Am.andThen]; generalize anyGraph_l0 r (Int.toNat ((1 + (pick (Rdr.b r) (Rdr.p r) 5)) - ((0 : Nat) : Int)) + 1) 0 ((Rdr.p r) + 1) [] = x at *; obtain ⟨p, l⟩ := x; simp only at a ⊢; have h6 := pick_ok (n := 6) r.b p (by decide); have b := anyGraph_l1_p r (Int.toNat (pick (Rdr.b r) p 6) + 1) (pick (Rdr.b r) p 6) (p + 1) [] h6.1; generalize anyGraph_l1 r (Int.toNat (pick (Rdr.b r) p 6) + 1) (pick (Rdr.b r) p 6) (p + 1) [] = y at *; obtain ⟨q, m⟩ := y; simp only at b ⊢
 cases (pick (Rdr.b r) q 18 == 0) with
 | true => simp only [cond_true]; omega
 | false =>
  cases (pick (Rdr.b r) q 18 == 1) with
  | true => simp only [cond_true, cond_false]; omega
  | false =>
   cases (pick (Rdr.b r) q 18 == 2) with
   | true => simp only [cond_true, cond_false]; omega
   | false => simp only [cond_false]; omega

end
end Go.Proofs.Ytclennmbceaoeaa
