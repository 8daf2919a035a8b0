/-
  A part of the proof of this claim (AwD): what functions of the program compute, and plain facts of that. No conditions.
-/
import Derived.Test.YtjcjpeckfikfkaaAwC
set_option linter.all false
namespace Go.Proofs.Ytjcjpeckfikfkaa
open Go Go.Am
open Go.Am.AW (seq r1U ret kpU cdE r0U meet block bk exit lpB r0 kp cutQ cd d0U)
open List (length getD set)
noncomputable section

def anyValue (r : Rdr) : Val × Rdr := (bif ((pick (Rdr.b ((randomValue r).2)) (Rdr.p ((randomValue r).2)) 14) == 0) then ((Val.mk true 1), (Rdr.mk (Rdr.b ((randomValue r).2)) ((Rdr.p ((randomValue r).2)) + 1))) else (bif ((pick (Rdr.b ((randomValue r).2)) (Rdr.p ((randomValue r).2)) 14) == 1) then ((Val.mk false (one (Rdr.b ((randomValue r).2)) ((Rdr.p ((randomValue r).2)) + 1) ([10000, (-10000), 9999, (-9999)] : List Int))), (Rdr.mk (Rdr.b ((randomValue r).2)) (((Rdr.p ((randomValue r).2)) + 1) + 1))) else (((randomValue r).1), (Rdr.mk (Rdr.b ((randomValue r).2)) ((Rdr.p ((randomValue r).2)) + 1)))))

def anyValue_sp : FnSpec := mkSpecB [.box 3] [.val (.named 1)] (fun (r : Rdr) => 0 ≤ r.p ∧ r.p ≤ 1000000100000) (fun (r : Rdr) => [⟨(.named 1), ((anyValue r).1)⟩]) (fun (r : Rdr) => [⟨(.named 3), ((anyValue r).2)⟩])

theorem anyValue_ok : FnOK Try.prog 93 anyValue_sp := by
 have hC : CtxOK Try.prog (mkCtx tyL [(56, pickS), (59, oneS), (92, randomValue_sp)]) := CtxOK.cons pickS_ok (CtxOK.cons oneS_ok (CtxOK.cons randomValue_ok (CtxOK.nil tyOK))); refine FnOK.of_body Try.func93 (by kernel_rfl) rfl (C := (mkCtx tyL [(56, pickS), (59, oneS), (92, randomValue_sp)])) hC.ty (by kernel_rfl) ?_; intro (r : Rdr) hwf hpre E; have hpre : 0 ≤ r.p ∧ r.p ≤ 1000000100000 := hpre; have e0 : anyValue r = anyValue r := rfl; refine seq (r1U hC [0, 2] [0, 8] [(2, .ref 8 1 0)] [(8, .box 1 [.bool false, .int .i64 0])] ?_); refine seq (r0U hC [0, 2, 3] [0, 8, 12] [(3, .ref 12 1 0)] [(0, .box 0 [.data (.slice (.int .u8)) ((Rdr.b ((randomValue r).2)) : List Int), .int .i64 (Rdr.p ((randomValue r).2))]), (12, .box 1 [.bool (Val.Null ((randomValue r).1)), .int .i64 (Val.N ((randomValue r).1))])] [(0 ≤ r.p ∧ r.p ≤ 1000000200000)] ?_ ?_)
 ·
  exact ⟨(by have := randomValue_p r; (first | omega | (dsimp only; omega) | (refine ⟨?_, ?_⟩ <;> (try dsimp only) <;> first | omega | decide))), trivial⟩
 refine seq (seq (r0U hC [0, 2, 3, 7] [0, 8, 12] [(7, .int .i64 (pick (Rdr.b ((randomValue r).2)) (Rdr.p ((randomValue r).2)) 14))] [(0, .box 0 [.data (.slice (.int .u8)) ((Rdr.b ((randomValue r).2)) : List Int), .int .i64 ((Rdr.p ((randomValue r).2)) + 1)])] [(0 ≤ ((randomValue r).2).p ∧ ((randomValue r).2).p ≤ 1099511627776)] ?_ ?_))
 ·
  exact ⟨(by have := randomValue_p r; (first | omega | (dsimp only; omega) | (refine ⟨?_, ?_⟩ <;> (try dsimp only) <;> first | omega | decide))), trivial⟩
 refine block (seq (r1U hC [0, 2, 3, 7, 8] [0, 8, 12] [(8, .bool ((pick (Rdr.b ((randomValue r).2)) (Rdr.p ((randomValue r).2)) 14) == 0))] [] ?_)); refine cdE e0 ?_ ?_
 · intro h1q e2; refine seq (r1U hC [2] [0, 8] [] [(8, .box 1 [.bool true, .int .i64 1])] ?_); exact ret (AW.retE (β := Val × Rdr) (fun v => [⟨(.named 1), v.1⟩]) (fun v => [⟨(.named 3), v.2⟩]) (v := ((Val.mk true 1), (Rdr.mk (Rdr.b ((randomValue r).2)) ((Rdr.p ((randomValue r).2)) + 1)))) e2 (by kernel_rfl) rfl rfl)
 ·
  intro h3q e4; refine seq (r1U hC [0, 2, 3, 11] [0, 8, 12] [(11, .bool ((pick (Rdr.b ((randomValue r).2)) (Rdr.p ((randomValue r).2)) 14) == 1))] [] ?_); refine cdE e4 ?_ ?_
  ·
   intro h5q e6; refine seq (r0U hC [2] [0, 8] [] [(0, .box 0 [.data (.slice (.int .u8)) ((Rdr.b ((randomValue r).2)) : List Int), .int .i64 (((Rdr.p ((randomValue r).2)) + 1) + 1)]), (8, .box 1 [.bool false, .int .i64 (one (Rdr.b ((randomValue r).2)) ((Rdr.p ((randomValue r).2)) + 1) ([10000, (-10000), 9999, (-9999)] : List Int))])] [((0 ≤ (Rdr.mk (Rdr.b ((randomValue r).2)) ((Rdr.p ((randomValue r).2)) + 1)).p ∧ (Rdr.mk (Rdr.b ((randomValue r).2)) ((Rdr.p ((randomValue r).2)) + 1)).p ≤ 1099511627775) ∧ 1 ≤ (length ([10000, (-10000), 9999, (-9999)] : List Int) : Int))] ?_ ?_)
   ·
    exact ⟨(by have := randomValue_p r; (first | omega | (dsimp only; omega) | (refine ⟨?_, ?_⟩ <;> (try dsimp only) <;> first | omega | decide))), trivial⟩
   exact ret (AW.retE (β := Val × Rdr) (fun v => [⟨(.named 1), v.1⟩]) (fun v => [⟨(.named 3), v.2⟩]) (v := ((Val.mk false (one (Rdr.b ((randomValue r).2)) ((Rdr.p ((randomValue r).2)) + 1) ([10000, (-10000), 9999, (-9999)] : List Int))), (Rdr.mk (Rdr.b ((randomValue r).2)) (((Rdr.p ((randomValue r).2)) + 1) + 1)))) e6 (by kernel_rfl) rfl rfl)
  · intro h7q e8; refine kpU [2, 3] [0, 8, 12] [] [] ?_; refine AW.skip (seq (r1U hC [2] [0, 8] [] [(8, .box 1 [.bool (Val.Null ((randomValue r).1)), .int .i64 (Val.N ((randomValue r).1))])] ?_)); exact ret (AW.retE (β := Val × Rdr) (fun v => [⟨(.named 1), v.1⟩]) (fun v => [⟨(.named 3), v.2⟩]) (v := (((randomValue r).1), (Rdr.mk (Rdr.b ((randomValue r).2)) ((Rdr.p ((randomValue r).2)) + 1)))) e8 (by kernel_rfl) rfl rfl)

theorem anyValue_p (r : Rdr) : r.p ≤ (anyValue r).2.p ∧ (anyValue r).2.p ≤ r.p + 5 := by
 have := randomValue_p r; unfold anyValue
 cases (pick (Rdr.b (randomValue r).2) (Rdr.p (randomValue r).2) 14 == 0) with
 | true => simp only [cond_true]; omega
 | false =>
  cases (pick (Rdr.b (randomValue r).2) (Rdr.p (randomValue r).2) 14 == 1) with
  | true => simp only [cond_true, cond_false]; omega
  | false => simp only [cond_false]; omega

def anyRow (r : Rdr) (width : Int) : (List Val) × Rdr := (bif ((pick (Rdr.b ((randomRow r width).2)) (Rdr.p ((randomRow r width).2)) 18) == 0) then (([] : List Val), (Rdr.mk (Rdr.b ((randomRow r width).2)) ((Rdr.p ((randomRow r width).2)) + 1))) else (bif ((pick (Rdr.b ((randomRow r width).2)) (Rdr.p ((randomRow r width).2)) 18) == 1) then (((randomRow (Rdr.mk (Rdr.b ((randomRow r width).2)) ((Rdr.p ((randomRow r width).2)) + 1)) 7).1), ((randomRow (Rdr.mk (Rdr.b ((randomRow r width).2)) ((Rdr.p ((randomRow r width).2)) + 1)) 7).2)) else (bif ((pick (Rdr.b ((randomRow r width).2)) (Rdr.p ((randomRow r width).2)) 18) == 2) then ((set ((randomRow r width).1) (Int.toNat (pick (Rdr.b ((randomRow r width).2)) ((Rdr.p ((randomRow r width).2)) + 1) (length ((randomRow r width).1) : Int))) ((anyValue (Rdr.mk (Rdr.b ((randomRow r width).2)) (((Rdr.p ((randomRow r width).2)) + 1) + 1))).1)), ((anyValue (Rdr.mk (Rdr.b ((randomRow r width).2)) (((Rdr.p ((randomRow r width).2)) + 1) + 1))).2)) else (((randomRow r width).1), (Rdr.mk (Rdr.b ((randomRow r width).2)) ((Rdr.p ((randomRow r width).2)) + 1))))))

def anyRow_sp : FnSpec := mkSpecB [.box 3, .val (.int .i64)] [.val (.slice (.named 1))] (fun (r : Rdr) (width : Int) => (0 ≤ r.p ∧ r.p ≤ 1000000090000) ∧ 1 ≤ width ∧ width ≤ 6) (fun (r : Rdr) (width : Int) => [⟨(.slice (.named 1)), ((anyRow r width).1)⟩]) (fun (r : Rdr) (width : Int) => [⟨(.named 3), ((anyRow r width).2)⟩])

theorem anyRow_ok : FnOK Try.prog 58 anyRow_sp := by
 have hC : CtxOK Try.prog (mkCtx tyL [(56, pickS), (57, randomRow_sp), (93, anyValue_sp)]) := CtxOK.cons pickS_ok (CtxOK.cons randomRow_ok (CtxOK.cons anyValue_ok (CtxOK.nil tyOK))); refine FnOK.of_body Try.func58 (by kernel_rfl) rfl (C := (mkCtx tyL [(56, pickS), (57, randomRow_sp), (93, anyValue_sp)])) hC.ty (by kernel_rfl) ?_; intro (r : Rdr) (width : Int) hwf hpre E; have hpre : (0 ≤ r.p ∧ r.p ≤ 1000000090000) ∧ 1 ≤ width ∧ width ≤ 6 := hpre; have hq := randomRow_p r (width := width) (by omega); have hl := randomRow_len r width; have e0 : anyRow r width = anyRow r width := rfl; refine seq (r1U hC [0, 1] [0] [] [] ?_); refine seq (r0U hC [0, 5] [0, 32] [(5, .arr 32 1)] [(0, .box 0 [.data (.slice (.int .u8)) ((Rdr.b ((randomRow r width).2)) : List Int), .int .i64 (Rdr.p ((randomRow r width).2))]), (32, .arr 1 (.named 1) (((randomRow r width).1) : List Val))] [((0 ≤ r.p ∧ r.p ≤ 1000000100000) ∧ width ≤ 100)] ?_ ?_)
 ·
  exact ⟨(by omega), trivial⟩
 refine seq (seq (r0U hC [0, 5, 10] [0, 32] [(10, .int .i64 (pick (Rdr.b ((randomRow r width).2)) (Rdr.p ((randomRow r width).2)) 18))] [(0, .box 0 [.data (.slice (.int .u8)) ((Rdr.b ((randomRow r width).2)) : List Int), .int .i64 ((Rdr.p ((randomRow r width).2)) + 1)])] [(0 ≤ ((randomRow r width).2).p ∧ ((randomRow r width).2).p ≤ 1099511627776)] ?_ ?_))
 ·
  exact ⟨(by omega), trivial⟩
 refine block (seq (r1U hC [0, 5, 10, 11] [0, 32] [(11, .bool ((pick (Rdr.b ((randomRow r width).2)) (Rdr.p ((randomRow r width).2)) 18) == 0))] [] ?_)); refine cdE e0 ?_ ?_
 · intro h1q e2; refine seq (r1U hC [4] [0, 52] [(4, .arr 52 1)] [(52, .arr 1 (.named 1) (([] : List Val) : List Val))] ?_); exact ret (AW.retE (β := (List Val) × Rdr) (fun v => [⟨(.slice (.named 1)), v.1⟩]) (fun v => [⟨(.named 3), v.2⟩]) (v := (([] : List Val), (Rdr.mk (Rdr.b ((randomRow r width).2)) ((Rdr.p ((randomRow r width).2)) + 1)))) e2 (by kernel_rfl) rfl rfl)
 ·
  intro h3q e4; refine seq (r1U hC [0, 5, 10, 14] [0, 32] [(14, .bool ((pick (Rdr.b ((randomRow r width).2)) (Rdr.p ((randomRow r width).2)) 18) == 1))] [] ?_); refine cdE e4 ?_ ?_
  ·
   intro h5q e6; refine seq (r0 hC [4] [0, 68] ⟨[(4, .arr 68 1)], [(0, .box 0 [.data (.slice (.int .u8)) ((Rdr.b ((randomRow (Rdr.mk (Rdr.b ((randomRow r width).2)) ((Rdr.p ((randomRow r width).2)) + 1)) 7).2)) : List Int), .int .i64 (Rdr.p ((randomRow (Rdr.mk (Rdr.b ((randomRow r width).2)) ((Rdr.p ((randomRow r width).2)) + 1)) 7).2))]), (68, .arr 1 (.named 1) (((randomRow (Rdr.mk (Rdr.b ((randomRow r width).2)) ((Rdr.p ((randomRow r width).2)) + 1)) 7).1) : List Val))]⟩ [((0 ≤ (Rdr.mk (Rdr.b ((randomRow r width).2)) ((Rdr.p ((randomRow r width).2)) + 1)).p ∧ (Rdr.mk (Rdr.b ((randomRow r width).2)) ((Rdr.p ((randomRow r width).2)) + 1)).p ≤ 1000000100000) ∧ (7 : Int) ≤ 100)] ?_ ?_)
   ·
    exact ⟨(by (dsimp only; omega)), trivial⟩
   exact ret (AW.retE (β := (List Val) × Rdr) (fun v => [⟨(.slice (.named 1)), v.1⟩]) (fun v => [⟨(.named 3), v.2⟩]) (v := (((randomRow (Rdr.mk (Rdr.b ((randomRow r width).2)) ((Rdr.p ((randomRow r width).2)) + 1)) 7).1), ((randomRow (Rdr.mk (Rdr.b ((randomRow r width).2)) ((Rdr.p ((randomRow r width).2)) + 1)) 7).2))) e6 (by kernel_rfl) rfl rfl)
  ·
   intro h7q e8; refine seq (r1U hC [0, 5, 18] [0, 32] [(18, .bool ((pick (Rdr.b ((randomRow r width).2)) (Rdr.p ((randomRow r width).2)) 18) == 2))] [] ?_); refine cdE e8 ?_ ?_
   ·
    intro h9q e10; refine r0U hC [5] [0, 32] [] [(0, .box 0 [.data (.slice (.int .u8)) ((Rdr.b ((anyValue (Rdr.mk (Rdr.b ((randomRow r width).2)) (((Rdr.p ((randomRow r width).2)) + 1) + 1))).2)) : List Int), .int .i64 (Rdr.p ((anyValue (Rdr.mk (Rdr.b ((randomRow r width).2)) (((Rdr.p ((randomRow r width).2)) + 1) + 1))).2))]), (32, .arr 1 (.named 1) ((set ((randomRow r width).1) (Int.toNat (pick (Rdr.b ((randomRow r width).2)) ((Rdr.p ((randomRow r width).2)) + 1) (length ((randomRow r width).1) : Int))) ((anyValue (Rdr.mk (Rdr.b ((randomRow r width).2)) (((Rdr.p ((randomRow r width).2)) + 1) + 1))).1)) : List Val))] [(0 ≤ (Rdr.mk (Rdr.b ((randomRow r width).2)) ((Rdr.p ((randomRow r width).2)) + 1)).p ∧ (Rdr.mk (Rdr.b ((randomRow r width).2)) ((Rdr.p ((randomRow r width).2)) + 1)).p ≤ 1099511627776), (0 ≤ (Rdr.mk (Rdr.b ((randomRow r width).2)) (((Rdr.p ((randomRow r width).2)) + 1) + 1)).p ∧ (Rdr.mk (Rdr.b ((randomRow r width).2)) (((Rdr.p ((randomRow r width).2)) + 1) + 1)).p ≤ 1000000100000), (0 ≤ (pick (Rdr.b ((randomRow r width).2)) ((Rdr.p ((randomRow r width).2)) + 1) (length ((randomRow r width).1) : Int)) ∧ (pick (Rdr.b ((randomRow r width).2)) ((Rdr.p ((randomRow r width).2)) + 1) (length ((randomRow r width).1) : Int)) < (length ((randomRow r width).1) : Int))] ?_ ?_
    ·
     exact ⟨(by (dsimp only; omega)), (by (dsimp only; omega)), (pick_ok _ _ (by omega)), trivial⟩
    refine seq (r1U hC [4] [0, 32] [(4, .arr 32 1)] [] ?_); exact ret (AW.retE (β := (List Val) × Rdr) (fun v => [⟨(.slice (.named 1)), v.1⟩]) (fun v => [⟨(.named 3), v.2⟩]) (v := ((set ((randomRow r width).1) (Int.toNat (pick (Rdr.b ((randomRow r width).2)) ((Rdr.p ((randomRow r width).2)) + 1) (length ((randomRow r width).1) : Int))) ((anyValue (Rdr.mk (Rdr.b ((randomRow r width).2)) (((Rdr.p ((randomRow r width).2)) + 1) + 1))).1)), ((anyValue (Rdr.mk (Rdr.b ((randomRow r width).2)) (((Rdr.p ((randomRow r width).2)) + 1) + 1))).2))) e10 (by kernel_rfl) rfl rfl)
   · intro h11q e12; refine kpU [5] [0, 32] [] [] ?_; refine AW.skip (seq (r1U hC [4] [0, 32] [(4, .arr 32 1)] [] ?_)); exact ret (AW.retE (β := (List Val) × Rdr) (fun v => [⟨(.slice (.named 1)), v.1⟩]) (fun v => [⟨(.named 3), v.2⟩]) (v := (((randomRow r width).1), (Rdr.mk (Rdr.b ((randomRow r width).2)) ((Rdr.p ((randomRow r width).2)) + 1)))) e12 (by kernel_rfl) rfl rfl)

theorem anyRow_p (r : Rdr) {width : Int} (hw : width ≤ 6) : r.p ≤ (anyRow r width).2.p ∧ (anyRow r width).2.p ≤ r.p + 500 := by
 have h := randomRow_p r (width := width) (by omega); have h2 := randomRow_p (Rdr.mk (Rdr.b ((randomRow r width).2)) ((Rdr.p ((randomRow r width).2)) + 1)) (width := 7) (by omega); have h3 := anyValue_p (Rdr.mk (Rdr.b ((randomRow r width).2)) (((Rdr.p ((randomRow r width).2)) + 1) + 1)); simp only at h2 h3; unfold anyRow
 cases (pick (Rdr.b ((randomRow r width).2)) (Rdr.p ((randomRow r width).2)) 18) == 0 with
 | true => simp only [cond_true]; omega
 | false =>
  cases (pick (Rdr.b ((randomRow r width).2)) (Rdr.p ((randomRow r width).2)) 18) == 1 with
  | true => simp only [cond_true, cond_false]; omega
  | false =>
   cases (pick (Rdr.b ((randomRow r width).2)) (Rdr.p ((randomRow r width).2)) 18) == 2 with
   | true => simp only [cond_true, cond_false]; omega
   | false => simp only [cond_false]; omega

theorem anyRow_len (r : Rdr) {width : Int} (hw : width ≤ 6) : (anyRow r width).1.length ≤ 100 := by
 have h := randomRow_p r (width := width) (by omega); have h2 := randomRow_p (Rdr.mk (Rdr.b ((randomRow r width).2)) ((Rdr.p ((randomRow r width).2)) + 1)) (width := 7) (by omega); unfold anyRow
 cases (pick (Rdr.b ((randomRow r width).2)) (Rdr.p ((randomRow r width).2)) 18) == 0 with
 | true => simp
 | false =>
  cases (pick (Rdr.b ((randomRow r width).2)) (Rdr.p ((randomRow r width).2)) 18) == 1 with
  | true => simp only [cond_true, cond_false]; omega
  | false =>
   cases (pick (Rdr.b ((randomRow r width).2)) (Rdr.p ((randomRow r width).2)) 18) == 2 with
   | true => simp only [cond_true, cond_false, List.length_set]; omega
   | false => simp only [cond_false]; omega

def anyTable_l0 (width : Int) : Nat → Int → (List Int) → Int → (List (List Val)) → (List Int) × Int × (List (List Val))
 | 0, n, r0, r1, rows => (r0, r1, rows)
 | k + 1, n, r0, r1, rows => (bif (decide (0 < n)) then (anyTable_l0 width k (n - 1) (Rdr.b ((randomRow (Rdr.mk r0 r1) width).2)) (Rdr.p ((randomRow (Rdr.mk r0 r1) width).2)) (rows ++ ([((randomRow (Rdr.mk r0 r1) width).1)] : List (List Val)))) else (r0, r1, rows))

def anyTable_l1 (rows : List (List Val)) : Nat → Nat → (List (List Val)) → (List (List Val))
 | 0, i, ar8103 => ar8103
 | k + 1, i, ar8103 => (bif (decide ((i : Int) < (length rows : Int))) then (anyTable_l1 rows k (i + 1) (insertRow ar8103 (getD rows i []))) else ar8103)

def anyTable (r : Rdr) (width : Int) (most : Int) : Tab × Rdr := (andThen (anyTable_l0 width (Int.toNat (pick (Rdr.b r) (Rdr.p r) (most + 1)) + 1) (pick (Rdr.b r) (Rdr.p r) (most + 1)) (Rdr.b r) ((Rdr.p r) + 1) ([] : List (List Val))) (fun z => (fun (r0 : List Int) (r1 : Int) (rows : List (List Val)) => (andThen (anyTable_l1 rows ((length rows) - 0 + 1) 0 ([] : List (List Val))) (fun z => (fun (ar8103 : List (List Val)) => (bif ((pick r0 r1 20) == 0) then ((Tab.mk (one r0 (r1 + 1) ([0, 7, 2] : List Int)) ar8103), (Rdr.mk r0 ((r1 + 1) + 1))) else (bif ((pick r0 r1 20) == 1) then (bif (decide (0 < (length ar8103 : Int))) then ((Tab.mk width (ar8103 ++ ([(copyRow (getD ar8103 0 []))] : List (List Val)))), (Rdr.mk r0 (r1 + 1))) else ((Tab.mk width ar8103), (Rdr.mk r0 (r1 + 1)))) else (bif ((pick r0 r1 20) == 2) then (bif (decide (0 < (length ar8103 : Int))) then ((Tab.mk width (set ar8103 0 ((anyRow (Rdr.mk r0 (r1 + 1)) width).1))), ((anyRow (Rdr.mk r0 (r1 + 1)) width).2)) else ((Tab.mk width ar8103), (Rdr.mk r0 (r1 + 1)))) else ((Tab.mk width ar8103), (Rdr.mk r0 (r1 + 1))))))) z))) z.1 z.2.1 z.2.2))

def anyTable_sp : FnSpec := mkSpecB [.box 3, .val (.int .i64), .val (.int .i64)] [.val (.named 2)] (fun (r : Rdr) (width : Int) (most : Int) => (0 ≤ r.p ∧ r.p ≤ 1000000000000) ∧ (1 ≤ width ∧ width ≤ 6) ∧ (0 ≤ most ∧ most ≤ 99)) (fun (r : Rdr) (width : Int) (most : Int) => [⟨(.named 2), ((anyTable r width most).1)⟩]) (fun (r : Rdr) (width : Int) (most : Int) => [⟨(.named 3), ((anyTable r width most).2)⟩])

theorem anyTable_ok : FnOK Try.prog 74 anyTable_sp := by
 have hC : CtxOK Try.prog (mkCtx tyL [(56, pickS), (57, randomRow_sp), (58, anyRow_sp), (59, oneS), (75, copyRow_sp), (99, insertRow_sp)]) := CtxOK.cons pickS_ok (CtxOK.cons randomRow_ok (CtxOK.cons anyRow_ok (CtxOK.cons oneS_ok (CtxOK.cons copyRow_ok (CtxOK.cons insertRow_ok (CtxOK.nil tyOK)))))); have hM : Try.prog.follows .mixedOrders = true := Try.checked.mixed; have hC1 := hC.rebase 1000; have hC2 := hC.rebase 2000; refine FnOK.of_body Try.func74 (by kernel_rfl) rfl (C := (mkCtx tyL [(56, pickS), (57, randomRow_sp), (58, anyRow_sp), (59, oneS), (75, copyRow_sp), (99, insertRow_sp)])) hC.ty (by kernel_rfl) ?_; intro (r : Rdr) (width : Int) (most : Int) hwf hpre E; have hpre : (0 ≤ r.p ∧ r.p ≤ 1000000000000) ∧ (1 ≤ width ∧ width ≤ 6) ∧ (0 ≤ most ∧ most ≤ 99) := hpre; have e0 : anyTable r width most = anyTable r width most := rfl; refine seq (r1U hC [0, 1, 2, 6] [0, 24] [(6, .ref 24 1 0)] [(24, .box 1 [.int .i64 0, .nilsl])] ?_); refine seq (AW.regionO [0, 1, 2, 3, 4, 5] (by rfl) ?_)
 refine AWO.runU hC false [] [0, 1, 2] [3, 4, 5] [0, 1, 6, 8, 9, 10] [0, 24]
  [(8, .ref 0 0 0), (9, .int .i64 width), (10, .int .i64 most)] []
  [] (by rfl) (by kernel_rfl) ?_ ?_
 · exact trivial
 refine AWO.call hC.ty (vs := [.ref 0 0 0, .int .i64 width, .int .i64 most]) (caps := []) (by rfl) rfl (.inl rfl) (by decide) (by kernel_rfl) (by kernel_rfl) Try.func105 (by kernel_rfl) rfl (by kernel_rfl) ?_; intro o1 ho1; refine kpU [0, 1, 2, 1000, 1001, 1006] [0, 24] [] [] ?_; refine seq (r1U hC1 [0, 1, 2, 6, 1000, 1001, 1006] [0, 24, 4024] [(6, .ref 4024 1 0)] [(4024, .box 1 [.int .i64 0, .nilsl])] ?_); refine seq (r1U hC1 [0, 1, 2, 6, 7, 1000, 1001, 1006] [0, 24, 4024, 4036] [(7, .arr 4036 1)] [(4036, .arr 1 (.slice (.named 1)) (([] : List (List Val)) : List (List Val)))] ?_); refine seq (seq (r0U hC1 [0, 1, 6, 7, 8, 1000, 1001, 1006] [0, 24, 4024, 4036] [(8, .int .i64 (pick (Rdr.b r) (Rdr.p r) (most + 1)))] [(0, .box 0 [.data (.slice (.int .u8)) ((Rdr.b r) : List Int), .int .i64 ((Rdr.p r) + 1)])] [(-9223372036854775808 ≤ (most + 1) ∧ (most + 1) ≤ 9223372036854775807), (0 ≤ r.p ∧ r.p ≤ 1099511627776)] ?_ ?_))
 ·
  exact ⟨(by omega), (by omega), trivial⟩
 refine lpB (ζ := (List Int) × Int × (List (List Val))) (fun x => ⟨[(1, .int .i64 width), (6, .ref 4024 1 0), (7, .arr 4036 1), (1000, .ref 0 0 0), (1001, .int .i64 width), (1006, .ref 24 1 0)], [(0, .box 0 [.data (.slice (.int .u8)) (x.1 : List Int), .int .i64 x.2.1]), (24, .box 1 [.int .i64 0, .nilsl]), (4024, .box 1 [.int .i64 0, .nilsl]), (4036, .arr 1 (.slice (.named 1)) (x.2.2 : List (List Val)))]⟩) (fun x => (RB x.2.2 ∧ length x.2.2 ≤ 100) ∧ (0 ≤ x.2.1 ∧ x.2.1 ≤ r.p + 40000)) (fun x => x) (α := Int × (List Int) × Int × (List (List Val))) (fun x => ⟨[(0, .ref 0 0 0), (1, .int .i64 width), (6, .ref 4024 1 0), (7, .arr 4036 1), (8, .int .i64 x.1), (1000, .ref 0 0 0), (1001, .int .i64 width), (1006, .ref 24 1 0)], [(0, .box 0 [.data (.slice (.int .u8)) (x.2.1 : List Int), .int .i64 x.2.2.1]), (24, .box 1 [.int .i64 0, .nilsl]), (4024, .box 1 [.int .i64 0, .nilsl]), (4036, .arr 1 (.slice (.named 1)) (x.2.2.2 : List (List Val)))]⟩) (fun x => (RB x.2.2.2 ∧ (length x.2.2.2 : Int) + x.1 ≤ 100 ∧ 0 ≤ x.1) ∧ (0 ≤ x.2.2.1 ∧ x.2.2.1 + 300 * x.1 ≤ r.p + 40000)) (fun x => Int.toNat x.1) (fun k x => anyTable_l0 width k x.1 x.2.1 x.2.2.1 x.2.2.2) ((pick (Rdr.b r) (Rdr.p r) (most + 1)), (Rdr.b r), ((Rdr.p r) + 1), ([] : List (List Val))) (by kernel_rfl) ?_ ?_ ?_
 · have := pick_ok (n := most + 1) r.b r.p (by omega); simp only [List.length_nil]; exact ⟨⟨RB.nil, by omega, by omega⟩, by omega⟩
 ·
  intro x k50q hI0 hk48 e49; obtain ⟨n, r0, r1, rows⟩ := x; replace hI0 : (RB rows ∧ (length rows : Int) + n ≤ 100 ∧ 0 ≤ n) ∧ (0 ≤ r1 ∧ r1 + 300 * n ≤ r.p + 40000) := hI0; have hrr := randomRow_p (Rdr.mk r0 r1) (width := width) (by omega); simp only at hrr; refine seq (seq (r1U hC1 [0, 1, 6, 7, 8, 15, 1000, 1001, 1006] [0, 24, 4024, 4036] [(15, .bool (decide (0 < n)))] [] ?_)); refine cdE e49 ?_ ?_
  ·
   intro h51q e52; refine kpU [0, 1, 6, 7, 8, 1000, 1001, 1006] [0, 24, 4024, 4036] [] [] ?_; refine AW.skip (seq (block (r0U hC1 [0, 1, 6, 7, 8, 1000, 1001, 1006] [0, 24, 4024, 4036] [] [(0, .box 0 [.data (.slice (.int .u8)) ((Rdr.b ((randomRow (Rdr.mk r0 r1) width).2)) : List Int), .int .i64 (Rdr.p ((randomRow (Rdr.mk r0 r1) width).2))]), (4036, .arr 1 (.slice (.named 1)) ((rows ++ ([((randomRow (Rdr.mk r0 r1) width).1)] : List (List Val))) : List (List Val)))] [((0 ≤ (Rdr.mk r0 r1).p ∧ (Rdr.mk r0 r1).p ≤ 1000000100000) ∧ width ≤ 100), ((length rows : Int) + (length ([((randomRow (Rdr.mk r0 r1) width).1)] : List (List Val)) : Int) ≤ 4294967296)] ?_ ?_)))
   ·
    exact ⟨(by (dsimp only; omega)), (by (simp only [lens] at *; omega)), trivial⟩
   refine r0U hC1 [0, 1, 6, 7, 8, 1000, 1001, 1006] [0, 24, 4024, 4036] [(8, .int .i64 (n - 1))] [] [(-9223372036854775808 ≤ (n - 1) ∧ (n - 1) ≤ 9223372036854775807)] ?_ ?_
   ·
    exact ⟨(by omega), trivial⟩
   refine bk ((n - 1), (Rdr.b ((randomRow (Rdr.mk r0 r1) width).2)), (Rdr.p ((randomRow (Rdr.mk r0 r1) width).2)), (rows ++ ([((randomRow (Rdr.mk r0 r1) width).1)] : List (List Val)))) e52 hk48 ?_ ?_
   · simp only [List.length_append, List.length_cons, List.length_nil]; exact ⟨⟨hI0.1.1.add (by omega), by omega, by omega⟩, by omega⟩
   · omega
  · intro h53q e54; refine kpU [1, 6, 7, 1000, 1001, 1006] [0, 24, 4024, 4036] [] [] ?_; refine exit ?_; refine meet (r0, r1, rows) (by kernel_rfl) ⟨?_, e54⟩; dsimp only; exact ⟨⟨hI0.1.1, by omega⟩, by omega⟩
 ·
  intro x hJ0 e55; obtain ⟨r0, r1, rows⟩ := x; replace hJ0 : (RB rows ∧ length rows ≤ 100) ∧ (0 ≤ r1 ∧ r1 ≤ r.p + 40000) := hJ0; have e56 := e0.trans (then_eq e55); refine seq (AW.regionO [0, 1, 2, 3] (by rfl) ?_)
  refine AWO.runU hC1 false [] [0, 1] [2, 3] [6, 24, 25, 1000, 1001, 1006] [0, 24, 4024, 4036]
   [(24, .int .i64 width), (25, .arr 4036 1)] []
   [] (by rfl) (by kernel_rfl) ?_ ?_
  · exact trivial
  refine AWO.call hC1.ty (vs := [.int .i64 width, .arr 4036 1]) (caps := []) (by rfl) rfl (.inl rfl) (by decide) (by kernel_rfl) (by kernel_rfl) Try.func66 (by kernel_rfl) rfl (by kernel_rfl) ?_; intro o2 ho2; refine kpU [0, 1, 1006, 2000, 2001, 2006] [0, 24, 4024, 4036] [] [] ?_; refine seq (r1U hC2 [0, 1, 4, 1006, 2000, 2001, 2006] [0, 24, 4024, 4036, 8016] [(4, .ref 8016 1 0)] [(8016, .box 1 [.int .i64 0, .nilsl])] ?_); refine seq (r1U hC2 [1, 4, 5, 1006, 2000, 2001, 2006] [0, 24, 4024, 4036, 8016, 8020] [(5, .ref 8020 1 0)] [(8020, .box 1 [.int .i64 width, .nilsl])] ?_); refine seq (seq (r1U hC2 [1, 4, 5, 11, 1006, 2000, 2001, 2006] [0, 24, 4024, 4036, 8016, 8020] [(11, .bool (decide (400 < (length rows : Int))))] [] ?_)); refine cd (decide (400 < (length rows : Int))) ?_ ?_
  · intro h64; have h64q : 400 < (length rows : Int) := (of_decide_eq_true h64); exfalso; omega
  ·
   intro h65; have h65q : ¬ (400 < (length rows : Int)) := (of_decide_eq_false h65); refine kpU [1, 4, 5, 1006, 2000, 2001, 2006] [0, 24, 4024, 4036, 8016, 8020] [] [] ?_; refine AW.skip (seq (seq (r1U hC2 [1, 4, 5, 6, 1006, 2000, 2001, 2006] [0, 24, 4024, 4036, 8016, 8020] [(6, .int .i64 0)] [] ?_))); refine AW.adoptB 8020 1 1 8103 [.int .i64 width, .nilsl] (.slice (.named 1)) (by kernel_rfl) (by kernel_rfl) (by kernel_rfl) ?_; refine kp [1, 4, 5, 6, 1006, 2000, 2001, 2006] [0, 24, 4024, 4036, 8016, 8020, 8103] ⟨[(1, .arr 4036 1), (4, .ref 8016 1 0), (5, .ref 8020 1 0), (6, .int .i64 0), (1006, .ref 4024 1 0), (2000, .ref 0 0 0), (2001, .int .i64 width), (2006, .ref 24 1 0)], [(0, .box 0 [.data (.slice (.int .u8)) (r0 : List Int), .int .i64 r1]), (24, .box 1 [.int .i64 0, .nilsl]), (4024, .box 1 [.int .i64 0, .nilsl]), (4036, .arr 1 (.slice (.named 1)) (rows : List (List Val))), (8016, .box 1 [.int .i64 0, .nilsl]), (8020, .box 1 [.int .i64 width, .arr 8103 1]), (8103, .arr 1 (.slice (.named 1)) (([] : List (List Val)) : List (List Val)))]⟩ ?_; refine cutQ (α := (List (List Val))) (fun x => ⟨[(4, .ref 8016 1 0), (5, .ref 8020 1 0), (1006, .ref 4024 1 0), (2000, .ref 0 0 0), (2001, .int .i64 width), (2006, .ref 24 1 0)], [(0, .box 0 [.data (.slice (.int .u8)) (r0 : List Int), .int .i64 r1]), (24, .box 1 [.int .i64 0, .nilsl]), (4024, .box 1 [.int .i64 0, .nilsl]), (8016, .box 1 [.int .i64 0, .nilsl]), (8020, .box 1 [.int .i64 width, .arr 8103 1]), (8103, .arr 1 (.slice (.named 1)) (x : List (List Val)))]⟩) (fun x => (length x ≤ 400 ∧ RB x) ∧ (anyTable_l1 rows ((length rows) - 0 + 1) 0 ([] : List (List Val))) = x) ?_ ?_
   ·
    skip; refine block (AW.loopR (α := Nat × (List (List Val))) (fun x => ⟨[(1, .arr 4036 1), (4, .ref 8016 1 0), (5, .ref 8020 1 0), (6, .int .i64 ((x.1 : Nat) : Int)), (1006, .ref 4024 1 0), (2000, .ref 0 0 0), (2001, .int .i64 width), (2006, .ref 24 1 0)], [(0, .box 0 [.data (.slice (.int .u8)) (r0 : List Int), .int .i64 r1]), (24, .box 1 [.int .i64 0, .nilsl]), (4024, .box 1 [.int .i64 0, .nilsl]), (4036, .arr 1 (.slice (.named 1)) (rows : List (List Val))), (8016, .box 1 [.int .i64 0, .nilsl]), (8020, .box 1 [.int .i64 width, .arr 8103 1]), (8103, .arr 1 (.slice (.named 1)) (x.2 : List (List Val)))]⟩) (fun x => ((length x.2 = x.1 ∧ x.1 ≤ 400) ∧ RB x.2) ∧ ∃ k, (length rows) - x.1 < k ∧ (anyTable_l1 rows ((length rows) - 0 + 1) 0 ([] : List (List Val))) = anyTable_l1 rows k x.1 x.2) (fun x => (length rows) - x.1) (0, ([] : List (List Val))) (by kernel_rfl) ⟨?_, _, Nat.lt_succ_self _, rfl⟩ ?_)
    · exact ⟨⟨rfl, by omega⟩, RB.nil⟩
    ·
     intro x hR; obtain ⟨i, ar8103⟩ := x; obtain ⟨hI1, k68, hk66, e67⟩ := hR; replace hI1 : (length ar8103 = i ∧ i ≤ 400) ∧ RB ar8103 := hI1; replace hk66 : (length rows) - i < k68 := hk66; obtain ⟨k68q, rfl⟩ : ∃ k, k68 = k + 1 := ⟨k68 - 1, by omega⟩; refine seq (seq (r1U hC2 [1, 4, 5, 6, 16, 1006, 2000, 2001, 2006] [0, 24, 4024, 4036, 8016, 8020, 8103] [(16, .bool (decide ((i : Int) < (length rows : Int))))] [] ?_)); refine cdE e67 ?_ ?_
     ·
      intro h69q e70; refine kpU [1, 4, 5, 6, 1006, 2000, 2001, 2006] [0, 24, 4024, 4036, 8016, 8020, 8103] [] [] ?_; refine AW.skip (seq (block (d0U hC2 hM [1, 4, 5, 6, 1006, 2000, 2001, 2006] [0, 24, 4024, 4036, 8016, 8020, 8100] [] [(8020, .box 1 [.int .i64 width, .arr 8100 1]), (8100, .arr 1 (.slice (.named 1)) ((insertRow ar8103 (getD rows i [])) : List (List Val)))] [(0 ≤ (i : Int) ∧ (i : Int) < (length rows : Int)), ((length ar8103 : Int) ≤ 1048576 ∧ (length (getD rows i []) : Int) ≤ 1048576)] ?_ ?_)))
      ·
       exact ⟨(by omega), (⟨by omega, hJ0.1.1 i (by omega)⟩), trivial⟩
      refine r0U hC2 [1, 4, 5, 6, 1006, 2000, 2001, 2006] [0, 24, 4024, 4036, 8016, 8020, 8100] [(6, .int .i64 ((i + 1 : Nat) : Int))] [] [(-9223372036854775808 ≤ ((i + 1 : Nat) : Int) ∧ ((i + 1 : Nat) : Int) ≤ 9223372036854775807)] ?_ ?_
      ·
       exact ⟨(by omega), trivial⟩
      refine AW.backR (x := (i, ar8103)) (i + 1, (insertRow ar8103 (getD rows i []))) (Turn.of [1, 4, 5, 6, 1006, 2000, 2001, 2006] [0, 24, 4024, 4036, 8016, 8020, 8100] [(8100, 8103)] [1, 4, 5, 6, 1006, 2000, 2001, 2006] [0, 24, 4024, 4036, 8016, 8020, 8103] (by kernel_rfl)) ⟨?_, k68q, ?_, e70⟩ ?_
      · rw [insertRow_len]; exact ⟨by omega, hI1.2.insert (hJ0.1.1 i (by omega))⟩
      · omega
      · omega
     · intro h71q e72; refine kpU [4, 5, 1006, 2000, 2001, 2006] [0, 24, 4024, 8016, 8020, 8103] [] [] ?_; refine exit ?_; refine meet ar8103 (by kernel_rfl) ⟨?_, e72⟩; exact ⟨by omega, hI1.2⟩
   ·
    intro ar8103 hR; obtain ⟨hJ1, e73⟩ := hR; replace hJ1 : length ar8103 ≤ 400 ∧ RB ar8103 := hJ1; have e74 := e56.trans (then_eq e73); refine seq (r1U hC2 [4, 1006, 2000, 2001, 2006] [0, 24, 4024, 8016, 8103] [] [(8016, .box 1 [.int .i64 width, .arr 8103 1])] ?_); refine ret ?_; refine ⟨[.agg [.int .i64 width, .arr 8103 1]], by kernel_rfl, ?_⟩; refine AWO.keep [6, 26, 1000, 1001, 1006] [0, 24, 4024, 8103] ⟨[(6, .ref 4024 1 0), (26, .agg [.int .i64 width, .arr 8103 1]), (1000, .ref 0 0 0), (1001, .int .i64 width), (1006, .ref 24 1 0)], [(0, .box 0 [.data (.slice (.int .u8)) (r0 : List Int), .int .i64 r1]), (24, .box 1 [.int .i64 0, .nilsl]), (4024, .box 1 [.int .i64 0, .nilsl]), (8103, .arr 1 (.slice (.named 1)) (ar8103 : List (List Val)))]⟩ (by kernel_rfl) ?_
    refine AWO.runU hC1 false [] [3] [] [6, 1000, 1001, 1006] [0, 24, 4024, 8103]
     [] [(4024, .box 1 [.int .i64 width, .arr 8103 1])]
     [] (by rfl) (by kernel_rfl) ?_ ?_
    · exact trivial
    refine AWO.nil ?_; refine ret ?_; refine ⟨[.agg [.int .i64 width, .arr 8103 1]], by kernel_rfl, ?_⟩; refine AWO.keep [0, 1, 6, 11] [0, 24, 8103] ⟨[(0, .ref 0 0 0), (1, .int .i64 width), (6, .ref 24 1 0), (11, .agg [.int .i64 width, .arr 8103 1])], [(0, .box 0 [.data (.slice (.int .u8)) (r0 : List Int), .int .i64 r1]), (24, .box 1 [.int .i64 0, .nilsl]), (8103, .arr 1 (.slice (.named 1)) (ar8103 : List (List Val)))]⟩ (by kernel_rfl) ?_
    refine AWO.runU hC false [] [4, 5] [] [0, 1, 6, 7] [0, 24, 28, 8103]
     [(7, .ref 28 1 0)] [(28, .box 1 [.int .i64 width, .arr 8103 1])]
     [] (by rfl) (by kernel_rfl) ?_ ?_
    · exact trivial
    refine AWO.nil ?_; refine seq (seq (r0U hC [0, 1, 6, 7, 13] [0, 24, 28, 8103] [(13, .int .i64 (pick r0 r1 20))] [(0, .box 0 [.data (.slice (.int .u8)) (r0 : List Int), .int .i64 (r1 + 1)])] [(0 ≤ (Rdr.mk r0 r1).p ∧ (Rdr.mk r0 r1).p ≤ 1099511627776)] ?_ ?_))
    ·
     exact ⟨(by (dsimp only; omega)), trivial⟩
    refine block (seq (r1U hC [0, 1, 6, 7, 13, 14] [0, 24, 28, 8103] [(14, .bool ((pick r0 r1 20) == 0))] [] ?_)); refine cdE e74 ?_ ?_
    ·
     intro h75q e76; refine r0U hC [6, 7] [0, 24, 28, 8103] [] [(0, .box 0 [.data (.slice (.int .u8)) (r0 : List Int), .int .i64 ((r1 + 1) + 1)]), (28, .box 1 [.int .i64 (one r0 (r1 + 1) ([0, 7, 2] : List Int)), .arr 8103 1])] [((0 ≤ (Rdr.mk r0 (r1 + 1)).p ∧ (Rdr.mk r0 (r1 + 1)).p ≤ 1099511627775) ∧ 1 ≤ (length ([0, 7, 2] : List Int) : Int))] ?_ ?_
     ·
      exact ⟨(by (simp only [lens] at *; omega)), trivial⟩
     refine seq (r1U hC [6] [0, 24, 8103] [] [(24, .box 1 [.int .i64 (one r0 (r1 + 1) ([0, 7, 2] : List Int)), .arr 8103 1])] ?_); exact ret (AW.retE (β := Tab × Rdr) (fun v => [⟨(.named 2), v.1⟩]) (fun v => [⟨(.named 3), v.2⟩]) (v := ((Tab.mk (one r0 (r1 + 1) ([0, 7, 2] : List Int)) ar8103), (Rdr.mk r0 ((r1 + 1) + 1)))) e76 (by kernel_rfl) rfl rfl)
    ·
     intro h77q e78; refine seq (r1U hC [0, 1, 6, 7, 13, 20] [0, 24, 28, 8103] [(20, .bool ((pick r0 r1 20) == 1))] [] ?_); refine cdE e78 ?_ ?_
     ·
      intro h79q e80; refine seq (r1U hC [6, 7, 25] [0, 24, 28, 8103] [(25, .bool (decide (0 < (length ar8103 : Int))))] [] ?_); refine cdE e80 ?_ ?_
      ·
       intro h81q e82; refine d0U hC hM [6, 7] [0, 24, 28, 8103] [] [(8103, .arr 1 (.slice (.named 1)) ((ar8103 ++ ([(copyRow (getD ar8103 0 []))] : List (List Val))) : List (List Val)))] [(0 ≤ (0 : Int) ∧ (0 : Int) < (length ar8103 : Int)), ((length (getD ar8103 0 []) : Int) ≤ 1048576), ((length ar8103 : Int) + (length ([(copyRow (getD ar8103 0 []))] : List (List Val)) : Int) ≤ 4294967296)] ?_ ?_
       ·
        exact ⟨(by omega), (by have := hJ1.2 0 (by omega); omega), (by (simp only [lens] at *; omega)), trivial⟩
       refine seq (r1U hC [6] [0, 24, 8103] [] [(24, .box 1 [.int .i64 width, .arr 8103 1])] ?_); exact ret (AW.retE (β := Tab × Rdr) (fun v => [⟨(.named 2), v.1⟩]) (fun v => [⟨(.named 3), v.2⟩]) (v := ((Tab.mk width (ar8103 ++ ([(copyRow (getD ar8103 0 []))] : List (List Val)))), (Rdr.mk r0 (r1 + 1)))) e82 (by kernel_rfl) rfl rfl)
      · intro h83q e84; refine kpU [6, 7] [0, 24, 28, 8103] [] [] ?_; refine AW.skip (seq (r1U hC [6] [0, 24, 8103] [] [(24, .box 1 [.int .i64 width, .arr 8103 1])] ?_)); exact ret (AW.retE (β := Tab × Rdr) (fun v => [⟨(.named 2), v.1⟩]) (fun v => [⟨(.named 3), v.2⟩]) (v := ((Tab.mk width ar8103), (Rdr.mk r0 (r1 + 1)))) e84 (by kernel_rfl) rfl rfl)
     ·
      intro h85q e86; refine seq (r1U hC [0, 1, 6, 7, 36] [0, 24, 28, 8103] [(36, .bool ((pick r0 r1 20) == 2))] [] ?_); refine cdE e86 ?_ ?_
      ·
       intro h87q e88; refine seq (r1U hC [0, 1, 6, 7, 41] [0, 24, 28, 8103] [(41, .bool (decide (0 < (length ar8103 : Int))))] [] ?_); refine cdE e88 ?_ ?_
       ·
        intro h89q e90; refine d0U hC hM [6, 7] [0, 24, 28, 8103] [] [(0, .box 0 [.data (.slice (.int .u8)) ((Rdr.b ((anyRow (Rdr.mk r0 (r1 + 1)) width).2)) : List Int), .int .i64 (Rdr.p ((anyRow (Rdr.mk r0 (r1 + 1)) width).2))]), (8103, .arr 1 (.slice (.named 1)) ((set ar8103 0 ((anyRow (Rdr.mk r0 (r1 + 1)) width).1)) : List (List Val)))] [((0 ≤ (Rdr.mk r0 (r1 + 1)).p ∧ (Rdr.mk r0 (r1 + 1)).p ≤ 1000000090000) ∧ 1 ≤ width ∧ width ≤ 6), (0 ≤ (0 : Int) ∧ (0 : Int) < (length ar8103 : Int))] ?_ ?_
        ·
         exact ⟨(by (dsimp only; omega)), (by omega), trivial⟩
        refine seq (r1U hC [6] [0, 24, 8103] [] [(24, .box 1 [.int .i64 width, .arr 8103 1])] ?_); exact ret (AW.retE (β := Tab × Rdr) (fun v => [⟨(.named 2), v.1⟩]) (fun v => [⟨(.named 3), v.2⟩]) (v := ((Tab.mk width (set ar8103 0 ((anyRow (Rdr.mk r0 (r1 + 1)) width).1))), ((anyRow (Rdr.mk r0 (r1 + 1)) width).2))) e90 (by kernel_rfl) rfl rfl)
       · intro h91q e92; refine kpU [6, 7] [0, 24, 28, 8103] [] [] ?_; refine AW.skip (seq (r1U hC [6] [0, 24, 8103] [] [(24, .box 1 [.int .i64 width, .arr 8103 1])] ?_)); exact ret (AW.retE (β := Tab × Rdr) (fun v => [⟨(.named 2), v.1⟩]) (fun v => [⟨(.named 3), v.2⟩]) (v := ((Tab.mk width ar8103), (Rdr.mk r0 (r1 + 1)))) e92 (by kernel_rfl) rfl rfl)
      · intro h93q e94; refine kpU [6, 7] [0, 24, 28, 8103] [] [] ?_; refine AW.skip (seq (r1U hC [6] [0, 24, 8103] [] [(24, .box 1 [.int .i64 width, .arr 8103 1])] ?_)); exact ret (AW.retE (β := Tab × Rdr) (fun v => [⟨(.named 2), v.1⟩]) (fun v => [⟨(.named 3), v.2⟩]) (v := ((Tab.mk width ar8103), (Rdr.mk r0 (r1 + 1)))) e94 (by kernel_rfl) rfl rfl)

end
end Go.Proofs.Ytjcjpeckfikfkaa
