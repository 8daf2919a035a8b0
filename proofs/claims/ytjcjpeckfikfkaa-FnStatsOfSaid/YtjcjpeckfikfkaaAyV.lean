/-
  A part of the proof of this claim (AyV): what functions of the program compute, and plain facts of that. No conditions.
-/
import Derived.Test.YtjcjpeckfikfkaaAyU
import Derived.Test.YtjcjpeckfikfkaaAwO
set_option linter.all false
namespace Go.Proofs.Ytjcjpeckfikfkaa
open Go Go.Am
open Go.Am.AW (seq r1U ret kpU cdE r0U r1 meet block rS bk exit lpB kp)
open List (length getD)
noncomputable section

def statsOf_l1 (t : Tab) (c : Nat) : Nat → Nat → Nat → (List (List Val)) → Nat × (List (List Val))
 | 0, n, i, seen => (n, seen)
 | k + 1, n, i, seen => (bif (decide ((i : Int) < (length (Tab.Rows t) : Int))) then (bif (Val.Null (getD (getD (Tab.Rows t) i []) c Val.zero)) then (statsOf_l1 t c k (n + 1) (i + 1) seen) else (bif ((countRow seen ([(getD (getD (Tab.Rows t) i []) c Val.zero)] : List Val)) == 0) then (statsOf_l1 t c k n (i + 1) (seen ++ ([([(getD (getD (Tab.Rows t) i []) c Val.zero)] : List Val)] : List (List Val)))) else (statsOf_l1 t c k n (i + 1) seen))) else (n, seen))

def statsOf_l0 (t : Tab) : Nat → Nat → (List Int) → (List Int) → (List Int) × (List Int)
 | 0, c, ar216, ar240 => (ar216, ar240)
 | k + 1, c, ar216, ar240 => (bif (decide ((c : Int) < (Tab.Width t))) then (andThen (statsOf_l1 t c ((length (Tab.Rows t)) - 0 + 1) 0 0 ([] : List (List Val))) (fun z => (fun (n : Nat) (seen : List (List Val)) => (statsOf_l0 t k (c + 1) (ar216 ++ ([(length seen : Int)] : List Int)) (ar240 ++ ([(n : Int)] : List Int)))) z.1 z.2)) else (ar216, ar240))

def statsOf (t : Tab) : Sta := (andThen (statsOf_l0 t (Int.toNat ((Tab.Width t) - ((0 : Nat) : Int)) + 1) 0 ([] : List Int) ([] : List Int)) (fun z => (fun (ar216 : List Int) (ar240 : List Int) => (Sta.mk (length (Tab.Rows t) : Int) ar216 ar240)) z.1 z.2))

def statsOf_sp : FnSpec := mkSpec [.val (.named 2)] [.val (.named 4)] (fun (t : Tab) => VT t) (fun (t : Tab) => [⟨(.named 4), (statsOf t)⟩])

theorem statsOf_ok : FnOK Try.prog 91 statsOf_sp := by
 have hC : CtxOK Try.prog (mkCtx tyL [(78, countRow_sp)]) := CtxOK.cons countRow_ok (CtxOK.nil tyOK); refine FnOK.of_body Try.func91 (by kernel_rfl) rfl (C := (mkCtx tyL [(78, countRow_sp)])) hC.ty (by kernel_rfl) ?_; intro (t : Tab) hwf hpre E; have hpre : VT t := hpre; have hn4 := hpre.n4; have hw1 := hpre.w1; have hw6 := hpre.w6; have e0 : statsOf t = statsOf t := rfl; refine seq (r1 hC [1, 2] [4, 8] ⟨[(1, .ref 4 1 0), (2, .ref 8 1 0)], [(4, .box 1 [.int .i64 (Tab.Width t), .data (.slice (.slice (.named 1))) ((Tab.Rows t) : List (List Val))]), (8, .box 1 [.int .i64 0, .nilsl, .nilsl])]⟩ ?_); refine seq (r1U hC [1, 2, 3] [4, 8, 12] [(3, .ref 12 1 0)] [(12, .box 1 [.int .i64 (length (Tab.Rows t) : Int), .nilsl, .nilsl])] ?_); refine seq (seq (r1U hC [1, 2, 3, 4] [4, 8, 12] [(4, .int .i64 0)] [] ?_)); refine AW.adoptB 12 1 1 216 [.int .i64 (length (Tab.Rows t) : Int), .nilsl, .nilsl] (.int .i64) (by kernel_rfl) (by kernel_rfl) (by kernel_rfl) ?_; refine AW.adoptB 12 1 2 240 [.int .i64 (length (Tab.Rows t) : Int), .arr 216 1, .nilsl] (.int .i64) (by kernel_rfl) (by kernel_rfl) (by kernel_rfl) ?_; refine kp [1, 2, 3, 4] [4, 8, 12, 216, 240] ⟨[(1, .ref 4 1 0), (2, .ref 8 1 0), (3, .ref 12 1 0), (4, .int .i64 0)], [(4, .box 1 [.int .i64 (Tab.Width t), .data (.slice (.slice (.named 1))) ((Tab.Rows t) : List (List Val))]), (8, .box 1 [.int .i64 0, .nilsl, .nilsl]), (12, .box 1 [.int .i64 (length (Tab.Rows t) : Int), .arr 216 1, .arr 240 1]), (216, .arr 1 (.int .i64) (([] : List Int) : List Int)), (240, .arr 1 (.int .i64) (([] : List Int) : List Int))]⟩ ?_; refine lpB (ζ := (List Int) × (List Int)) (fun x => ⟨[(2, .ref 8 1 0), (3, .ref 12 1 0)], [(8, .box 1 [.int .i64 0, .nilsl, .nilsl]), (12, .box 1 [.int .i64 (length (Tab.Rows t) : Int), .arr 216 1, .arr 240 1]), (216, .arr 1 (.int .i64) (x.1 : List Int)), (240, .arr 1 (.int .i64) (x.2 : List Int))]⟩) (fun x => True) (fun x => x) (α := Nat × (List Int) × (List Int)) (fun x => ⟨[(1, .ref 4 1 0), (2, .ref 8 1 0), (3, .ref 12 1 0), (4, .int .i64 ((x.1 : Nat) : Int))], [(4, .box 1 [.int .i64 (Tab.Width t), .data (.slice (.slice (.named 1))) ((Tab.Rows t) : List (List Val))]), (8, .box 1 [.int .i64 0, .nilsl, .nilsl]), (12, .box 1 [.int .i64 (length (Tab.Rows t) : Int), .arr 216 1, .arr 240 1]), (216, .arr 1 (.int .i64) (x.2.1 : List Int)), (240, .arr 1 (.int .i64) (x.2.2 : List Int))]⟩) (fun x => (length x.2.1 = x.1 ∧ length x.2.2 = x.1) ∧ x.1 ≤ Int.toNat t.Width) (fun x => Int.toNat ((Tab.Width t) - ((x.1 : Nat) : Int))) (fun k x => statsOf_l0 t k x.1 x.2.1 x.2.2) (0, ([] : List Int), ([] : List Int)) (by kernel_rfl) ?_ ?_ ?_
 · exact ⟨⟨rfl, rfl⟩, Nat.zero_le _⟩
 ·
  intro x k147q hI0 hk145 e146; obtain ⟨c, ar216, ar240⟩ := x; dsimp only at e146; replace hI0 : (length ar216 = c ∧ length ar240 = c) ∧ c ≤ Int.toNat t.Width := hI0; refine seq (seq (r1U hC [1, 2, 3, 4, 16] [4, 8, 12, 216, 240] [(16, .bool (decide ((c : Int) < (Tab.Width t))))] [] ?_)); refine cdE e146 ?_ ?_
  ·
   intro h148q e149; refine kpU [1, 2, 3, 4] [4, 8, 12, 216, 240] [] [] ?_; refine AW.skip (seq (block (seq (r1U hC [1, 2, 3, 4, 5] [4, 8, 12, 76, 216, 240] [(5, .arr 76 1)] [(76, .arr 1 (.slice (.named 1)) (([] : List (List Val)) : List (List Val)))] ?_)))); refine seq (r1U hC [1, 2, 3, 4, 5, 6] [4, 8, 12, 76, 216, 240] [(6, .int .i64 0)] [] ?_); refine seq (seq (r1U hC [1, 2, 3, 4, 5, 6, 7] [4, 8, 12, 76, 216, 240] [(7, .int .i64 0)] [] ?_)); refine lpB (ζ := Nat × (List (List Val))) (fun x => ⟨[(1, .ref 4 1 0), (2, .ref 8 1 0), (3, .ref 12 1 0), (4, .int .i64 (c : Int)), (5, .arr 76 1), (6, .int .i64 ((x.1 : Nat) : Int))], [(4, .box 1 [.int .i64 (Tab.Width t), .data (.slice (.slice (.named 1))) ((Tab.Rows t) : List (List Val))]), (8, .box 1 [.int .i64 0, .nilsl, .nilsl]), (12, .box 1 [.int .i64 (length (Tab.Rows t) : Int), .arr 216 1, .arr 240 1]), (76, .arr 1 (.slice (.named 1)) (x.2 : List (List Val))), (216, .arr 1 (.int .i64) (ar216 : List Int)), (240, .arr 1 (.int .i64) (ar240 : List Int))]⟩) (fun x => x.1 ≤ 400 ∧ length x.2 ≤ 400) (fun x => x) (α := Nat × Nat × (List (List Val))) (fun x => ⟨[(1, .ref 4 1 0), (2, .ref 8 1 0), (3, .ref 12 1 0), (4, .int .i64 (c : Int)), (5, .arr 76 1), (6, .int .i64 ((x.1 : Nat) : Int)), (7, .int .i64 ((x.2.1 : Nat) : Int))], [(4, .box 1 [.int .i64 (Tab.Width t), .data (.slice (.slice (.named 1))) ((Tab.Rows t) : List (List Val))]), (8, .box 1 [.int .i64 0, .nilsl, .nilsl]), (12, .box 1 [.int .i64 (length (Tab.Rows t) : Int), .arr 216 1, .arr 240 1]), (76, .arr 1 (.slice (.named 1)) (x.2.2 : List (List Val))), (216, .arr 1 (.int .i64) (ar216 : List Int)), (240, .arr 1 (.int .i64) (ar240 : List Int))]⟩) (fun x => (x.1 ≤ x.2.1 ∧ length x.2.2 ≤ x.2.1) ∧ x.2.1 ≤ length t.Rows) (fun x => (length (Tab.Rows t)) - x.2.1) (fun k x => statsOf_l1 t c k x.1 x.2.1 x.2.2) (0, 0, ([] : List (List Val))) (by kernel_rfl) ?_ ?_ ?_
   · exact ⟨⟨Nat.le_refl _, Nat.zero_le _⟩, Nat.zero_le _⟩
   ·
    intro x k152q hI1 hk150 e151; obtain ⟨n, i, seen⟩ := x; dsimp only at e151; replace hI1 : (n ≤ i ∧ length seen ≤ i) ∧ i ≤ length t.Rows := hI1; refine seq (seq (r1U hC [1, 2, 3, 4, 5, 6, 7, 24] [4, 8, 12, 76, 216, 240] [(24, .bool (decide ((i : Int) < (length (Tab.Rows t) : Int))))] [] ?_)); refine cdE e151 ?_ ?_
    ·
     intro h153q e154; refine kpU [1, 2, 3, 4, 5, 6, 7] [4, 8, 12, 76, 216, 240] [] [] ?_; refine AW.skip (seq (block (seq (r0U hC [1, 2, 3, 4, 5, 6, 7, 8] [4, 8, 12, 32, 76, 216, 240] [(8, .ref 32 1 0)] [(32, .box 1 [.bool (Val.Null (getD (getD (Tab.Rows t) i []) c Val.zero)), .int .i64 (Val.N (getD (getD (Tab.Rows t) i []) c Val.zero))])] [(0 ≤ (i : Int) ∧ (i : Int) < (length (Tab.Rows t) : Int)), (0 ≤ (c : Int) ∧ (c : Int) < (length (getD (Tab.Rows t) i []) : Int))] ?_ ?_))))
     ·
      exact ⟨(by omega), (by have hr := (hpre.rows i (by omega)).2; unfold rowAt at hr; omega), trivial⟩
     refine seq (r1U hC [1, 2, 3, 4, 5, 6, 7, 8, 36] [4, 8, 12, 32, 76, 216, 240] [(36, .bool (Val.Null (getD (getD (Tab.Rows t) i []) c Val.zero)))] [] ?_); refine cdE e154 ?_ ?_
     ·
      intro h155q e156; refine r0U hC [1, 2, 3, 4, 5, 6, 7] [4, 8, 12, 76, 216, 240] [(6, .int .i64 ((n + 1 : Nat) : Int))] [] [(-9223372036854775808 ≤ ((n + 1 : Nat) : Int) ∧ ((n + 1 : Nat) : Int) ≤ 9223372036854775807)] ?_ ?_
      ·
       exact ⟨(by omega), trivial⟩
      refine r0U hC [1, 2, 3, 4, 5, 6, 7] [4, 8, 12, 76, 216, 240] [(7, .int .i64 ((i + 1 : Nat) : Int))] [] [(-9223372036854775808 ≤ ((i + 1 : Nat) : Int) ∧ ((i + 1 : Nat) : Int) ≤ 9223372036854775807)] ?_ ?_
      ·
       exact ⟨(by omega), trivial⟩
      refine bk (n + 1, i + 1, seen) e156 hk150 ?_ ?_
      · first | refine ⟨⟨?_, ?_⟩, ?_⟩ <;> first | omega | (simp only [List.length_append, List.length_cons, List.length_nil]; omega) | (dsimp only; refine ⟨⟨?_, ?_⟩, ?_⟩ <;> first | omega | (simp only [List.length_append, List.length_cons, List.length_nil]; omega)) | (show ((n + 1) ≤ (i + 1) ∧ length seen ≤ (i + 1)) ∧ (i + 1) ≤ length t.Rows; refine ⟨⟨?_, ?_⟩, ?_⟩ <;> first | omega | (simp only [List.length_append, List.length_cons, List.length_nil]; omega))
      · first | omega | (simp only [lens]; omega) | (dsimp only; omega) | (dsimp only; (simp only [lens]; omega)) | (show (length (Tab.Rows t)) - (i + 1) < (length (Tab.Rows t)) - i; omega) | (show (length (Tab.Rows t)) - (i + 1) < (length (Tab.Rows t)) - i; (simp only [lens]; omega))
     ·
      intro h157q e158; refine seq (r0U hC [1, 2, 3, 4, 5, 6, 7, 8, 43] [4, 8, 12, 32, 76, 216, 240] [(43, .bool ((countRow seen ([(getD (getD (Tab.Rows t) i []) c Val.zero)] : List Val)) == 0))] [] [(length seen ≤ 400)] ?_ ?_)
      ·
       exact ⟨(by omega), trivial⟩
      refine cdE e158 ?_ ?_
      ·
       intro h159q e160; refine r0U hC [1, 2, 3, 4, 5, 6, 7] [4, 8, 12, 76, 216, 240] [] [(76, .arr 1 (.slice (.named 1)) ((seen ++ ([([(getD (getD (Tab.Rows t) i []) c Val.zero)] : List Val)] : List (List Val))) : List (List Val)))] [((length seen : Int) + (length ([([(getD (getD (Tab.Rows t) i []) c Val.zero)] : List Val)] : List (List Val)) : Int) ≤ 4294967296)] ?_ ?_
       ·
        exact ⟨(by first | (omega) | ((dsimp only; omega)) | ((simp only [lens] at *; omega))), trivial⟩
       refine r0U hC [1, 2, 3, 4, 5, 6, 7] [4, 8, 12, 76, 216, 240] [(7, .int .i64 ((i + 1 : Nat) : Int))] [] [(-9223372036854775808 ≤ ((i + 1 : Nat) : Int) ∧ ((i + 1 : Nat) : Int) ≤ 9223372036854775807)] ?_ ?_
       ·
        exact ⟨(by first | (omega) | ((dsimp only; omega)) | ((simp only [lens] at *; omega))), trivial⟩
       refine bk (n, i + 1, (seen ++ ([([(getD (getD (Tab.Rows t) i []) c Val.zero)] : List Val)] : List (List Val)))) e160 hk150 ?_ ?_
       · first | refine ⟨⟨?_, ?_⟩, ?_⟩ <;> first | omega | (simp only [List.length_append, List.length_cons, List.length_nil]; omega) | (dsimp only; refine ⟨⟨?_, ?_⟩, ?_⟩ <;> first | omega | (simp only [List.length_append, List.length_cons, List.length_nil]; omega)) | (show (n ≤ (i + 1) ∧ length (seen ++ ([([(getD (getD (Tab.Rows t) i []) c Val.zero)] : List Val)] : List (List Val))) ≤ (i + 1)) ∧ (i + 1) ≤ length t.Rows; refine ⟨⟨?_, ?_⟩, ?_⟩ <;> first | omega | (simp only [List.length_append, List.length_cons, List.length_nil]; omega))
       · first | omega | (simp only [lens]; omega) | (dsimp only; omega) | (dsimp only; (simp only [lens]; omega)) | (show (length (Tab.Rows t)) - (i + 1) < (length (Tab.Rows t)) - i; omega) | (show (length (Tab.Rows t)) - (i + 1) < (length (Tab.Rows t)) - i; (simp only [lens]; omega))
      ·
       intro h161q e162; refine kpU [1, 2, 3, 4, 5, 6, 7] [4, 8, 12, 76, 216, 240] [] [] ?_; refine AW.skip (r0U hC [1, 2, 3, 4, 5, 6, 7] [4, 8, 12, 76, 216, 240] [(7, .int .i64 ((i + 1 : Nat) : Int))] [] [(-9223372036854775808 ≤ ((i + 1 : Nat) : Int) ∧ ((i + 1 : Nat) : Int) ≤ 9223372036854775807)] ?_ ?_)
       ·
        exact ⟨(by first | (omega) | ((dsimp only; omega)) | ((simp only [lens] at *; omega))), trivial⟩
       refine bk (n, i + 1, seen) e162 hk150 ?_ ?_
       · first | refine ⟨⟨?_, ?_⟩, ?_⟩ <;> first | omega | (simp only [List.length_append, List.length_cons, List.length_nil]; omega) | (dsimp only; refine ⟨⟨?_, ?_⟩, ?_⟩ <;> first | omega | (simp only [List.length_append, List.length_cons, List.length_nil]; omega)) | (show (n ≤ (i + 1) ∧ length seen ≤ (i + 1)) ∧ (i + 1) ≤ length t.Rows; refine ⟨⟨?_, ?_⟩, ?_⟩ <;> first | omega | (simp only [List.length_append, List.length_cons, List.length_nil]; omega))
       · first | omega | (simp only [lens]; omega) | (dsimp only; omega) | (dsimp only; (simp only [lens]; omega)) | (show (length (Tab.Rows t)) - (i + 1) < (length (Tab.Rows t)) - i; omega) | (show (length (Tab.Rows t)) - (i + 1) < (length (Tab.Rows t)) - i; (simp only [lens]; omega))
    · intro h163q e164; refine kpU [1, 2, 3, 4, 5, 6] [4, 8, 12, 76, 216, 240] [] [] ?_; refine exit ?_; refine meet (n, seen) (by kernel_rfl) ⟨?_, e164⟩; first | omega | (dsimp only; omega) | (show n ≤ 400 ∧ length seen ≤ 400; omega)
   ·
    intro x hJ1 e165; obtain ⟨n, seen⟩ := x; replace hJ1 : n ≤ 400 ∧ length seen ≤ 400 := hJ1; have e166 := e149.trans (then_eq e165); (first | dsimp only at e166 | skip); refine seq (r0U hC [1, 2, 3, 4, 6] [4, 8, 12, 216, 240] [] [(216, .arr 1 (.int .i64) ((ar216 ++ ([(length seen : Int)] : List Int)) : List Int))] [((length ar216 : Int) + ((length ([(length seen : Int)] : List Int) : Nat) : Int) ≤ 4294967296)] ?_ ?_)
    ·
     exact ⟨(by first | (omega) | ((dsimp only; omega)) | ((simp only [lens] at *; omega))), trivial⟩
    refine r0U hC [1, 2, 3, 4] [4, 8, 12, 216, 240] [] [(240, .arr 1 (.int .i64) ((ar240 ++ ([(n : Int)] : List Int)) : List Int))] [((length ar240 : Int) + ((length ([(n : Int)] : List Int) : Nat) : Int) ≤ 4294967296)] ?_ ?_
    ·
     exact ⟨(by first | (omega) | ((dsimp only; omega)) | ((simp only [lens] at *; omega))), trivial⟩
    refine r0U hC [1, 2, 3, 4] [4, 8, 12, 216, 240] [(4, .int .i64 ((c + 1 : Nat) : Int))] [] [(-9223372036854775808 ≤ ((c + 1 : Nat) : Int) ∧ ((c + 1 : Nat) : Int) ≤ 9223372036854775807)] ?_ ?_
    ·
     exact ⟨(by first | (omega) | ((dsimp only; omega)) | ((simp only [lens] at *; omega))), trivial⟩
    refine bk (c + 1, (ar216 ++ ([(length seen : Int)] : List Int)), (ar240 ++ ([(n : Int)] : List Int))) e166 hk145 ?_ ?_
    · first | refine ⟨⟨?_, ?_⟩, ?_⟩ <;> first | omega | (simp only [List.length_append, List.length_cons, List.length_nil]; omega) | (dsimp only; refine ⟨⟨?_, ?_⟩, ?_⟩ <;> first | omega | (simp only [List.length_append, List.length_cons, List.length_nil]; omega)) | (show (length (ar216 ++ ([(length seen : Int)] : List Int)) = (c + 1) ∧ length (ar240 ++ ([(n : Int)] : List Int)) = (c + 1)) ∧ (c + 1) ≤ Int.toNat t.Width; refine ⟨⟨?_, ?_⟩, ?_⟩ <;> first | omega | (simp only [List.length_append, List.length_cons, List.length_nil]; omega))
    · first | omega | (simp only [lens]; omega) | (dsimp only; omega) | (dsimp only; (simp only [lens]; omega)) | (show Int.toNat ((Tab.Width t) - (((c + 1) : Nat) : Int)) < Int.toNat ((Tab.Width t) - (c : Int)); omega) | (show Int.toNat ((Tab.Width t) - (((c + 1) : Nat) : Int)) < Int.toNat ((Tab.Width t) - (c : Int)); (simp only [lens]; omega))
  · intro h167q e168; refine kpU [2, 3] [8, 12, 216, 240] [] [] ?_; refine exit ?_; refine meet (ar216, ar240) (by kernel_rfl) ⟨?_, e168⟩; first | trivial | (dsimp only; trivial) | (show True; trivial)
 · intro x hJ0 e169; obtain ⟨ar216, ar240⟩ := x; have e170 := e0.trans (then_eq e169); (first | dsimp only at e170 | skip); refine seq (r1U hC [2] [8, 216, 240] [] [(8, .box 1 [.int .i64 (length (Tab.Rows t) : Int), .arr 216 1, .arr 240 1])] ?_); exact ret (rS (.named 4) e170)

def sStatsOf (t : Tab) : Sta := (bif (!(validTable t)) then (Sta.mk 0 ([] : List Int) ([] : List Int)) else (statsOf t))

def sStatsOf_sp : FnSpec := mkSpec [.val (.named 2)] [.val (.named 4)] (fun (t : Tab) => True) (fun (t : Tab) => [⟨(.named 4), (sStatsOf t)⟩])

theorem sStatsOf_ok : FnOK Try.prog 53 sStatsOf_sp := by
 have hC : CtxOK Try.prog (mkCtx tyL [(77, validTable_sp), (91, statsOf_sp)]) := CtxOK.cons validTable_ok (CtxOK.cons statsOf_ok (CtxOK.nil tyOK)); refine FnOK.of_body Try.func53 (by kernel_rfl) rfl (C := (mkCtx tyL [(77, validTable_sp), (91, statsOf_sp)])) hC.ty (by kernel_rfl) ?_; intro (t : Tab) hwf hpre E; have e0 : sStatsOf t = sStatsOf t := rfl; refine seq (r1 hC [1, 2] [4, 8] ⟨[(1, .ref 4 1 0), (2, .ref 8 1 0)], [(4, .box 1 [.int .i64 (Tab.Width t), .data (.slice (.slice (.named 1))) ((Tab.Rows t) : List (List Val))]), (8, .box 1 [.int .i64 0, .nilsl, .nilsl])]⟩ ?_); refine seq (seq (r0U hC [1, 2, 5] [4, 8] [(5, .bool (!(validTable t)))] [] [(True)] ?_ ?_))
 ·
  exact ⟨trivial, trivial⟩
 refine cdE e0 ?_ ?_
 · intro h1q e2; refine seq (r1U hC [2] [8] [] [] ?_); exact ret (rS (.named 4) e2)
 ·
  intro h3q e4; refine kpU [1, 2] [4, 8] [] [] ?_; refine AW.skip (seq (r0U hC [2] [8] [] [(8, .box 1 [.int .i64 (Sta.Rows (statsOf t)), .data (.slice (.int .i64)) ((Sta.Distinct (statsOf t)) : List Int), .data (.slice (.int .i64)) ((Sta.Nulls (statsOf t)) : List Int)])] [(VT t)] ?_ ?_))
  ·
   exact ⟨validTable_iff.1 h3q, trivial⟩
  exact ret (rS (.named 4) e4)

end
end Go.Proofs.Ytjcjpeckfikfkaa
