/-
  A part of the proof of this claim (AwB): what functions of the program compute, and plain facts of that. No conditions.
-/
import Derived.Test.YtjcjpeckfikfkaaAwA
set_option linter.all false
namespace Go.Proofs.Ytjcjpeckfikfkaa
open Go Go.Am
noncomputable section

def copyRow (row : List Val) : (List Val) := (([] : List Val) ++ row)

def copyRow_sp : FnSpec := mkSpec [.val (.slice (.named 1))] [.val (.slice (.named 1))] (fun (row : List Val) => (List.length row : Int) ≤ 1048576) (fun (row : List Val) => [⟨(.slice (.named 1)), (copyRow row)⟩])

theorem copyRow_ok : FnOK Try.prog 75 copyRow_sp := by
 have hC : CtxOK Try.prog (mkCtx tyL []) := CtxOK.nil tyOK
 refine FnOK.of_body Try.func75 (by kernel_rfl) rfl (C := (mkCtx tyL [])) hC.ty (by kernel_rfl) ?_
 intro (row : List Val) hwf hpre E
 have hpre : (List.length row : Int) ≤ 1048576 := hpre
 have hw_row : Wf ⟨(.slice (.named 1)), (row : List Val)⟩ := hwf _ (List.Mem.head _)
 have hl_row : ((List.length row : Nat) : Int) ≤ 9223372036854775807 := hw_row.len
 have e0 : copyRow row = copyRow row := rfl
 refine AW.seq (AW.r1 hC [0] [] ⟨[(0, .data (.slice (.named 1)) (row : List Val))], []⟩ ?_)
 refine AW.seq (AW.r0 hC [2] [12] ⟨[(2, .arr 12 1)], [(12, .arr 1 (.named 1) ((([] : List Val) ++ row) : List Val))]⟩ [(0 + ((List.length row : Nat) : Int) ≤ 4294967296)] ?_ ?_)
 ·
  refine ⟨?_, trivial⟩
  ·
   omega
 exact AW.ret (AW.retE (β := (List Val)) (fun v => [⟨(.slice (.named 1)), v⟩]) (fun v => []) (v := (([] : List Val) ++ row)) e0 (by kernel_rfl) rfl rfl)

def insertRow_l0 (rows : List (List Val)) (row : List Val) : Nat → Int → Int → Int
 | 0, low1, high1 => low1
 | k + 1, low1, high1 => (bif (decide (low1 < high1)) then (bif (decide ((compareRows (List.getD rows (Int.toNat ((low1 + high1) / 2)) []) row) ≤ 0)) then (insertRow_l0 rows row k (((low1 + high1) / 2) + 1) high1) else (insertRow_l0 rows row k low1 ((low1 + high1) / 2))) else low1)

def insertRow (rows : List (List Val)) (row : List Val) : (List (List Val)) := (Go.Am.andThen (insertRow_l0 rows row (Int.toNat (((List.length rows : Nat) : Int) - 0) + 1) 0 ((List.length rows : Nat) : Int)) (fun z => (fun (low1 : Int) => (((([] : List (List Val)) ++ (List.take (Int.toNat low1) rows)) ++ ([(copyRow row)] : List (List Val))) ++ (List.drop (Int.toNat low1) rows))) z))

def insertRow_sp : FnSpec := mkSpec [.val (.slice (.slice (.named 1))), .val (.slice (.named 1))] [.own (.slice (.named 1))] (fun (rows : List (List Val)) (row : List Val) => (List.length rows : Int) ≤ 1048576 ∧ (List.length row : Int) ≤ 1048576) (fun (rows : List (List Val)) (row : List Val) => [⟨(.slice (.slice (.named 1))), (insertRow rows row)⟩])

theorem insertRow_ok : FnOK Try.prog 99 insertRow_sp := by
 have hC : CtxOK Try.prog (mkCtx tyL [(75, copyRow_sp), (106, compareRows_sp)]) := CtxOK.cons copyRow_ok (CtxOK.cons compareRows_ok (CtxOK.nil tyOK))
 refine FnOK.of_body Try.func99 (by kernel_rfl) rfl (C := (mkCtx tyL [(75, copyRow_sp), (106, compareRows_sp)])) hC.ty (by kernel_rfl) ?_
 intro (rows : List (List Val)) (row : List Val) hwf hpre E
 have hpre : (List.length rows : Int) ≤ 1048576 ∧ (List.length row : Int) ≤ 1048576 := hpre
 have hw_rows : Wf ⟨(.slice (.slice (.named 1))), (rows : List (List Val))⟩ := hwf _ (List.Mem.head _)
 have hl_rows : ((List.length rows : Nat) : Int) ≤ 9223372036854775807 := hw_rows.len
 have hw_row : Wf ⟨(.slice (.named 1)), (row : List Val)⟩ := hwf _ (List.Mem.tail _ (List.Mem.head _))
 have hl_row : ((List.length row : Nat) : Int) ≤ 9223372036854775807 := hw_row.len
 have e0 : insertRow rows row = insertRow rows row := rfl
 refine AW.seq (AW.r1 hC [0, 1] [] ⟨[(0, .data (.slice (.slice (.named 1))) (rows : List (List Val))), (1, .data (.slice (.named 1)) (row : List Val))], []⟩ ?_)
 refine AW.seq (AW.r1 hC [0, 1, 5] [] ⟨[(0, .data (.slice (.slice (.named 1))) (rows : List (List Val))), (1, .data (.slice (.named 1)) (row : List Val)), (5, .int .i64 0)], []⟩ ?_)
 refine AW.seq (AW.r1 hC [0, 1, 5, 6] [] ⟨[(0, .data (.slice (.slice (.named 1))) (rows : List (List Val))), (1, .data (.slice (.named 1)) (row : List Val)), (5, .int .i64 0), (6, .int .i64 ((List.length rows : Nat) : Int))], []⟩ ?_)
 refine AW.seq (AW.cutQ (α := Int) (fun x => ⟨[(0, .data (.slice (.slice (.named 1))) (rows : List (List Val))), (1, .data (.slice (.named 1)) (row : List Val)), (5, .int .i64 x)], []⟩) (fun x => (0 ≤ x ∧ x ≤ (List.length rows : Int)) ∧ (insertRow_l0 rows row (Int.toNat (((List.length rows : Nat) : Int) - 0) + 1) 0 ((List.length rows : Nat) : Int)) = x) ?_ ?_)
 ·
  skip
  refine AW.block (AW.loop (α := Int × Int) (fun x => ⟨[(0, .data (.slice (.slice (.named 1))) (rows : List (List Val))), (1, .data (.slice (.named 1)) (row : List Val)), (5, .int .i64 x.1), (6, .int .i64 x.2)], []⟩) (fun x => ((0 ≤ x.1 ∧ x.1 ≤ x.2) ∧ x.2 ≤ (List.length rows : Int)) ∧ ∃ k, Int.toNat (x.2 - x.1) < k ∧ (insertRow_l0 rows row (Int.toNat (((List.length rows : Nat) : Int) - 0) + 1) 0 ((List.length rows : Nat) : Int)) = insertRow_l0 rows row k x.1 x.2) (fun x => Int.toNat (x.2 - x.1)) (0, ((List.length rows : Nat) : Int)) (by kernel_rfl) ⟨?_, _, Nat.lt_succ_self _, rfl⟩ ?_)
  ·
   show (0 ≤ 0 ∧ 0 ≤ ((List.length rows : Nat) : Int)) ∧ ((List.length rows : Nat) : Int) ≤ (List.length rows : Int)
   omega
  ·
   intro x hR
   obtain ⟨low1, high1⟩ := x
   obtain ⟨hI0, k35, hk33, e34⟩ := hR
   replace hI0 : (0 ≤ low1 ∧ low1 ≤ high1) ∧ high1 ≤ (List.length rows : Int) := hI0
   replace hk33 : Int.toNat (high1 - low1) < k35 := hk33
   obtain ⟨k35q, rfl⟩ : ∃ k, k35 = k + 1 := ⟨k35 - 1, by omega⟩
   refine AW.seq (AW.seq (AW.r1 hC [0, 1, 5, 6, 13] [] ⟨[(0, .data (.slice (.slice (.named 1))) (rows : List (List Val))), (1, .data (.slice (.named 1)) (row : List Val)), (5, .int .i64 low1), (6, .int .i64 high1), (13, .bool (decide (low1 < high1)))], []⟩ ?_))
   refine AW.cd (decide (low1 < high1)) ?_ ?_
   ·
    intro h36
    have h36q : low1 < high1 := (of_decide_eq_true h36)
    have e37 := e34.trans (Go.Am.bif_t h36)
    refine AW.kp [0, 1, 5, 6] [] ⟨[(0, .data (.slice (.slice (.named 1))) (rows : List (List Val))), (1, .data (.slice (.named 1)) (row : List Val)), (5, .int .i64 low1), (6, .int .i64 high1)], []⟩ ?_
    refine AW.skip (AW.block (AW.seq (AW.r0 hC [0, 1, 5, 6, 7] [] ⟨[(0, .data (.slice (.slice (.named 1))) (rows : List (List Val))), (1, .data (.slice (.named 1)) (row : List Val)), (5, .int .i64 low1), (6, .int .i64 high1), (7, .int .i64 ((low1 + high1) / 2))], []⟩ [(-9223372036854775808 ≤ (low1 + high1) ∧ (low1 + high1) ≤ 9223372036854775807), (0 ≤ (low1 + high1) ∧ 0 < (2 : Int))] ?_ ?_)))
    ·
     refine ⟨?_, ?_, trivial⟩
     ·
      omega
     ·
      omega
    refine AW.seq (AW.r0 hC [0, 1, 5, 6, 7, 24] [] ⟨[(0, .data (.slice (.slice (.named 1))) (rows : List (List Val))), (1, .data (.slice (.named 1)) (row : List Val)), (5, .int .i64 low1), (6, .int .i64 high1), (7, .int .i64 ((low1 + high1) / 2)), (24, .bool (decide ((compareRows (List.getD rows (Int.toNat ((low1 + high1) / 2)) []) row) ≤ 0)))], []⟩ [(0 ≤ ((low1 + high1) / 2) ∧ ((low1 + high1) / 2) < ((List.length rows : Nat) : Int)), (True)] ?_ ?_)
    ·
     refine ⟨?_, ?_, trivial⟩
     ·
      omega
     ·
      trivial
    refine AW.cd (decide ((compareRows (List.getD rows (Int.toNat ((low1 + high1) / 2)) []) row) ≤ 0)) ?_ ?_
    ·
     intro h38
     have h38q : (compareRows (List.getD rows (Int.toNat ((low1 + high1) / 2)) []) row) ≤ 0 := (of_decide_eq_true h38)
     have e39 := e37.trans (Go.Am.bif_t h38)
     refine AW.r0 hC [0, 1, 5, 6] [] ⟨[(0, .data (.slice (.slice (.named 1))) (rows : List (List Val))), (1, .data (.slice (.named 1)) (row : List Val)), (5, .int .i64 (((low1 + high1) / 2) + 1)), (6, .int .i64 high1)], []⟩ [(-9223372036854775808 ≤ (((low1 + high1) / 2) + 1) ∧ (((low1 + high1) / 2) + 1) ≤ 9223372036854775807)] ?_ ?_
     ·
      refine ⟨?_, trivial⟩
      ·
       omega
     refine AW.back (x := (low1, high1)) ((((low1 + high1) / 2) + 1), high1) (by kernel_rfl) ⟨?_, k35q, ?_, e39⟩ ?_
     ·
      show (0 ≤ (((low1 + high1) / 2) + 1) ∧ (((low1 + high1) / 2) + 1) ≤ high1) ∧ high1 ≤ (List.length rows : Int)
      omega
     ·
      show Int.toNat (high1 - (((low1 + high1) / 2) + 1)) < k35q
      omega
     ·
      show Int.toNat (high1 - (((low1 + high1) / 2) + 1)) < Int.toNat (high1 - low1)
      omega
    ·
     intro h40
     have h40q : ¬ ((compareRows (List.getD rows (Int.toNat ((low1 + high1) / 2)) []) row) ≤ 0) := (of_decide_eq_false h40)
     have e41 := e37.trans (Go.Am.bif_f h40)
     refine AW.r1 hC [0, 1, 5, 6] [] ⟨[(0, .data (.slice (.slice (.named 1))) (rows : List (List Val))), (1, .data (.slice (.named 1)) (row : List Val)), (5, .int .i64 low1), (6, .int .i64 ((low1 + high1) / 2))], []⟩ ?_
     refine AW.back (x := (low1, high1)) (low1, ((low1 + high1) / 2)) (by kernel_rfl) ⟨?_, k35q, ?_, e41⟩ ?_
     ·
      show (0 ≤ low1 ∧ low1 ≤ ((low1 + high1) / 2)) ∧ ((low1 + high1) / 2) ≤ (List.length rows : Int)
      omega
     ·
      show Int.toNat (((low1 + high1) / 2) - low1) < k35q
      omega
     ·
      show Int.toNat (((low1 + high1) / 2) - low1) < Int.toNat (high1 - low1)
      omega
   ·
    intro h42
    have h42q : ¬ (low1 < high1) := (of_decide_eq_false h42)
    have e43 := e34.trans (Go.Am.bif_f h42)
    refine AW.kp [0, 1, 5] [] ⟨[(0, .data (.slice (.slice (.named 1))) (rows : List (List Val))), (1, .data (.slice (.named 1)) (row : List Val)), (5, .int .i64 low1)], []⟩ ?_
    refine AW.exit ?_
    refine AW.meet low1 (by kernel_rfl) ⟨?_, e43⟩
    show 0 ≤ low1 ∧ low1 ≤ (List.length rows : Int)
    omega
 ·
  intro low1 hR
  obtain ⟨hJ0, e44⟩ := hR
  replace hJ0 : 0 ≤ low1 ∧ low1 ≤ (List.length rows : Int) := hJ0
  have e45 := e0.trans (Go.Am.then_eq e44)
  refine AW.seq (AW.r0 hC [0, 1, 5, 8] [112] ⟨[(0, .data (.slice (.slice (.named 1))) (rows : List (List Val))), (1, .data (.slice (.named 1)) (row : List Val)), (5, .int .i64 low1), (8, .arr 112 1)], [(112, .arr 1 (.slice (.named 1)) ((([] : List (List Val)) ++ (List.take (Int.toNat low1) rows)) : List (List Val)))]⟩ [(0 ≤ low1 ∧ low1 ≤ ((List.length rows : Nat) : Int)), (0 + ((List.length (List.take (Int.toNat low1) rows) : Nat) : Int) ≤ 4294967296)] ?_ ?_)
  ·
   refine ⟨?_, ?_, trivial⟩
   ·
    omega
   ·
    simp only [lens] at *; omega
  refine AW.seq (AW.r0 hC [0, 5, 8] [112] ⟨[(0, .data (.slice (.slice (.named 1))) (rows : List (List Val))), (5, .int .i64 low1), (8, .arr 112 1)], [(112, .arr 1 (.slice (.named 1)) (((([] : List (List Val)) ++ (List.take (Int.toNat low1) rows)) ++ ([(copyRow row)] : List (List Val))) : List (List Val)))]⟩ [((List.length row : Int) ≤ 1048576), (((List.length (([] : List (List Val)) ++ (List.take (Int.toNat low1) rows)) : Nat) : Int) + ((List.length ([(copyRow row)] : List (List Val)) : Nat) : Int) ≤ 4294967296)] ?_ ?_)
  ·
   refine ⟨?_, ?_, trivial⟩
   ·
    omega
   ·
    simp only [lens] at *; omega
  refine AW.seq (AW.r0 hC [4] [112] ⟨[(4, .arr 112 1)], [(112, .arr 1 (.slice (.named 1)) ((((([] : List (List Val)) ++ (List.take (Int.toNat low1) rows)) ++ ([(copyRow row)] : List (List Val))) ++ (List.drop (Int.toNat low1) rows)) : List (List Val)))]⟩ [(0 ≤ low1 ∧ low1 ≤ ((List.length rows : Nat) : Int)), (((List.length ((([] : List (List Val)) ++ (List.take (Int.toNat low1) rows)) ++ ([(copyRow row)] : List (List Val))) : Nat) : Int) + ((List.length (List.drop (Int.toNat low1) rows) : Nat) : Int) ≤ 4294967296)] ?_ ?_)
  ·
   refine ⟨?_, ?_, trivial⟩
   ·
    omega
   ·
    simp only [lens] at *; omega
  exact AW.ret (AW.retE (β := (List (List Val))) (fun v => [⟨(.slice (.slice (.named 1))), v⟩]) (fun v => []) (v := (((([] : List (List Val)) ++ (List.take (Int.toNat low1) rows)) ++ ([(copyRow row)] : List (List Val))) ++ (List.drop (Int.toNat low1) rows))) e45 (by kernel_rfl) rfl rfl)

theorem insertRow_len (rows : List (List Val)) (row : List Val) : (insertRow rows row).length = rows.length + 1 := by
 unfold insertRow
 dsimp only [Go.Am.andThen]
 simp only [List.length_append, List.nil_append, List.length_cons, List.length_nil, List.length_take, List.length_drop]
 omega

theorem copyRow_eq (r : List Val) : copyRow r = r := rfl

end
end Go.Proofs.Ytjcjpeckfikfkaa
