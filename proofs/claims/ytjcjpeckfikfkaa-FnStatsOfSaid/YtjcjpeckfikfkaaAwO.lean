/-
  A part of the proof of this claim (AwO): what functions of the program compute, and plain facts of that. No conditions.
-/
import Derived.Test.YtjcjpeckfikfkaaAwN
import Derived.Test.YtjcjpeckfikfkaaAwF
set_option linter.all false
namespace Go.Proofs.Ytjcjpeckfikfkaa
open Go Go.Am
open Go.Am.AW (seq r1U ret kpU cdE r0U r1 meet block rS bk exit lpB r0 kp d0U)
open List (length getD)
noncomputable section

def countRow_l0 (rows : List (List Val)) (row : List Val) : Nat → Nat → Nat → Nat
 | 0, n, i => n
 | k + 1, n, i => (bif (decide ((i : Int) < (length rows : Int))) then (bif ((compareRows (getD rows i []) row) == 0) then (countRow_l0 rows row k (n + 1) (i + 1)) else (countRow_l0 rows row k n (i + 1))) else n)

def countRow (rows : List (List Val)) (row : List Val) : Int := (andThen (countRow_l0 rows row ((length rows) - 0 + 1) 0 0) (fun z => (fun (n : Nat) => (n : Int)) z))

def countRow_sp : FnSpec := mkSpec [.val (.slice (.slice (.named 1))), .val (.slice (.named 1))] [.val (.int .i64)] (fun (rows : List (List Val)) (row : List Val) => length rows ≤ 400) (fun (rows : List (List Val)) (row : List Val) => [⟨(.int .i64), (countRow rows row)⟩])

theorem countRow_ok : FnOK Try.prog 78 countRow_sp := by
 have hC : CtxOK Try.prog (mkCtx tyL [(106, compareRows_sp)]) := CtxOK.cons compareRows_ok (CtxOK.nil tyOK); refine FnOK.of_body Try.func78 (by kernel_rfl) rfl (C := (mkCtx tyL [(106, compareRows_sp)])) hC.ty (by kernel_rfl) ?_; intro (rows : List (List Val)) (row : List Val) hwf hpre E; have hpre : length rows ≤ 400 := hpre; have e0 : countRow rows row = countRow rows row := rfl; refine seq (r1U hC [0, 1] [] [] [] ?_); refine seq (r1U hC [0, 1, 5] [] [(5, .int .i64 0)] [] ?_); refine seq (seq (r1U hC [0, 1, 5, 6] [] [(6, .int .i64 0)] [] ?_)); refine lpB (ζ := Nat) (fun x => ⟨[(5, .int .i64 (x : Int))], []⟩) (fun x => True) (fun x => x) (α := Nat × Nat) (fun x => ⟨[(0, .data (.slice (.slice (.named 1))) (rows : List (List Val))), (1, .data (.slice (.named 1)) (row : List Val)), (5, .int .i64 ((x.1 : Nat) : Int)), (6, .int .i64 ((x.2 : Nat) : Int))], []⟩) (fun x => x.1 ≤ x.2) (fun x => (length rows) - x.2) (fun k x => countRow_l0 rows row k x.1 x.2) (0, 0) (by kernel_rfl) ?_ ?_ ?_
 · omega
 ·
  intro x k27q hI0 hk25 e26; obtain ⟨n, i⟩ := x; refine seq (seq (r1U hC [0, 1, 5, 6, 10] [] [(10, .bool (decide ((i : Int) < (length rows : Int))))] [] ?_)); refine cdE e26 ?_ ?_
  ·
   intro h28q e29; refine kpU [0, 1, 5, 6] [] [] [] ?_; refine AW.skip (seq (block (seq (r0U hC [0, 1, 5, 6, 19] [] [(19, .bool ((compareRows (getD rows i []) row) == 0))] [] [(0 ≤ (i : Int) ∧ (i : Int) < (length rows : Int)), (True)] ?_ ?_))))
   ·
    exact ⟨(by omega), trivial, trivial⟩
   refine cdE e29 ?_ ?_
   ·
    intro h30q e31; refine r0U hC [0, 1, 5, 6] [] [(5, .int .i64 ((n + 1 : Nat) : Int))] [] [(-9223372036854775808 ≤ ((n + 1 : Nat) : Int) ∧ ((n + 1 : Nat) : Int) ≤ 9223372036854775807)] ?_ ?_
    ·
     exact ⟨(by omega), trivial⟩
    refine r0U hC [0, 1, 5, 6] [] [(6, .int .i64 ((i + 1 : Nat) : Int))] [] [(-9223372036854775808 ≤ ((i + 1 : Nat) : Int) ∧ ((i + 1 : Nat) : Int) ≤ 9223372036854775807)] ?_ ?_
    ·
     exact ⟨(by omega), trivial⟩
    refine bk (n + 1, i + 1) e31 hk25 ?_ ?_
    · omega
    · omega
   ·
    intro h32q e33; refine kpU [0, 1, 5, 6] [] [] [] ?_; refine AW.skip (r0U hC [0, 1, 5, 6] [] [(6, .int .i64 ((i + 1 : Nat) : Int))] [] [(-9223372036854775808 ≤ ((i + 1 : Nat) : Int) ∧ ((i + 1 : Nat) : Int) ≤ 9223372036854775807)] ?_ ?_)
    ·
     exact ⟨(by omega), trivial⟩
    refine bk (n, i + 1) e33 hk25 ?_ ?_
    · omega
    · omega
  · intro h34q e35; refine kpU [5] [] [] [] ?_; refine exit ?_; refine meet n (by kernel_rfl) ⟨?_, e35⟩; trivial
 · intro n hJ0 e36; have e37 := e0.trans (then_eq e36); refine seq (r1 hC [4] [] ⟨[(4, .int .i64 (n : Int))], []⟩ ?_); exact ret (rS (.int .i64) e37)

end
end Go.Proofs.Ytjcjpeckfikfkaa
