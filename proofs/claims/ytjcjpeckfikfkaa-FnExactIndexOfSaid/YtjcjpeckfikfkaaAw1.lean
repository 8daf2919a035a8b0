/-
  A part of the proof of this claim (Aw1): what functions of the program compute, and plain facts of that. No conditions.
-/
import Derived.Test.YtjcjpeckfikfkaaAwT
set_option linter.all false
namespace Go.Proofs.Ytjcjpeckfikfkaa
open Go Go.Am
open Go.Am.AW (seq r1U ret kpU cdE r0U r1 meet block rS bk exit lpB r0 kp d0U)
open List (length getD)
noncomputable section

def inRange (n : Int) (low : Int) (high : Int) : Bool := (bif (decide (low ≤ n)) then (decide (n ≤ high)) else false)

def inRange_sp : FnSpec := mkSpec [.val (.int .i64), .val (.int .i64), .val (.int .i64)] [.val .bool] (fun (n : Int) (low : Int) (high : Int) => True) (fun (n : Int) (low : Int) (high : Int) => [⟨.bool, (inRange n low high)⟩])

theorem inRange_ok : FnOK Try.prog 64 inRange_sp := by
 have hC : CtxOK Try.prog (mkCtx tyL []) := CtxOK.nil tyOK; refine FnOK.of_body Try.func64 (by kernel_rfl) rfl (C := (mkCtx tyL [])) hC.ty (by kernel_rfl) ?_; intro (n : Int) (low : Int) (high : Int) hwf hpre E; have e0 : inRange n low high = inRange n low high := rfl; refine seq (r1U hC [0, 1, 2] [] [] [] ?_); refine seq (r0 hC [6] [] ⟨[(6, .bool (bif (decide (low ≤ n)) then (decide (n ≤ high)) else false))], []⟩ [(((decide (low ≤ n)) = true) → (((decide (low ≤ n)) = true))), (((decide (low ≤ n)) = true) → (((decide (low ≤ n)) = true))), (((decide (low ≤ n)) = true) → (((decide (low ≤ n)) = true)))] ?_ ?_)
 ·
  exact ⟨(by intro g1; assumption), (by intro g2; assumption), (by intro g3; assumption), trivial⟩
 exact ret (rS .bool e0)

def validWidth (width : Int) : Bool := (bif (decide (1 ≤ width)) then (decide (width ≤ 6)) else false)

def validWidth_sp : FnSpec := mkSpec [.val (.int .i64)] [.val .bool] (fun (width : Int) => True) (fun (width : Int) => [⟨.bool, (validWidth width)⟩])

theorem validWidth_ok : FnOK Try.prog 60 validWidth_sp := by
 have hC : CtxOK Try.prog (mkCtx tyL []) := CtxOK.nil tyOK; refine FnOK.of_body Try.func60 (by kernel_rfl) rfl (C := (mkCtx tyL [])) hC.ty (by kernel_rfl) ?_; intro (width : Int) hwf hpre E; have e0 : validWidth width = validWidth width := rfl; refine seq (r1U hC [0] [] [] [] ?_); refine seq (r0 hC [2] [] ⟨[(2, .bool (bif (decide (1 ≤ width)) then (decide (width ≤ 6)) else false))], []⟩ [(((decide (1 ≤ width)) = true) → (((decide (1 ≤ width)) = true))), (((decide (1 ≤ width)) = true) → (((decide (1 ≤ width)) = true)))] ?_ ?_)
 ·
  exact ⟨(by intro g1; assumption), (by intro g2; assumption), trivial⟩
 exact ret (rS .bool e0)

def valValid (v : Val) : Bool := (bif (Val.Null v) then ((Val.N v) == 0) else (bif (decide ((-9999) ≤ (Val.N v))) then (decide ((Val.N v) ≤ 9999)) else false))

def valValid_sp : FnSpec := mkSpec [.val (.named 1)] [.val .bool] (fun (v : Val) => True) (fun (v : Val) => [⟨.bool, (valValid v)⟩])

theorem valValid_ok : FnOK Try.prog 94 valValid_sp := by
 have hC : CtxOK Try.prog (mkCtx tyL []) := CtxOK.nil tyOK; refine FnOK.of_body Try.func94 (by kernel_rfl) rfl (C := (mkCtx tyL [])) hC.ty (by kernel_rfl) ?_; intro (v : Val) hwf hpre E; have e0 : valValid v = valValid v := rfl; refine seq (r1 hC [1] [4] ⟨[(1, .ref 4 1 0)], [(4, .box 1 [.bool (Val.Null v), .int .i64 (Val.N v)])]⟩ ?_); refine seq (seq (r1U hC [1, 4] [4] [(4, .bool (Val.Null v))] [] ?_)); refine cdE e0 ?_ ?_
 · intro h1q e2; refine seq (r1 hC [2] [] ⟨[(2, .bool ((Val.N v) == 0))], []⟩ ?_); exact ret (rS .bool e2)
 ·
  intro h3q e4; refine kpU [1] [4] [] [] ?_; refine AW.skip (seq (r0 hC [2] [] ⟨[(2, .bool (bif (decide ((-9999) ≤ (Val.N v))) then (decide ((Val.N v) ≤ 9999)) else false))], []⟩ [(((decide ((-9999) ≤ (Val.N v))) = true) → (((decide ((-9999) ≤ (Val.N v))) = true))), (((decide ((-9999) ≤ (Val.N v))) = true) → (((decide ((-9999) ≤ (Val.N v))) = true))), (((decide ((-9999) ≤ (Val.N v))) = true) → (((decide ((-9999) ≤ (Val.N v))) = true)))] ?_ ?_))
  ·
   exact ⟨(by intro g5; assumption), (by intro g6; assumption), (by intro g7; assumption), trivial⟩
  exact ret (rS .bool e4)

def validValue (v : Val) : Bool := (bif (inRange (Val.N v) (-9999) 9999) then (bif (!(Val.Null v)) then true else ((Val.N v) == 0)) else false)

def validValue_sp : FnSpec := mkSpec [.val (.named 1)] [.val .bool] (fun (v : Val) => True) (fun (v : Val) => [⟨.bool, (validValue v)⟩])

theorem validValue_ok : FnOK Try.prog 98 validValue_sp := by
 have hC : CtxOK Try.prog (mkCtx tyL [(64, inRange_sp)]) := CtxOK.cons inRange_ok (CtxOK.nil tyOK); refine FnOK.of_body Try.func98 (by kernel_rfl) rfl (C := (mkCtx tyL [(64, inRange_sp)])) hC.ty (by kernel_rfl) ?_; intro (v : Val) hwf hpre E; have e0 : validValue v = validValue v := rfl; refine seq (r1 hC [1] [4] ⟨[(1, .ref 4 1 0)], [(4, .box 1 [.bool (Val.Null v), .int .i64 (Val.N v)])]⟩ ?_); refine seq (r0 hC [2] [] ⟨[(2, .bool (bif (inRange (Val.N v) (-9999) 9999) then (bif (!(Val.Null v)) then true else ((Val.N v) == 0)) else false))], []⟩ [(True), (((inRange (Val.N v) (-9999) 9999) = true) → (((inRange (Val.N v) (-9999) 9999) = true))), (((inRange (Val.N v) (-9999) 9999) = true) → (((inRange (Val.N v) (-9999) 9999) = true))), (((inRange (Val.N v) (-9999) 9999) = true) → (((inRange (Val.N v) (-9999) 9999) = true))), ((((inRange (Val.N v) (-9999) 9999) = true) ∧ ((!(Val.Null v)) = false)) → ((((inRange (Val.N v) (-9999) 9999) = true) ∧ ((!(Val.Null v)) = false)))), ((((inRange (Val.N v) (-9999) 9999) = true) ∧ ((!(Val.Null v)) = false)) → ((((inRange (Val.N v) (-9999) 9999) = true) ∧ ((!(Val.Null v)) = false)))), (((inRange (Val.N v) (-9999) 9999) = true) → (((inRange (Val.N v) (-9999) 9999) = true))), (((inRange (Val.N v) (-9999) 9999) = true) → (((!(Val.Null v)) = false) → ((((inRange (Val.N v) (-9999) 9999) = true) ∧ ((!(Val.Null v)) = false))))), (((inRange (Val.N v) (-9999) 9999) = true) → (((inRange (Val.N v) (-9999) 9999) = true)))] ?_ ?_)
 ·
  exact ⟨trivial, (by intro g1; assumption), (by intro g2; assumption), (by intro g3; assumption), (by intro g4; assumption), (by intro g5; assumption), (by intro g6; assumption), (by intro g7; intro g8; exact ⟨by assumption, by assumption⟩), (by intro g9; assumption), trivial⟩
 exact ret (rS .bool e0)

def isNaN (x : Int) : Bool := (x != x)

def isNaN_sp : FnSpec := mkSpec [.val (.int .i64)] [.val .bool] (fun (x : Int) => True) (fun (x : Int) => [⟨.bool, (isNaN x)⟩])

theorem isNaN_ok : FnOK Try.prog 110 isNaN_sp := by
 have hC : CtxOK Try.prog (mkCtx tyL []) := CtxOK.nil tyOK; refine FnOK.of_body Try.func110 (by kernel_rfl) rfl (C := (mkCtx tyL [])) hC.ty (by kernel_rfl) ?_; intro (x : Int) hwf hpre E; have e0 : isNaN x = isNaN x := rfl; refine seq (r1U hC [0] [] [] [] ?_); refine seq (r1 hC [2] [] ⟨[(2, .bool (x != x))], []⟩ ?_); exact ret (rS .bool e0)

def compareInt (x : Int) (y : Int) : Int := (bif (isNaN x) then (bif (isNaN y) then 0 else (-1)) else (bif (isNaN y) then 1 else (bif (decide (x < y)) then (-1) else (bif (decide (y < x)) then 1 else 0))))

def compareInt_sp : FnSpec := mkSpec [.val (.int .i64), .val (.int .i64)] [.val (.int .i64)] (fun (x : Int) (y : Int) => True) (fun (x : Int) (y : Int) => [⟨(.int .i64), (compareInt x y)⟩])

theorem compareInt_ok : FnOK Try.prog 87 compareInt_sp := by
 have hC : CtxOK Try.prog (mkCtx tyL [(110, isNaN_sp)]) := CtxOK.cons isNaN_ok (CtxOK.nil tyOK); refine FnOK.of_body Try.func87 (by kernel_rfl) rfl (C := (mkCtx tyL [(110, isNaN_sp)])) hC.ty (by kernel_rfl) ?_; intro (x : Int) (y : Int) hwf hpre E; have e0 : compareInt x y = compareInt x y := rfl; refine seq (r1U hC [0, 1] [] [] [] ?_); refine seq (r0U hC [0, 1, 5] [] [(5, .bool (isNaN x))] [] [(True)] ?_ ?_)
 ·
  exact ⟨trivial, trivial⟩
 refine seq (r0U hC [0, 1, 5, 6] [] [(6, .bool (isNaN y))] [] [(True)] ?_ ?_)
 ·
  exact ⟨trivial, trivial⟩
 refine seq (seq (r1U hC [0, 1, 6, 11] [] [(11, .bool (isNaN x))] [] ?_)); refine cdE e0 ?_ ?_
 ·
  intro h1q e2; refine seq (seq (r1 hC [12] [] ⟨[(12, .bool (isNaN y))], []⟩ ?_)); refine cdE e2 ?_ ?_
  · intro h3q e4; refine seq (r1 hC [4] [] ⟨[(4, .int .i64 0)], []⟩ ?_); exact ret (rS (.int .i64) e4)
  · intro h5q e6; refine kp [] [] ⟨[], []⟩ ?_; refine AW.skip (seq (r1 hC [4] [] ⟨[(4, .int .i64 (-1))], []⟩ ?_)); exact ret (rS (.int .i64) e6)
 ·
  intro h7q e8; refine kpU [0, 1, 6] [] [] [] ?_; refine AW.skip (seq (seq (r1U hC [0, 1, 13] [] [(13, .bool (isNaN y))] [] ?_))); refine cdE e8 ?_ ?_
  · intro h9q e10; refine seq (r1 hC [4] [] ⟨[(4, .int .i64 1)], []⟩ ?_); exact ret (rS (.int .i64) e10)
  ·
   intro h11q e12; refine kpU [0, 1] [] [] [] ?_; refine AW.skip (seq (seq (r1U hC [0, 1, 16] [] [(16, .bool (decide (x < y)))] [] ?_))); refine cdE e12 ?_ ?_
   · intro h13q e14; refine seq (r1 hC [4] [] ⟨[(4, .int .i64 (-1))], []⟩ ?_); exact ret (rS (.int .i64) e14)
   ·
    intro h15q e16; refine kpU [0, 1] [] [] [] ?_; refine AW.skip (seq (seq (r1 hC [19] [] ⟨[(19, .bool (decide (y < x)))], []⟩ ?_))); refine cdE e16 ?_ ?_
    · intro h17q e18; refine seq (r1 hC [4] [] ⟨[(4, .int .i64 1)], []⟩ ?_); exact ret (rS (.int .i64) e18)
    · intro h19q e20; refine kp [] [] ⟨[], []⟩ ?_; refine AW.skip (seq (r1 hC [4] [] ⟨[(4, .int .i64 0)], []⟩ ?_)); exact ret (rS (.int .i64) e20)

def valCompare (v : Val) (w : Val) : Int := (bif (bif (Val.Null v) then (Val.Null w) else false) then 0 else (bif (Val.Null v) then (-1) else (bif (Val.Null w) then 1 else (compareInt (Val.N v) (Val.N w)))))

def valCompare_sp : FnSpec := mkSpec [.val (.named 1), .val (.named 1)] [.val (.int .i64)] (fun (v : Val) (w : Val) => True) (fun (v : Val) (w : Val) => [⟨(.int .i64), (valCompare v w)⟩])

theorem valCompare_ok : FnOK Try.prog 101 valCompare_sp := by
 have hC : CtxOK Try.prog (mkCtx tyL [(87, compareInt_sp)]) := CtxOK.cons compareInt_ok (CtxOK.nil tyOK); refine FnOK.of_body Try.func101 (by kernel_rfl) rfl (C := (mkCtx tyL [(87, compareInt_sp)])) hC.ty (by kernel_rfl) ?_; intro (v : Val) (w : Val) hwf hpre E; have e0 : valCompare v w = valCompare v w := rfl; refine seq (r1 hC [2, 3] [8, 12] ⟨[(2, .ref 8 1 0), (3, .ref 12 1 0)], [(8, .box 1 [.bool (Val.Null v), .int .i64 (Val.N v)]), (12, .box 1 [.bool (Val.Null w), .int .i64 (Val.N w)])]⟩ ?_); refine seq (block (seq (r0U hC [2, 3, 5] [8, 12] [(5, .bool (bif (Val.Null v) then (Val.Null w) else false))] [] [(((Val.Null v) = true) → (((Val.Null v) = true))), (((Val.Null v) = true) → (((Val.Null v) = true)))] ?_ ?_)))
 ·
  exact ⟨(by intro g1; assumption), (by intro g2; assumption), trivial⟩
 refine cdE e0 ?_ ?_
 · intro h3q e4; refine seq (r1 hC [4] [] ⟨[(4, .int .i64 0)], []⟩ ?_); exact ret (rS (.int .i64) e4)
 ·
  intro h5q e6; refine seq (r1U hC [2, 3, 12] [8, 12] [(12, .bool (Val.Null v))] [] ?_); refine cdE e6 ?_ ?_
  · intro h7q e8; refine seq (r1 hC [4] [] ⟨[(4, .int .i64 (-1))], []⟩ ?_); exact ret (rS (.int .i64) e8)
  ·
   intro h9q e10; refine seq (r1U hC [2, 3, 15] [8, 12] [(15, .bool (Val.Null w))] [] ?_); refine cdE e10 ?_ ?_
   · intro h11q e12; refine seq (r1 hC [4] [] ⟨[(4, .int .i64 1)], []⟩ ?_); exact ret (rS (.int .i64) e12)
   ·
    intro h13q e14; refine kpU [2, 3] [8, 12] [] [] ?_; refine AW.skip (seq (r0 hC [4] [] ⟨[(4, .int .i64 (compareInt (Val.N v) (Val.N w)))], []⟩ [(True)] ?_ ?_))
    ·
     exact ⟨trivial, trivial⟩
    exact ret (rS (.int .i64) e14)

def compareValues (a : Val) (b : Val) : Int := (bif (bif ((Val.Null a) == (Val.Null b)) then (bif ((Val.N a) == (Val.N b)) then true else false) else false) then 0 else (bif (bif (Val.Null a) then true else (bif (!(Val.Null b)) then (decide ((Val.N a) < (Val.N b))) else false)) then (-1) else 1))

def compareValues_sp : FnSpec := mkSpec [.val (.named 1), .val (.named 1)] [.val (.int .i64)] (fun (a : Val) (b : Val) => True) (fun (a : Val) (b : Val) => [⟨(.int .i64), (compareValues a b)⟩])

theorem compareValues_ok : FnOK Try.prog 114 compareValues_sp := by
 have hC : CtxOK Try.prog (mkCtx tyL []) := CtxOK.nil tyOK; refine FnOK.of_body Try.func114 (by kernel_rfl) rfl (C := (mkCtx tyL [])) hC.ty (by kernel_rfl) ?_; intro (a : Val) (b : Val) hwf hpre E; have e0 : compareValues a b = compareValues a b := rfl; refine seq (r1 hC [2, 3] [8, 12] ⟨[(2, .ref 8 1 0), (3, .ref 12 1 0)], [(8, .box 1 [.bool (Val.Null a), .int .i64 (Val.N a)]), (12, .box 1 [.bool (Val.Null b), .int .i64 (Val.N b)])]⟩ ?_); refine seq (block (seq (r1U hC [2, 3, 5] [8, 12] [(5, .bool (bif ((Val.Null a) == (Val.Null b)) then (bif ((Val.N a) == (Val.N b)) then true else false) else false))] [] ?_))); refine cdE e0 ?_ ?_
 · intro h1q e2; refine seq (r1 hC [4] [] ⟨[(4, .int .i64 0)], []⟩ ?_); exact ret (rS (.int .i64) e2)
 ·
  intro h3q e4; refine seq (r0 hC [9] [] ⟨[(9, .bool (bif (Val.Null a) then true else (bif (!(Val.Null b)) then (decide ((Val.N a) < (Val.N b))) else false)))], []⟩ [(((Val.Null a) = false) → (((Val.Null a) = false))), (((Val.Null a) = false) → (((Val.Null a) = false))), (((Val.Null a) = false) → (((Val.Null a) = false))), ((((Val.Null a) = false) ∧ ((!(Val.Null b)) = true)) → ((((Val.Null a) = false) ∧ ((!(Val.Null b)) = true)))), ((((Val.Null a) = false) ∧ ((!(Val.Null b)) = true)) → ((((Val.Null a) = false) ∧ ((!(Val.Null b)) = true)))), ((((Val.Null a) = false) ∧ ((!(Val.Null b)) = true)) → ((((Val.Null a) = false) ∧ ((!(Val.Null b)) = true)))), ((((Val.Null a) = false) ∧ ((!(Val.Null b)) = true)) → ((((Val.Null a) = false) ∧ ((!(Val.Null b)) = true)))), (((Val.Null a) = false) → (((Val.Null a) = false))), (((Val.Null a) = false) → (((!(Val.Null b)) = true) → ((((Val.Null a) = false) ∧ ((!(Val.Null b)) = true))))), (((Val.Null a) = false) → (((Val.Null a) = false)))] ?_ ?_)
  ·
   exact ⟨(by intro g5; assumption), (by intro g6; assumption), (by intro g7; assumption), (by intro g8; assumption), (by intro g9; assumption), (by intro g10; assumption), (by intro g11; assumption), (by intro g12; assumption), (by intro g13; intro g14; exact ⟨by assumption, by assumption⟩), (by intro g15; assumption), trivial⟩
  refine cdE e4 ?_ ?_
  · intro h16q e17; refine seq (r1 hC [4] [] ⟨[(4, .int .i64 (-1))], []⟩ ?_); exact ret (rS (.int .i64) e17)
  · intro h18q e19; refine kp [] [] ⟨[], []⟩ ?_; refine AW.skip (seq (r1 hC [4] [] ⟨[(4, .int .i64 1)], []⟩ ?_)); exact ret (rS (.int .i64) e19)

def ivalidRow_l0 (row : List Val) : Nat → Nat → Unit ⊕ Bool
 | 0, v11 => .inl ()
 | k + 1, v11 => (bif (decide ((v11 : Int) < (length row : Int))) then (bif (!(valValid (getD row v11 Val.zero))) then (.inr false) else (ivalidRow_l0 row k (v11 + 1))) else (.inl ()))

def ivalidRow (row : List Val) : Bool := (bif (!(validWidth (length row : Int))) then false else (Sum.elim (fun _ => true) (fun r => r) (ivalidRow_l0 row ((length row) - 0 + 1) 0)))

def ivalidRow_sp : FnSpec := mkSpec [.val (.slice (.named 1))] [.val .bool] (fun (row : List Val) => True) (fun (row : List Val) => [⟨.bool, (ivalidRow row)⟩])

theorem ivalidRow_ok : FnOK Try.prog 61 ivalidRow_sp := by
 have hC : CtxOK Try.prog (mkCtx tyL [(60, validWidth_sp), (94, valValid_sp)]) := CtxOK.cons validWidth_ok (CtxOK.cons valValid_ok (CtxOK.nil tyOK)); refine FnOK.of_body Try.func61 (by kernel_rfl) rfl (C := (mkCtx tyL [(60, validWidth_sp), (94, valValid_sp)])) hC.ty (by kernel_rfl) ?_; intro (row : List Val) hwf hpre E; have hw_row : Wf ⟨(.slice (.named 1)), (row : List Val)⟩ := hwf _ (List.Mem.head _); have hl_row : (length row : Int) ≤ 9223372036854775807 := hw_row.len; have e0 : ivalidRow row = ivalidRow row := rfl; refine seq (r1U hC [0] [] [] [] ?_); refine seq (seq (r0U hC [0, 8] [] [(8, .bool (!(validWidth (length row : Int))))] [] [(True)] ?_ ?_))
 ·
  exact ⟨trivial, trivial⟩
 refine cdE e0 ?_ ?_
 · intro h1q e2; refine seq (r1 hC [2] [] ⟨[(2, .bool false)], []⟩ ?_); exact ret (rS .bool e2)
 ·
  intro h3q e4; refine kpU [0] [] [] [] ?_; refine AW.skip (seq (seq (r1 hC [9, 10, 11] [] ⟨[(9, .data (.slice (.named 1)) (row : List Val)), (10, .int .i64 (length row : Int)), (11, .int .i64 0)], []⟩ ?_))); refine lpB (ζ := Unit) (fun x => ⟨[], []⟩) (fun x => True) (fun x => (.inl ())) (α := Nat) (fun x => ⟨[(9, .data (.slice (.named 1)) (row : List Val)), (10, .int .i64 (length row : Int)), (11, .int .i64 (x : Int))], []⟩) (fun x => True) (fun x => (length row) - x) (fun k x => ivalidRow_l0 row k x) 0 (by kernel_rfl) ?_ ?_ ?_
  · exact trivial
  ·
   intro v11 k34q hI0 hk32 e33; refine seq (r1U hC [9, 10, 11, 12] [] [(12, .bool (decide ((v11 : Int) < (length row : Int))))] [] ?_); refine seq (cdE e33 ?_ ?_)
   ·
    intro h35q e36; refine kpU [9, 10, 11] [] [] [] ?_; refine AW.skip (seq (block (seq (r0U hC [4, 9, 10, 11] [16] [(4, .ref 16 1 0)] [(16, .box 1 [.bool (Val.Null (getD row v11 Val.zero)), .int .i64 (Val.N (getD row v11 Val.zero))])] [(0 ≤ (v11 : Int) ∧ (v11 : Int) < (length row : Int))] ?_ ?_))))
    ·
     exact ⟨(by omega), trivial⟩
    refine seq (r0U hC [9, 10, 11, 17] [] [(17, .bool (!(valValid (getD row v11 Val.zero))))] [] [(True)] ?_ ?_)
    ·
     exact ⟨trivial, trivial⟩
    refine cdE e36 ?_ ?_
    · intro h37q e38; refine seq (r1 hC [2] [] ⟨[(2, .bool false)], []⟩ ?_); refine ret ?_; have e39 := e4.trans (elim_r e38); exact rS .bool e39
    ·
     intro h40q e41; refine kpU [9, 10, 11] [] [] [] ?_; refine AW.skip (r0U hC [9, 10, 11] [] [(11, .int .i64 ((v11 + 1 : Nat) : Int))] [] [(-9223372036854775808 ≤ ((v11 + 1 : Nat) : Int) ∧ ((v11 + 1 : Nat) : Int) ≤ 9223372036854775807)] ?_ ?_)
     ·
      exact ⟨(by omega), trivial⟩
     refine bk (v11 + 1) e41 hk32 ?_ ?_
     · assumption
     · omega
   · intro h42q e43; refine kp [] [] ⟨[], []⟩ ?_; refine exit ?_; refine meet () (by kernel_rfl) ⟨?_, e43⟩; assumption
  · intro x hJ0 e44; have e45 := e4.trans (elim_l e44); refine seq (r1 hC [2] [] ⟨[(2, .bool true)], []⟩ ?_); exact ret (rS .bool e45)

def validRow_l0 (row : List Val) : Nat → Nat → Unit ⊕ Bool
 | 0, i => .inl ()
 | k + 1, i => (bif (decide ((i : Int) < (length row : Int))) then (bif (!(validValue (getD row i Val.zero))) then (.inr false) else (validRow_l0 row k (i + 1))) else (.inl ()))

def validRow (row : List Val) : Bool := (Sum.elim (fun _ => (inRange (length row : Int) 1 6)) (fun r => r) (validRow_l0 row ((length row) - 0 + 1) 0))

def validRow_sp : FnSpec := mkSpec [.val (.slice (.named 1))] [.val .bool] (fun (row : List Val) => True) (fun (row : List Val) => [⟨.bool, (validRow row)⟩])

theorem validRow_ok : FnOK Try.prog 65 validRow_sp := by
 have hC : CtxOK Try.prog (mkCtx tyL [(64, inRange_sp), (98, validValue_sp)]) := CtxOK.cons inRange_ok (CtxOK.cons validValue_ok (CtxOK.nil tyOK)); refine FnOK.of_body Try.func65 (by kernel_rfl) rfl (C := (mkCtx tyL [(64, inRange_sp), (98, validValue_sp)])) hC.ty (by kernel_rfl) ?_; intro (row : List Val) hwf hpre E; have hw_row : Wf ⟨(.slice (.named 1)), (row : List Val)⟩ := hwf _ (List.Mem.head _); have hl_row : (length row : Int) ≤ 9223372036854775807 := hw_row.len; have e0 : validRow row = validRow row := rfl; refine seq (r1U hC [0] [] [] [] ?_); refine seq (seq (r1U hC [0, 3] [] [(3, .int .i64 0)] [] ?_)); refine lpB (ζ := Unit) (fun x => ⟨[(0, .data (.slice (.named 1)) (row : List Val))], []⟩) (fun x => True) (fun x => (.inl ())) (α := Nat) (fun x => ⟨[(0, .data (.slice (.named 1)) (row : List Val)), (3, .int .i64 (x : Int))], []⟩) (fun x => True) (fun x => (length row) - x) (fun k x => validRow_l0 row k x) 0 (by kernel_rfl) ?_ ?_ ?_
 · exact trivial
 ·
  intro i k30q hI0 hk28 e29; refine seq (seq (r1U hC [0, 3, 7] [] [(7, .bool (decide ((i : Int) < (length row : Int))))] [] ?_)); refine cdE e29 ?_ ?_
  ·
   intro h31q e32; refine kpU [0, 3] [] [] [] ?_; refine AW.skip (seq (block (seq (r0U hC [0, 3, 15] [] [(15, .bool (!(validValue (getD row i Val.zero))))] [] [(0 ≤ (i : Int) ∧ (i : Int) < (length row : Int)), (True)] ?_ ?_))))
   ·
    exact ⟨(by omega), trivial, trivial⟩
   refine cdE e32 ?_ ?_
   · intro h33q e34; refine seq (r1 hC [2] [] ⟨[(2, .bool false)], []⟩ ?_); refine ret ?_; have e35 := e0.trans (elim_r e34); exact rS .bool e35
   ·
    intro h36q e37; refine kpU [0, 3] [] [] [] ?_; refine AW.skip (r0U hC [0, 3] [] [(3, .int .i64 ((i + 1 : Nat) : Int))] [] [(-9223372036854775808 ≤ ((i + 1 : Nat) : Int) ∧ ((i + 1 : Nat) : Int) ≤ 9223372036854775807)] ?_ ?_)
    ·
     exact ⟨(by omega), trivial⟩
    refine bk (i + 1) e37 hk28 ?_ ?_
    · assumption
    · omega
  · intro h38q e39; refine kpU [0] [] [] [] ?_; refine exit ?_; refine meet () (by kernel_rfl) ⟨?_, e39⟩; assumption
 ·
  intro x hJ0 e40; have e41 := e0.trans (elim_l e40); refine seq (r0 hC [2] [] ⟨[(2, .bool (inRange (length row : Int) 1 6))], []⟩ [(True)] ?_ ?_)
  ·
   exact ⟨trivial, trivial⟩
  exact ret (rS .bool e41)

def icompareRows_l0 (a : List Val) (b : List Val) : Nat → Nat → Unit ⊕ Int
 | 0, v13 => .inl ()
 | k + 1, v13 => (bif (decide ((v13 : Int) < (length a : Int))) then (bif (decide ((length b : Int) ≤ (v13 : Int))) then (.inr 1) else (bif ((valCompare (getD a v13 Val.zero) (getD b v13 Val.zero)) != 0) then (.inr (valCompare (getD a v13 Val.zero) (getD b v13 Val.zero))) else (icompareRows_l0 a b k (v13 + 1)))) else (.inl ()))

def icompareRows_c0 (a : List Val) (b : List Val) : Int :=
 (Sum.elim (fun _ => (bif (decide ((length a : Int) < (length b : Int))) then (-1) else 0)) (fun r => r) (icompareRows_l0 a b ((length a) - 0 + 1) 0))

def icompareRows (a : List Val) (b : List Val) : Int := (andThen (icompareRows_c0 a b) (fun z => (fun (v7 : Int) => v7) z))

def icompareRows_sp : FnSpec := mkSpec [.val (.slice (.named 1)), .val (.slice (.named 1))] [.val (.int .i64)] (fun (a : List Val) (b : List Val) => True) (fun (a : List Val) (b : List Val) => [⟨(.int .i64), (icompareRows a b)⟩])

theorem icompareRows_ok : FnOK Try.prog 68 icompareRows_sp := by
 have hC : CtxOK Try.prog (mkCtx tyL [(101, valCompare_sp)]) := CtxOK.cons valCompare_ok (CtxOK.nil tyOK); have hC1 := hC.rebase 1000; refine FnOK.of_body Try.func68 (by kernel_rfl) rfl (C := (mkCtx tyL [(101, valCompare_sp)])) hC.ty (by kernel_rfl) ?_; intro (a : List Val) (b : List Val) hwf hpre E; have hw_a : Wf ⟨(.slice (.named 1)), (a : List Val)⟩ := hwf _ (List.Mem.head _); have hl_a : (length a : Int) ≤ 9223372036854775807 := hw_a.len; have hw_b : Wf ⟨(.slice (.named 1)), (b : List Val)⟩ := hwf _ (List.Mem.tail _ (List.Mem.head _)); have hl_b : (length b : Int) ≤ 9223372036854775807 := hw_b.len; have e0 : icompareRows a b = icompareRows a b := rfl; refine seq (r1U hC [0, 1] [] [] [] ?_); refine seq (AW.regionO [0, 1, 2, 3] (by rfl) ?_)
 refine AWO.run hC false [] [0, 1] [2, 3] [5, 6] []
  ⟨[(5, .data (.slice (.named 1)) (a : List Val)), (6, .data (.slice (.named 1)) (b : List Val))], []⟩
  [] (by rfl) (by kernel_rfl) ?_ ?_
 · exact trivial
 refine AWO.callJ hC.ty [7] [] (α := Int) (fun x => ⟨[(7, .int .i64 x)], []⟩) (fun x => (True) ∧ (icompareRows_c0 a b) = x) (vs := [.data (.slice (.named 1)) (a : List Val), .data (.slice (.named 1)) (b : List Val), .clo 101 []]) (caps := []) (by rfl) rfl (.inl rfl) (by decide) (by kernel_rfl) (by kernel_rfl) Try.func100 (by kernel_rfl) rfl (by kernel_rfl) ?_ ?_
 ·
  intro o1 ho1; have e123 : (icompareRows_c0 a b) = (icompareRows_c0 a b) := rfl; refine kpU [0, 1, 2] [] [] [] ?_; refine seq (r1U hC1 [0, 1, 2] [] [] [] ?_); refine seq (seq (r1U hC1 [0, 1, 2, 11, 12, 13] [] [(11, .data (.slice (.named 1)) (a : List Val)), (12, .int .i64 (length a : Int)), (13, .int .i64 0)] [] ?_)); refine lpB (ζ := Unit) (fun x => ⟨[(0, .data (.slice (.named 1)) (a : List Val)), (1, .data (.slice (.named 1)) (b : List Val))], []⟩) (fun x => True) (fun x => (.inl ())) (α := Nat) (fun x => ⟨[(0, .data (.slice (.named 1)) (a : List Val)), (1, .data (.slice (.named 1)) (b : List Val)), (2, .clo 101 []), (11, .data (.slice (.named 1)) (a : List Val)), (12, .int .i64 (length a : Int)), (13, .int .i64 (x : Int))], []⟩) (fun x => True) (fun x => (length a) - x) (fun k x => icompareRows_l0 a b k x) 0 (by kernel_rfl) ?_ ?_ ?_
  · exact trivial
  ·
   intro v13 k168q hI0 hk166 e167; refine seq (r1U hC1 [0, 1, 2, 11, 12, 13, 14] [] [(14, .bool (decide ((v13 : Int) < (length a : Int))))] [] ?_); refine seq (cdE e167 ?_ ?_)
   ·
    intro h169q e170; refine kpU [0, 1, 2, 11, 12, 13] [] [] [] ?_; refine AW.skip (seq (block (seq (r0U hC1 [0, 1, 2, 7, 8, 11, 12, 13] [4032] [(7, .int .i64 (v13 : Int)), (8, .ref 4032 1 0)] [(4032, .box 1 [.bool (Val.Null (getD a v13 Val.zero)), .int .i64 (Val.N (getD a v13 Val.zero))])] [(0 ≤ (v13 : Int) ∧ (v13 : Int) < (length a : Int))] ?_ ?_))))
    ·
     exact ⟨(by omega), trivial⟩
    refine seq (seq (r1U hC1 [0, 1, 2, 7, 8, 11, 12, 13, 21] [4032] [(21, .bool (decide ((length b : Int) ≤ (v13 : Int))))] [] ?_)); refine cdE e170 ?_ ?_
    · intro h171q e172; refine seq (r1 hC1 [6] [] ⟨[(6, .int .i64 1)], []⟩ ?_); refine ret ?_; have e173 := e123.trans (elim_r e172); refine ⟨1, [.int .i64 1], by kernel_rfl, by kernel_rfl, ?_, e173⟩; exact trivial
    ·
     intro h174q e175; refine kpU [0, 1, 2, 7, 8, 11, 12, 13] [4032] [] [] ?_; refine AW.skip (seq (r0U hC1 [0, 1, 2, 8, 9, 11, 12, 13] [4032, 4036] [(9, .ref 4036 1 0)] [(4036, .box 1 [.bool (Val.Null (getD b v13 Val.zero)), .int .i64 (Val.N (getD b v13 Val.zero))])] [(0 ≤ (v13 : Int) ∧ (v13 : Int) < (length b : Int))] ?_ ?_))
     ·
      exact ⟨(by omega), trivial⟩
     refine seq (r0U hC1 [0, 1, 2, 10, 11, 12, 13] [] [(10, .int .i64 (valCompare (getD a v13 Val.zero) (getD b v13 Val.zero)))] [] [(True)] ?_ ?_)
     ·
      exact ⟨trivial, trivial⟩
     refine seq (r1U hC1 [0, 1, 2, 10, 11, 12, 13, 31] [] [(31, .bool ((valCompare (getD a v13 Val.zero) (getD b v13 Val.zero)) != 0))] [] ?_); refine cdE e175 ?_ ?_
     · intro h176q e177; refine seq (r1 hC1 [6] [] ⟨[(6, .int .i64 (valCompare (getD a v13 Val.zero) (getD b v13 Val.zero)))], []⟩ ?_); refine ret ?_; have e178 := e123.trans (elim_r e177); refine ⟨(valCompare (getD a v13 Val.zero) (getD b v13 Val.zero)), [.int .i64 (valCompare (getD a v13 Val.zero) (getD b v13 Val.zero))], by kernel_rfl, by kernel_rfl, ?_, e178⟩; exact trivial
     ·
      intro h179q e180; refine kpU [0, 1, 2, 11, 12, 13] [] [] [] ?_; refine AW.skip (r0U hC1 [0, 1, 2, 11, 12, 13] [] [(13, .int .i64 ((v13 + 1 : Nat) : Int))] [] [(-9223372036854775808 ≤ ((v13 + 1 : Nat) : Int) ∧ ((v13 + 1 : Nat) : Int) ≤ 9223372036854775807)] ?_ ?_)
      ·
       exact ⟨(by omega), trivial⟩
      refine bk (v13 + 1) e180 hk166 ?_ ?_
      · assumption
      · omega
   · intro h181q e182; refine kpU [0, 1] [] [] [] ?_; refine exit ?_; refine meet () (by kernel_rfl) ⟨?_, e182⟩; assumption
  ·
   intro x hJ0 e183; have e184 := e123.trans (elim_l e183); refine seq (seq (r1 hC1 [38] [] ⟨[(38, .bool (decide ((length a : Int) < (length b : Int))))], []⟩ ?_)); refine cdE e184 ?_ ?_
   · intro h185q e186; refine seq (r1 hC1 [6] [] ⟨[(6, .int .i64 (-1))], []⟩ ?_); refine ret ?_; refine ⟨(-1), [.int .i64 (-1)], by kernel_rfl, by kernel_rfl, ?_, e186⟩; exact trivial
   · intro h187q e188; refine kp [] [] ⟨[], []⟩ ?_; refine AW.skip (seq (r1 hC1 [6] [] ⟨[(6, .int .i64 0)], []⟩ ?_)); refine ret ?_; refine ⟨0, [.int .i64 0], by kernel_rfl, by kernel_rfl, ?_, e188⟩; exact trivial
 ·
  intro v7 hR; obtain ⟨hK0, e189⟩ := hR; have e190 := e0.trans (then_eq e189)
  refine AWO.run hC false [] [3] [] [4] []
   ⟨[(4, .int .i64 v7)], []⟩
   [] (by rfl) (by kernel_rfl) ?_ ?_
  · exact trivial
  refine AWO.nil ?_; exact ret (rS (.int .i64) e190)

def compareRows_l0 (a : List Val) (b : List Val) : Nat → Nat → Unit ⊕ Int
 | 0, i => .inl ()
 | k + 1, i => (bif (bif (decide ((i : Int) < (length a : Int))) then (decide ((i : Int) < (length b : Int))) else false) then (bif ((compareValues (getD a i Val.zero) (getD b i Val.zero)) != 0) then (.inr (compareValues (getD a i Val.zero) (getD b i Val.zero))) else (compareRows_l0 a b k (i + 1))) else (.inl ()))

def compareRows (a : List Val) (b : List Val) : Int := (Sum.elim (fun _ => ((length a : Int) - (length b : Int))) (fun r => r) (compareRows_l0 a b (length a - 0 + 1) 0))

def compareRows_sp : FnSpec := mkSpec [.val (.slice (.named 1)), .val (.slice (.named 1))] [.val (.int .i64)] (fun (a : List Val) (b : List Val) => True) (fun (a : List Val) (b : List Val) => [⟨(.int .i64), (compareRows a b)⟩])

theorem compareRows_ok : FnOK Try.prog 106 compareRows_sp := by
 have hC : CtxOK Try.prog (mkCtx tyL [(114, compareValues_sp)]) := CtxOK.cons compareValues_ok (CtxOK.nil tyOK); have hM : Try.prog.follows .mixedOrders = true := Try.checked.mixed; refine FnOK.of_body Try.func106 (by kernel_rfl) rfl (C := (mkCtx tyL [(114, compareValues_sp)])) hC.ty (by kernel_rfl) ?_; intro (a : List Val) (b : List Val) hwf hpre E; have hpre : True := hpre; have hw_a : Wf ⟨(.slice (.named 1)), (a : List Val)⟩ := hwf _ (List.Mem.head _); have hl_a : (length a : Int) ≤ 9223372036854775807 := hw_a.len; have hw_b : Wf ⟨(.slice (.named 1)), (b : List Val)⟩ := hwf _ (List.Mem.tail _ (List.Mem.head _)); have hl_b : (length b : Int) ≤ 9223372036854775807 := hw_b.len; have e0 : compareRows a b = compareRows a b := rfl; refine seq (r1U hC [0, 1] [] [] [] ?_); refine seq (seq (r1U hC [0, 1, 5] [] [(5, .int .i64 0)] [] ?_)); refine lpB (ζ := Unit) (fun x => ⟨[(0, .data (.slice (.named 1)) (a : List Val)), (1, .data (.slice (.named 1)) (b : List Val))], []⟩) (fun x => True) (fun x => (.inl ())) (α := Nat) (fun x => ⟨[(0, .data (.slice (.named 1)) (a : List Val)), (1, .data (.slice (.named 1)) (b : List Val)), (5, .int .i64 (x : Int))], []⟩) (fun x => True) (fun x => length a - x) (fun k x => compareRows_l0 a b k x) 0 (by kernel_rfl) ?_ ?_ ?_
 · exact trivial
 ·
  intro i k30q hI0 hk28 e29; refine seq (seq (r0U hC [0, 1, 5, 16] [] [(16, .bool (bif (decide ((i : Int) < (length a : Int))) then (decide ((i : Int) < (length b : Int))) else false))] [] [(((decide ((i : Int) < (length a : Int))) = true) → (((decide ((i : Int) < (length a : Int))) = true))), (((decide ((i : Int) < (length a : Int))) = true) → (((decide ((i : Int) < (length a : Int))) = true))), (((decide ((i : Int) < (length a : Int))) = true) → (((decide ((i : Int) < (length a : Int))) = true))), (((decide ((i : Int) < (length a : Int))) = true) → (((decide ((i : Int) < (length a : Int))) = true)))] ?_ ?_))
  ·
   exact ⟨(by intro g31; assumption), (by intro g32; assumption), (by intro g33; assumption), (by intro g34; assumption), trivial⟩
  refine cdE e29 ?_ ?_
  ·
   intro h35q e36; refine kpU [0, 1, 5] [] [] [] ?_; refine AW.skip (seq (block (seq (d0U hC hM [0, 1, 5, 6] [] [(6, .int .i64 (compareValues (getD a i Val.zero) (getD b i Val.zero)))] [] [(0 ≤ (i : Int) ∧ (i : Int) < (length a : Int)), (0 ≤ (i : Int) ∧ (i : Int) < (length b : Int)), (True)] ?_ ?_))))
   ·
    exact ⟨(by omega), (by omega), trivial, trivial⟩
   refine seq (r1U hC [0, 1, 5, 6, 29] [] [(29, .bool ((compareValues (getD a i Val.zero) (getD b i Val.zero)) != 0))] [] ?_); refine cdE e36 ?_ ?_
   · intro h37q e38; refine seq (r1 hC [4] [] ⟨[(4, .int .i64 (compareValues (getD a i Val.zero) (getD b i Val.zero)))], []⟩ ?_); refine ret ?_; have e39 := e0.trans (elim_r e38); exact rS (.int .i64) e39
   ·
    intro h40q e41; refine kpU [0, 1, 5] [] [] [] ?_; refine AW.skip (r0U hC [0, 1, 5] [] [(5, .int .i64 ((i + 1 : Nat) : Int))] [] [(-9223372036854775808 ≤ ((i + 1 : Nat) : Int) ∧ ((i + 1 : Nat) : Int) ≤ 9223372036854775807)] ?_ ?_)
    ·
     exact ⟨(by omega), trivial⟩
    refine bk (i + 1) e41 hk28 ?_ ?_
    · assumption
    · omega
  · intro h42q e43; refine kpU [0, 1] [] [] [] ?_; refine exit ?_; refine meet () (by kernel_rfl) ⟨?_, e43⟩; assumption
 ·
  intro x hJ0 e44; have e45 := e0.trans (elim_l e44); refine seq (r0 hC [4] [] ⟨[(4, .int .i64 ((length a : Int) - (length b : Int)))], []⟩ [(-9223372036854775808 ≤ ((length a : Int) - (length b : Int)) ∧ ((length a : Int) - (length b : Int)) ≤ 9223372036854775807)] ?_ ?_)
  ·
   exact ⟨(by omega), trivial⟩
  exact ret (rS (.int .i64) e45)

end
end Go.Proofs.Ytjcjpeckfikfkaa
