/-
  A part of the proof of this claim (AwN): what functions of the program compute, and plain facts of that. No conditions.
-/
import Derived.Test.YtjcjpeckfikfkaaAwL
set_option linter.all false
namespace Go.Proofs.Ytjcjpeckfikfkaa
open Go Go.Am
open Go.Am.AW (seq r1U ret kpU cdE r0U r1 meet block rS bk exit lpB d0U)
open List (length getD drop)
noncomputable section

def iCountRow_l0 (t : Tab) (row : List Val) : Nat → Int → Int → Int
 | 0, i1, j1 => i1
 | k + 1, i1, j1 => (bif (decide (i1 < j1)) then (bif (decide ((icompareRows (getD (Tab.Rows t) (Int.toNat ((i1 + j1) / 2 ^ 1)) []) row) < 0)) then (iCountRow_l0 t row k (((i1 + j1) / 2 ^ 1) + 1) j1) else (iCountRow_l0 t row k i1 ((i1 + j1) / 2 ^ 1))) else i1)

def iCountRow_l1 (t : Tab) (row : List Val) (i1 : Int) : Nat → Nat → Nat → Nat
 | 0, count, v35 => count
 | k + 1, count, v35 => (bif (decide ((v35 : Int) < (length (drop (Int.toNat i1) (Tab.Rows t)) : Int))) then (bif ((icompareRows (getD (drop (Int.toNat i1) (Tab.Rows t)) v35 []) row) != 0) then count else (iCountRow_l1 t row i1 k (count + 1) (v35 + 1))) else count)

def iCountRow (t : Tab) (row : List Val) : Int := (bif (!(ValidTable t)) then (-1) else (bif (bif ((length row : Int) != (Tab.Width t)) then true else (!(ivalidRow row))) then 0 else (andThen (iCountRow_l0 t row (Int.toNat ((length (Tab.Rows t) : Int) - 0) + 1) 0 (length (Tab.Rows t) : Int)) (fun z => (fun (i1 : Int) => (andThen (iCountRow_l1 t row i1 ((length (drop (Int.toNat i1) (Tab.Rows t))) - 0 + 1) 0 0) (fun z => (fun (count : Nat) => (count : Int)) z))) z))))

def iCountRow_sp : FnSpec := mkSpec [.val (.named 2), .val (.slice (.named 1))] [.val (.int .i64)] (fun (t : Tab) (row : List Val) => True) (fun (t : Tab) (row : List Val) => [⟨(.int .i64), (iCountRow t row)⟩])

theorem iCountRow_ok : FnOK Try.prog 28 iCountRow_sp := by
 have hC : CtxOK Try.prog (mkCtx tyL [(19, ValidTable_sp), (61, ivalidRow_sp), (68, icompareRows_sp)]) := CtxOK.cons ValidTable_ok (CtxOK.cons ivalidRow_ok (CtxOK.cons icompareRows_ok (CtxOK.nil tyOK))); have hC1 := hC.rebase 1000; refine FnOK.of_body Try.func28 (by kernel_rfl) rfl (C := (mkCtx tyL [(19, ValidTable_sp), (61, ivalidRow_sp), (68, icompareRows_sp)])) hC.ty (by kernel_rfl) ?_; intro (t : Tab) (row : List Val) hwf hpre E; have e0 : iCountRow t row = iCountRow t row := rfl; refine seq (r1U hC [1, 2] [8] [(2, .ref 8 1 0)] [(8, .box 1 [.int .i64 (Tab.Width t), .data (.slice (.slice (.named 1))) ((Tab.Rows t) : List (List Val))])] ?_); refine seq (seq (r0U hC [1, 2, 12] [8] [(12, .bool (!(ValidTable t)))] [] [(True)] ?_ ?_))
 ·
  exact ⟨trivial, trivial⟩
 refine cdE e0 ?_ ?_
 · intro h1q e2; refine seq (r1 hC [4] [] ⟨[(4, .int .i64 (-1))], []⟩ ?_); exact ret (rS (.int .i64) e2)
 ·
  intro h3q e4; refine kpU [1, 2] [8] [] [] ?_; refine AW.skip (seq (seq ?_)); have hn4 := (ValidTable_iff.1 h3q).n4; refine r0U hC [1, 2, 22] [8] [(22, .bool (bif ((length row : Int) != (Tab.Width t)) then true else (!(ivalidRow row))))] [] [((((length row : Int) != (Tab.Width t)) = false) → ((((length row : Int) != (Tab.Width t)) = false))), ((((length row : Int) != (Tab.Width t)) = false) → (True)), ((((length row : Int) != (Tab.Width t)) = false) → ((((length row : Int) != (Tab.Width t)) = false))), ((((length row : Int) != (Tab.Width t)) = false) → ((((length row : Int) != (Tab.Width t)) = false)))] ?_ ?_
  ·
   exact ⟨(by intro g5; assumption), (by intro g6; trivial), (by intro g7; assumption), (by intro g8; assumption), trivial⟩
  refine cdE e4 ?_ ?_
  · intro h9q e10; refine seq (r1 hC [4] [] ⟨[(4, .int .i64 0)], []⟩ ?_); exact ret (rS (.int .i64) e10)
  ·
   intro h11q e12; refine kpU [1, 2] [8] [] [] ?_; refine AW.skip (seq (AW.regionO [0, 1, 2, 3, 4, 5, 6, 7, 8] (by rfl) ?_))
   refine AWO.runU hC false [] [0, 1, 2] [3, 4, 5, 6, 7, 8] [1, 2, 25, 26] [8]
    [(25, .data (.slice (.slice (.named 1))) ((Tab.Rows t) : List (List Val))), (26, .data (.slice (.named 1)) (row : List Val))] []
    [] (by rfl) (by kernel_rfl) ?_ ?_
   · exact trivial
   refine AWO.call hC.ty (vs := [.data (.slice (.slice (.named 1))) ((Tab.Rows t) : List (List Val)), .data (.slice (.named 1)) (row : List Val), .clo 68 []]) (caps := []) (by rfl) rfl (.inl rfl) (by decide) (by kernel_rfl) (by kernel_rfl) Try.func76 (by kernel_rfl) rfl (by kernel_rfl) ?_; intro o1 ho1; refine kpU [0, 1, 2, 1001, 1002] [8] [] [] ?_; refine seq (r1U hC1 [0, 1, 2, 1001, 1002] [8] [] [] ?_); refine seq (r1U hC1 [0, 1, 2, 8, 1001, 1002] [8] [(8, .int .i64 (length (Tab.Rows t) : Int))] [] ?_); refine seq (r1U hC1 [0, 1, 2, 8, 9, 10, 1001, 1002] [8] [(9, .int .i64 0), (10, .int .i64 (length (Tab.Rows t) : Int))] [] ?_); refine seq (lpB (ζ := Int) (fun x => ⟨[(0, .data (.slice (.slice (.named 1))) ((Tab.Rows t) : List (List Val))), (1, .data (.slice (.named 1)) (row : List Val)), (2, .clo 68 []), (8, .int .i64 (length (Tab.Rows t) : Int)), (9, .int .i64 x), (1001, .data (.slice (.named 1)) (row : List Val)), (1002, .ref 8 1 0)], [(8, .box 1 [.int .i64 (Tab.Width t), .data (.slice (.slice (.named 1))) ((Tab.Rows t) : List (List Val))])]⟩) (fun x => 0 ≤ x ∧ x ≤ length (Tab.Rows t)) (fun x => x) (α := Int × Int) (fun x => ⟨[(0, .data (.slice (.slice (.named 1))) ((Tab.Rows t) : List (List Val))), (1, .data (.slice (.named 1)) (row : List Val)), (2, .clo 68 []), (8, .int .i64 (length (Tab.Rows t) : Int)), (9, .int .i64 x.1), (10, .int .i64 x.2), (1001, .data (.slice (.named 1)) (row : List Val)), (1002, .ref 8 1 0)], [(8, .box 1 [.int .i64 (Tab.Width t), .data (.slice (.slice (.named 1))) ((Tab.Rows t) : List (List Val))])]⟩) (fun x => (0 ≤ x.1 ∧ x.1 ≤ x.2) ∧ x.2 ≤ length (Tab.Rows t)) (fun x => Int.toNat (x.2 - x.1)) (fun k x => iCountRow_l0 t row k x.1 x.2) (0, (length (Tab.Rows t) : Int)) (by kernel_rfl) ?_ ?_ ?_)
   · omega
   ·
    intro x k52q hI0 hk50 e51; obtain ⟨i1, j1⟩ := x; refine seq (seq (r1U hC1 [0, 1, 2, 8, 9, 10, 17, 1001, 1002] [8] [(17, .bool (decide (i1 < j1)))] [] ?_)); refine cdE e51 ?_ ?_
    ·
     intro h53q e54; refine kpU [0, 1, 2, 8, 9, 10, 1001, 1002] [8] [] [] ?_; refine AW.skip (block (seq (r0U hC1 [0, 1, 2, 8, 9, 10, 11, 1001, 1002] [8] [(11, .int .i64 ((i1 + j1) / 2 ^ 1))] [] [(-9223372036854775808 ≤ (i1 + j1) ∧ (i1 + j1) ≤ 9223372036854775807), (0 ≤ (i1 + j1) ∧ (i1 + j1) ≤ 18446744073709551615), (0 ≤ (1 : Int) ∧ (1 : Int) ≤ 64), (-9223372036854775808 ≤ ((i1 + j1) / 2 ^ 1) ∧ ((i1 + j1) / 2 ^ 1) ≤ 9223372036854775807)] ?_ ?_)))
     ·
      exact ⟨(by omega), (by omega), (by omega), (by omega), trivial⟩
     refine seq (r0U hC1 [0, 1, 2, 8, 9, 10, 11, 31, 1001, 1002] [8] [(31, .bool (decide ((icompareRows (getD (Tab.Rows t) (Int.toNat ((i1 + j1) / 2 ^ 1)) []) row) < 0)))] [] [(0 ≤ ((i1 + j1) / 2 ^ 1) ∧ ((i1 + j1) / 2 ^ 1) < (length (Tab.Rows t) : Int)), (True)] ?_ ?_)
     ·
      exact ⟨(by omega), trivial, trivial⟩
     refine cdE e54 ?_ ?_
     ·
      intro h55q e56; refine r0U hC1 [0, 1, 2, 8, 9, 10, 1001, 1002] [8] [(9, .int .i64 (((i1 + j1) / 2 ^ 1) + 1))] [] [(-9223372036854775808 ≤ (((i1 + j1) / 2 ^ 1) + 1) ∧ (((i1 + j1) / 2 ^ 1) + 1) ≤ 9223372036854775807)] ?_ ?_
      ·
       exact ⟨(by omega), trivial⟩
      refine bk ((((i1 + j1) / 2 ^ 1) + 1), j1) e56 hk50 ?_ ?_
      · omega
      · omega
     ·
      intro h57q e58; refine r1U hC1 [0, 1, 2, 8, 9, 10, 1001, 1002] [8] [(10, .int .i64 ((i1 + j1) / 2 ^ 1))] [] ?_; refine bk (i1, ((i1 + j1) / 2 ^ 1)) e58 hk50 ?_ ?_
      · omega
      · omega
    · intro h59q e60; refine kpU [0, 1, 2, 8, 9, 1001, 1002] [8] [] [] ?_; refine exit ?_; refine meet i1 (by kernel_rfl) ⟨?_, e60⟩; omega
   ·
    intro i1 hJ0 e61; have e62 := e12.trans (then_eq e61); refine seq (r0U hC1 [6, 7, 1001, 1002] [8] [(6, .int .i64 i1), (7, .bool (bif (decide (i1 < (length (Tab.Rows t) : Int))) then ((icompareRows (getD (Tab.Rows t) (Int.toNat i1) []) row) == 0) else false))] [] [(((decide (i1 < (length (Tab.Rows t) : Int))) = true) → (((decide (i1 < (length (Tab.Rows t) : Int))) = true))), (((decide (i1 < (length (Tab.Rows t) : Int))) = true) → (((decide (i1 < (length (Tab.Rows t) : Int))) = true))), (((decide (i1 < (length (Tab.Rows t) : Int))) = true) → (0 ≤ i1 ∧ i1 < (length (Tab.Rows t) : Int))), (((decide (i1 < (length (Tab.Rows t) : Int))) = true) → (((decide (i1 < (length (Tab.Rows t) : Int))) = true))), (((decide (i1 < (length (Tab.Rows t) : Int))) = true) → (((decide (i1 < (length (Tab.Rows t) : Int))) = true))), (((decide (i1 < (length (Tab.Rows t) : Int))) = true) → (((decide (i1 < (length (Tab.Rows t) : Int))) = true))), (((decide (i1 < (length (Tab.Rows t) : Int))) = true) → (((decide (i1 < (length (Tab.Rows t) : Int))) = true))), (((decide (i1 < (length (Tab.Rows t) : Int))) = true) → (True)), (((decide (i1 < (length (Tab.Rows t) : Int))) = true) → (((decide (i1 < (length (Tab.Rows t) : Int))) = true))), (((decide (i1 < (length (Tab.Rows t) : Int))) = true) → (((decide (i1 < (length (Tab.Rows t) : Int))) = true)))] ?_ ?_)
    ·
     exact ⟨(by intro g63; assumption), (by intro g64; assumption), (by intro g65; (have g65p0 : i1 < (length (Tab.Rows t) : Int) := (of_decide_eq_true g65)); omega), (by intro g66; assumption), (by intro g67; assumption), (by intro g68; assumption), (by intro g69; assumption), (by intro g70; trivial), (by intro g71; assumption), (by intro g72; assumption), trivial⟩
    refine ret ?_; refine ⟨[.int .i64 i1, .bool (bif (decide (i1 < (length (Tab.Rows t) : Int))) then ((icompareRows (getD (Tab.Rows t) (Int.toNat i1) []) row) == 0) else false)], by kernel_rfl, ?_⟩; refine AWO.keep [1, 2, 27] [8] ⟨[(1, .data (.slice (.named 1)) (row : List Val)), (2, .ref 8 1 0), (27, .tup [.int .i64 i1, .bool (bif (decide (i1 < (length (Tab.Rows t) : Int))) then ((icompareRows (getD (Tab.Rows t) (Int.toNat i1) []) row) == 0) else false)])], [(8, .box 1 [.int .i64 (Tab.Width t), .data (.slice (.slice (.named 1))) ((Tab.Rows t) : List (List Val))])]⟩ (by kernel_rfl) ?_
    refine AWO.runU hC false [] [4, 5, 6, 7, 8] [] [1, 2, 5] [8]
     [(5, .int .i64 i1)] []
     [] (by rfl) (by kernel_rfl) ?_ ?_
    · exact trivial
    refine AWO.nil ?_; refine seq (r1U hC [1, 2, 5, 7] [8] [(7, .int .i64 0)] [] ?_); refine seq (seq (r0U hC [1, 7, 33, 34, 35] [] [(33, .data (.slice (.slice (.named 1))) ((drop (Int.toNat i1) (Tab.Rows t)) : List (List Val))), (34, .int .i64 (length (drop (Int.toNat i1) (Tab.Rows t)) : Int)), (35, .int .i64 0)] [] [(0 ≤ i1 ∧ i1 ≤ (length (Tab.Rows t) : Int))] ?_ ?_))
    ·
     exact ⟨(by omega), trivial⟩
    refine lpB (ζ := Nat) (fun x => ⟨[(7, .int .i64 (x : Int))], []⟩) (fun x => True) (fun x => x) (α := Nat × Nat) (fun x => ⟨[(1, .data (.slice (.named 1)) (row : List Val)), (7, .int .i64 ((x.1 : Nat) : Int)), (33, .data (.slice (.slice (.named 1))) ((drop (Int.toNat i1) (Tab.Rows t)) : List (List Val))), (34, .int .i64 (length (drop (Int.toNat i1) (Tab.Rows t)) : Int)), (35, .int .i64 ((x.2 : Nat) : Int))], []⟩) (fun x => x.1 ≤ x.2) (fun x => (length (drop (Int.toNat i1) (Tab.Rows t))) - x.2) (fun k x => iCountRow_l1 t row i1 k x.1 x.2) (0, 0) (by kernel_rfl) ?_ ?_ ?_
    · omega
    ·
     intro x k99q hI1 hk97 e98; obtain ⟨count, v35⟩ := x; refine seq (r1U hC [1, 7, 33, 34, 35, 36] [] [(36, .bool (decide ((v35 : Int) < (length (drop (Int.toNat i1) (Tab.Rows t)) : Int))))] [] ?_); refine seq (cdE e98 ?_ ?_)
     ·
      intro h100q e101; refine kpU [1, 7, 33, 34, 35] [] [] [] ?_; refine AW.skip (seq (block (seq (r0U hC [1, 7, 9, 33, 34, 35] [] [(9, .data (.slice (.named 1)) ((getD (drop (Int.toNat i1) (Tab.Rows t)) v35 []) : List Val))] [] [(0 ≤ (v35 : Int) ∧ (v35 : Int) < (length (drop (Int.toNat i1) (Tab.Rows t)) : Int))] ?_ ?_))))
      ·
       exact ⟨(by omega), trivial⟩
      refine seq (seq (r0U hC [1, 7, 33, 34, 35, 42] [] [(42, .bool ((icompareRows (getD (drop (Int.toNat i1) (Tab.Rows t)) v35 []) row) != 0))] [] [(True)] ?_ ?_))
      ·
       exact ⟨trivial, trivial⟩
      refine cdE e101 ?_ ?_
      · intro h102q e103; refine kpU [7] [] [] [] ?_; refine exit ?_; refine meet count (by kernel_rfl) ⟨?_, e103⟩; trivial
      ·
       intro h104q e105; refine kpU [1, 7, 33, 34, 35] [] [] [] ?_; refine AW.skip (r0U hC [1, 7, 33, 34, 35] [] [(7, .int .i64 ((count + 1 : Nat) : Int))] [] [(-9223372036854775808 ≤ ((count + 1 : Nat) : Int) ∧ ((count + 1 : Nat) : Int) ≤ 9223372036854775807)] ?_ ?_)
       ·
        exact ⟨(by (simp only [lens] at *; omega)), trivial⟩
       refine r0U hC [1, 7, 33, 34, 35] [] [(35, .int .i64 ((v35 + 1 : Nat) : Int))] [] [(-9223372036854775808 ≤ ((v35 + 1 : Nat) : Int) ∧ ((v35 + 1 : Nat) : Int) ≤ 9223372036854775807)] ?_ ?_
       ·
        exact ⟨(by (simp only [lens] at *; omega)), trivial⟩
       refine bk (count + 1, v35 + 1) e105 hk97 ?_ ?_
       · omega
       · omega
     · intro h106q e107; refine kpU [7] [] [] [] ?_; refine exit ?_; refine meet count (by kernel_rfl) ⟨?_, e107⟩; trivial
    · intro count hJ1 e108; have e109 := e62.trans (then_eq e108); refine seq (r1 hC [4] [] ⟨[(4, .int .i64 (count : Int))], []⟩ ?_); exact ret (rS (.int .i64) e109)

end
end Go.Proofs.Ytjcjpeckfikfkaa
