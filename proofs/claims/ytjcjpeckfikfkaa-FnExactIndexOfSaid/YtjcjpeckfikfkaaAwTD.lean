/-
  A part of the proof of this claim (AwTD): what functions of the program compute, and plain facts of that. No conditions.
-/
import Derived.Test.YtjcjpeckfikfkaaAwT1
import Derived.Test.YtjcjpeckfikfkaaAw7
import Derived.Test.YtjcjpeckfikfkaaAwT6
import Derived.Test.YtjcjpeckfikfkaaAyL
set_option linter.all false
namespace Go.Proofs.Ytjcjpeckfikfkaa
open Go Go.Am
open Go.Am.AW (seq r1U ret kpU cdE r0U r1 meet block rS bk exit lpB kp d0U d0)
open List (length getD set)
noncomputable section

def eqIntS_l0 (a : List Int) (b : List Int) : Nat → Nat → Unit ⊕ Bool
 | 0, i => .inl ()
 | k + 1, i => (bif (decide ((i : Int) < (length a : Int))) then (bif ((getD a i 0) != (getD b i 0)) then (.inr false) else (eqIntS_l0 a b k (i + 1))) else (.inl ()))

def eqIntS (a : List Int) (b : List Int) : Bool := (bif ((length a : Int) != (length b : Int)) then false else (Sum.elim (fun _ => true) (fun r => r) (eqIntS_l0 a b ((length a) - 0 + 1) 0)))

def eqIntS_sp : FnSpec := mkSpec [.val (.slice (.int .i64)), .val (.slice (.int .i64))] [.val .bool] (fun (a : List Int) (b : List Int) => True) (fun (a : List Int) (b : List Int) => [⟨.bool, (eqIntS a b)⟩])

theorem eqIntS_ok : FnOK Try.prog 44 eqIntS_sp := by
 have hC : CtxOK Try.prog (mkCtx tyL []) := CtxOK.nil tyOK; have hM : Try.prog.follows .mixedOrders = true := Try.checked.mixed; refine FnOK.of_body Try.func44 (by kernel_rfl) rfl (C := (mkCtx tyL [])) hC.ty (by kernel_rfl) ?_; intro (a : List Int) (b : List Int) hwf hpre E; have hpre : True := hpre; have hw_a : Wf ⟨(.slice (.int .i64)), (a : List Int)⟩ := hwf _ (List.Mem.head _); have hl_a : (length a : Int) ≤ 9223372036854775807 := hw_a.len; have hw_b : Wf ⟨(.slice (.int .i64)), (b : List Int)⟩ := hwf _ (List.Mem.tail _ (List.Mem.head _)); have hl_b : (length b : Int) ≤ 9223372036854775807 := hw_b.len; have e0 : eqIntS a b = eqIntS a b := rfl; refine seq (r1U hC [0, 1] [] [] [] ?_); refine seq (seq (r1U hC [0, 1, 10] [] [(10, .bool ((length a : Int) != (length b : Int)))] [] ?_)); refine cdE e0 ?_ ?_
 · intro h1q e2; refine seq (r1 hC [4] [] ⟨[(4, .bool false)], []⟩ ?_); exact ret (rS .bool e2)
 ·
  intro h3q e4; refine kpU [0, 1] [] [] [] ?_; refine AW.skip (seq (seq (r1U hC [0, 1, 5] [] [(5, .int .i64 0)] [] ?_))); refine lpB (ζ := Unit) (fun x => ⟨[], []⟩) (fun x => True) (fun x => (.inl ())) (α := Nat) (fun x => ⟨[(0, .data (.slice (.int .i64)) (a : List Int)), (1, .data (.slice (.int .i64)) (b : List Int)), (5, .int .i64 (x : Int))], []⟩) (fun x => True) (fun x => (length a) - x) (fun k x => eqIntS_l0 a b k x) 0 (by kernel_rfl) ?_ ?_ ?_
  · exact trivial
  ·
   intro i k34q hI0 hk32 e33; refine seq (seq (r1U hC [0, 1, 5, 14] [] [(14, .bool (decide ((i : Int) < (length a : Int))))] [] ?_)); refine cdE e33 ?_ ?_
   ·
    intro h35q e36; refine kpU [0, 1, 5] [] [] [] ?_; refine AW.skip (seq (block (seq (d0U hC hM [0, 1, 5, 25] [] [(25, .bool ((getD a i 0) != (getD b i 0)))] [] [(0 ≤ (i : Int) ∧ (i : Int) < (length a : Int)), (0 ≤ (i : Int) ∧ (i : Int) < (length b : Int))] ?_ ?_))))
    ·
     exact ⟨(by omega), (by omega), trivial⟩
    refine cdE e36 ?_ ?_
    · intro h37q e38; refine seq (r1 hC [4] [] ⟨[(4, .bool false)], []⟩ ?_); refine ret ?_; have e39 := e4.trans (elim_r e38); exact rS .bool e39
    ·
     intro h40q e41; refine kpU [0, 1, 5] [] [] [] ?_; refine AW.skip (r0U hC [0, 1, 5] [] [(5, .int .i64 ((i + 1 : Nat) : Int))] [] [(-9223372036854775808 ≤ ((i + 1 : Nat) : Int) ∧ ((i + 1 : Nat) : Int) ≤ 9223372036854775807)] ?_ ?_)
     ·
      exact ⟨(by omega), trivial⟩
     refine bk (i + 1) e41 hk32 ?_ ?_
     · assumption
     · omega
   · intro h42q e43; refine kp [] [] ⟨[], []⟩ ?_; refine exit ?_; refine meet () (by kernel_rfl) ⟨?_, e43⟩; assumption
  · intro x hJ0 e44; have e45 := e4.trans (elim_l e44); refine seq (r1 hC [4] [] ⟨[(4, .bool true)], []⟩ ?_); exact ret (rS .bool e45)

def heldIntS_l0 (a : List Int) : Nat → Int → Nat → Int ⊕ Int
 | 0, k1, i => .inl k1
 | k + 1, k1, i => (bif (decide ((i : Int) < (length a : Int))) then (bif ((getD a i 0) != k1) then (.inr (-1)) else (heldIntS_l0 a k (k1 + 1) (i + 1))) else (.inl k1))

def heldIntS (a : List Int) (n : Int) : Int := (Sum.elim (fun z => (fun (k1 : Int) => k1) z) (fun r => r) (heldIntS_l0 a ((length a) - 0 + 1) n 0))

def heldIntS_sp : FnSpec := mkSpec [.val (.slice (.int .i64)), .val (.int .i64)] [.val (.int .i64)] (fun (a : List Int) (n : Int) => (0 ≤ n ∧ n ≤ 1099511627776) ∧ (length a : Int) ≤ 4294967296) (fun (a : List Int) (n : Int) => [⟨(.int .i64), (heldIntS a n)⟩])

theorem heldIntS_ok : FnOK Try.prog 46 heldIntS_sp := by
 have hC : CtxOK Try.prog (mkCtx tyL []) := CtxOK.nil tyOK; refine FnOK.of_body Try.func46 (by kernel_rfl) rfl (C := (mkCtx tyL [])) hC.ty (by kernel_rfl) ?_; intro (a : List Int) (n : Int) hwf hpre E; have hpre : (0 ≤ n ∧ n ≤ 1099511627776) ∧ (length a : Int) ≤ 4294967296 := hpre; have e0 : heldIntS a n = heldIntS a n := rfl; refine seq (r1U hC [0, 1] [] [] [] ?_); refine seq (seq (r1U hC [0, 1, 5] [] [(5, .int .i64 0)] [] ?_)); refine lpB (ζ := Int) (fun x => ⟨[(1, .int .i64 x)], []⟩) (fun x => n ≤ x) (fun x => (.inl x)) (α := Int × Nat) (fun x => ⟨[(0, .data (.slice (.int .i64)) (a : List Int)), (1, .int .i64 x.1), (5, .int .i64 ((x.2 : Nat) : Int))], []⟩) (fun x => n ≤ x.1 ∧ x.1 ≤ n + (x.2 : Int)) (fun x => (length a) - x.2) (fun k x => heldIntS_l0 a k x.1 x.2) (n, 0) (by kernel_rfl) ?_ ?_ ?_
 · refine ⟨?_, ?_⟩ <;> first | omega | (simp; done)
 ·
  intro x k30q hI0 hk28 e29; obtain ⟨k1, i⟩ := x; refine seq (seq (r1U hC [0, 1, 5, 9] [] [(9, .bool (decide ((i : Int) < (length a : Int))))] [] ?_)); refine cdE e29 ?_ ?_
  ·
   intro h31q e32; refine kpU [0, 1, 5] [] [] [] ?_; refine AW.skip (seq (block (seq (seq (r0U hC [0, 1, 5, 17] [] [(17, .bool ((getD a i 0) != k1))] [] [(0 ≤ (i : Int) ∧ (i : Int) < (length a : Int))] ?_ ?_)))))
   ·
    exact ⟨(by omega), trivial⟩
   refine cdE e32 ?_ ?_
   · intro h33q e34; refine seq (r1 hC [4] [] ⟨[(4, .int .i64 (-1))], []⟩ ?_); refine ret ?_; have e35 := e0.trans (elim_r e34); exact rS (.int .i64) e35
   ·
    intro h36q e37; refine kpU [0, 1, 5] [] [] [] ?_; refine AW.skip (r0U hC [0, 1, 5] [] [(1, .int .i64 (k1 + 1))] [] [(-9223372036854775808 ≤ (k1 + 1) ∧ (k1 + 1) ≤ 9223372036854775807)] ?_ ?_)
    ·
     exact ⟨(by omega), trivial⟩
    refine r0U hC [0, 1, 5] [] [(5, .int .i64 ((i + 1 : Nat) : Int))] [] [(-9223372036854775808 ≤ ((i + 1 : Nat) : Int) ∧ ((i + 1 : Nat) : Int) ≤ 9223372036854775807)] ?_ ?_
    ·
     exact ⟨(by omega), trivial⟩
    refine bk ((k1 + 1), i + 1) e37 hk28 ?_ ?_
    · refine ⟨?_, ?_⟩ <;> first | omega | (simp only [lens] at *; omega)
    · omega
  · intro h38q e39; refine kpU [1] [] [] [] ?_; refine exit ?_; refine meet k1 (by kernel_rfl) ⟨?_, e39⟩; omega
 · intro k1 hJ0 e40; have e41 := e0.trans (elim_l e40); refine seq (r1 hC [4] [] ⟨[(4, .int .i64 k1)], []⟩ ?_); exact ret (rS (.int .i64) e41)

def FnExactIndexOf_l0 : Nat → Nat → Nat → (List Int) → Nat × (List Int)
 | 0, k1, i, a => (k1, a)
 | k + 1, k1, i, a => (bif (decide ((i : Int) < (length a : Int))) then (FnExactIndexOf_l0 k (k1 + 1) (i + 1) (set a i (k1 : Int))) else (k1, a))

def FnExactIndexOf (aT : Tab) (aCol : Int) : Bool := (bif (decide ((szTable aT 1048576) < 0)) then true else (bif (!(eqIntS (iIndexOf (toTable aT) aCol) (sIndexOf (toTable aT) aCol))) then false else (bif (!(eqTable (toTable aT) (toTable aT))) then false else (bif (bif (decide ((markValueSS (Tab.Rows (toTable aT)) 1).2 < 0)) then true else (!(eqIntS (iIndexOf (toTable aT) aCol) (sIndexOf (toTable aT) aCol)))) then false else (andThen (FnExactIndexOf_l0 ((length (iIndexOf (toTable aT) aCol)) - 0 + 1) 1 0 (iIndexOf (toTable aT) aCol)) (fun z => (fun (k1 : Nat) (a : List Int) => (bif (decide ((heldIntS a 1) < 0)) then false else (bif ((heldIntS a 1) != (k1 : Int)) then false else (bif (!(eqIntS (iIndexOf (toTable aT) aCol) (sIndexOf (toTable aT) aCol))) then false else (bif (decide ((heldIntS a 1) < 0)) then false else (bif ((heldIntS a 1) != (k1 : Int)) then false else true)))))) z.1 z.2))))))

def FnExactIndexOf_sp : FnSpec := mkSpec [.val (.named 2), .val (.int .i64)] [.val .bool] (fun (aT : Tab) (aCol : Int) => True) (fun (aT : Tab) (aCol : Int) => [⟨.bool, (FnExactIndexOf aT aCol)⟩])

theorem FnExactIndexOf_ok : FnOK Try.prog 11 FnExactIndexOf_sp := by
 have hC : CtxOK Try.prog (mkCtx tyL [(22, eqTable_sp), (34, szTable_sp), (35, toTable_sp), (40, iIndexOf_sp), (42, sIndexOf_sp), (44, eqIntS_sp), (46, heldIntS_sp)]) := CtxOK.cons eqTable_ok (CtxOK.cons szTable_ok (CtxOK.cons toTable_ok (CtxOK.cons iIndexOf_ok (CtxOK.cons sIndexOf_ok (CtxOK.cons eqIntS_ok (CtxOK.cons heldIntS_ok (CtxOK.nil tyOK))))))); have hM : Try.prog.follows .mixedOrders = true := Try.checked.mixed; have hC1 := hC.rebase 1000; refine FnOK.of_body Try.func11 (by kernel_rfl) rfl (C := (mkCtx tyL [(22, eqTable_sp), (34, szTable_sp), (35, toTable_sp), (40, iIndexOf_sp), (42, sIndexOf_sp), (44, eqIntS_sp), (46, heldIntS_sp)])) hC.ty (by kernel_rfl) ?_; intro (aT : Tab) (aCol : Int) hwf hpre E; have hpre : True := hpre; have e0 : FnExactIndexOf aT aCol = FnExactIndexOf aT aCol := rfl; refine seq (r1U hC [1, 2] [8] [(2, .ref 8 1 0)] [(8, .box 1 [.int .i64 (Tab.Width aT), .data (.slice (.slice (.named 1))) ((Tab.Rows aT) : List (List Val))])] ?_); refine seq (r1U hC [1, 2, 5] [8] [(5, .int .i64 1048576)] [] ?_); refine seq (r0U hC [1, 2, 5] [8] [(5, .int .i64 (szTable aT 1048576))] [] [(0 ≤ (1048576 : Int))] ?_ ?_)
 ·
  exact ⟨(by omega), trivial⟩
 refine seq (seq (r1U hC [1, 2, 17] [8] [(17, .bool (decide ((szTable aT 1048576) < 0)))] [] ?_)); refine cdE e0 ?_ ?_
 · intro h1q e2; refine seq (r1 hC [4] [] ⟨[(4, .bool true)], []⟩ ?_); exact ret (rS .bool e2)
 ·
  intro h3q e4; refine kpU [1, 2] [8] [] [] ?_; refine AW.skip (seq (r0U hC [1, 2, 6] [8, 84] [(6, .arr 84 1)] [(84, .arr 1 (.int .i64) ((sIndexOf (toTable aT) aCol) : List Int))] [((length aT.Rows : Int) ≤ 1048576 ∧ ∀ i : Nat, i < length aT.Rows → (length (getD aT.Rows i []) : Int) ≤ 1048576), (True)] ?_ ?_))
  ·
   exact ⟨(szTable_fit (by assumption)), trivial, trivial⟩
  refine seq (AW.wf_arr (id := 84) (ep := 1) (t := (.int .i64)) (xs := ((sIndexOf (toTable aT) aCol) : List Int)) (by kernel_rfl) fun ha5 _ => ?_); replace ha5 : (length (sIndexOf (toTable aT) aCol) : Int) ≤ 4294967296 := ha5; refine r0U hC [1, 2, 6, 7] [8, 28, 84, 92] [(7, .ref 28 1 0)] [(28, .box 1 [.int .i64 (Tab.Width (toTable aT)), .tr 92 1]), (92, .tree 1 (.slice (.named 1)) ((Tab.Rows (toTable aT)) : List (List Val)))] [((length aT.Rows : Int) ≤ 1048576 ∧ ∀ i : Nat, i < length aT.Rows → (length (getD aT.Rows i []) : Int) ≤ 1048576)] ?_ ?_
  ·
   exact ⟨(szTable_fit (by assumption)), trivial⟩
  refine seq (AW.wf_arr (id := 84) (ep := 1) (t := (.int .i64)) (xs := ((sIndexOf (toTable aT) aCol) : List Int)) (by kernel_rfl) fun ha6 _ => ?_); replace ha6 : (length (sIndexOf (toTable aT) aCol) : Int) ≤ 4294967296 := ha6; refine AW.wf_tree (id := 92) (ep := 1) (t := (.slice (.named 1))) (xs := ((Tab.Rows (toTable aT)) : List (List Val))) (by kernel_rfl) fun ha7 _ => ?_; replace ha7 : (length (Tab.Rows (toTable aT)) : Int) ≤ 4294967296 := ha7; refine r0U hC [1, 2, 6, 7, 8] [8, 28, 84, 92, 104] [(8, .arr 104 1)] [(104, .arr 1 (.int .i64) ((iIndexOf (toTable aT) aCol) : List Int))] [(True)] ?_ ?_
  ·
   exact ⟨trivial, trivial⟩
  refine seq (seq (AW.wf_arr (id := 84) (ep := 1) (t := (.int .i64)) (xs := ((sIndexOf (toTable aT) aCol) : List Int)) (by kernel_rfl) fun ha8 _ => ?_)); replace ha8 : (length (sIndexOf (toTable aT) aCol) : Int) ≤ 4294967296 := ha8; refine AW.wf_tree (id := 92) (ep := 1) (t := (.slice (.named 1))) (xs := ((Tab.Rows (toTable aT)) : List (List Val))) (by kernel_rfl) fun ha9 _ => ?_; replace ha9 : (length (Tab.Rows (toTable aT)) : Int) ≤ 4294967296 := ha9; refine AW.wf_arr (id := 104) (ep := 1) (t := (.int .i64)) (xs := ((iIndexOf (toTable aT) aCol) : List Int)) (by kernel_rfl) fun ha10 _ => ?_; replace ha10 : (length (iIndexOf (toTable aT) aCol) : Int) ≤ 4294967296 := ha10; refine r0U hC [1, 2, 6, 7, 8, 30] [8, 28, 84, 92, 104] [(30, .bool (!(eqIntS (iIndexOf (toTable aT) aCol) (sIndexOf (toTable aT) aCol))))] [] [(True)] ?_ ?_
  ·
   exact ⟨trivial, trivial⟩
  refine cdE e4 ?_ ?_
  · intro h11q e12; refine seq (AW.wf_arr (id := 84) (ep := 1) (t := (.int .i64)) (xs := ((sIndexOf (toTable aT) aCol) : List Int)) (by kernel_rfl) fun ha13 _ => ?_); replace ha13 : (length (sIndexOf (toTable aT) aCol) : Int) ≤ 4294967296 := ha13; refine AW.wf_tree (id := 92) (ep := 1) (t := (.slice (.named 1))) (xs := ((Tab.Rows (toTable aT)) : List (List Val))) (by kernel_rfl) fun ha14 _ => ?_; replace ha14 : (length (Tab.Rows (toTable aT)) : Int) ≤ 4294967296 := ha14; refine AW.wf_arr (id := 104) (ep := 1) (t := (.int .i64)) (xs := ((iIndexOf (toTable aT) aCol) : List Int)) (by kernel_rfl) fun ha15 _ => ?_; replace ha15 : (length (iIndexOf (toTable aT) aCol) : Int) ≤ 4294967296 := ha15; refine r1 hC [4] [] ⟨[(4, .bool false)], []⟩ ?_; exact ret (rS .bool e12)
  ·
   intro h16q e17; refine kpU [1, 2, 6, 7, 8] [8, 28, 84, 92, 104] [] [] ?_; refine AW.skip (seq (seq (AW.wf_arr (id := 84) (ep := 1) (t := (.int .i64)) (xs := ((sIndexOf (toTable aT) aCol) : List Int)) (by kernel_rfl) fun ha18 _ => ?_))); replace ha18 : (length (sIndexOf (toTable aT) aCol) : Int) ≤ 4294967296 := ha18; refine AW.wf_tree (id := 92) (ep := 1) (t := (.slice (.named 1))) (xs := ((Tab.Rows (toTable aT)) : List (List Val))) (by kernel_rfl) fun ha19 _ => ?_; replace ha19 : (length (Tab.Rows (toTable aT)) : Int) ≤ 4294967296 := ha19; refine AW.wf_arr (id := 104) (ep := 1) (t := (.int .i64)) (xs := ((iIndexOf (toTable aT) aCol) : List Int)) (by kernel_rfl) fun ha20 _ => ?_; replace ha20 : (length (iIndexOf (toTable aT) aCol) : Int) ≤ 4294967296 := ha20; refine d0 hC hM [1, 2, 6, 7, 8, 35] [8, 28, 84, 92, 104] ⟨[(1, .int .i64 aCol), (2, .ref 8 1 0), (6, .arr 84 1), (7, .ref 28 1 0), (8, .arr 104 1), (35, .bool (!(eqTable (toTable aT) (toTable aT))))], [(8, .box 1 [.int .i64 (Tab.Width aT), .data (.slice (.slice (.named 1))) ((Tab.Rows aT) : List (List Val))]), (28, .box 1 [.int .i64 (Tab.Width (toTable aT)), .tr 92 1]), (84, .arr 1 (.int .i64) ((sIndexOf (toTable aT) aCol) : List Int)), (92, .tree 1 (.slice (.named 1)) ((Tab.Rows (toTable aT)) : List (List Val))), (104, .arr 1 (.int .i64) ((iIndexOf (toTable aT) aCol) : List Int))]⟩ [((length aT.Rows : Int) ≤ 1048576 ∧ ∀ i : Nat, i < length aT.Rows → (length (getD aT.Rows i []) : Int) ≤ 1048576), (True)] ?_ ?_
   ·
    exact ⟨(szTable_fit (by assumption)), trivial, trivial⟩
   refine cdE e17 ?_ ?_
   · intro h21q e22; refine seq (AW.wf_arr (id := 84) (ep := 1) (t := (.int .i64)) (xs := ((sIndexOf (toTable aT) aCol) : List Int)) (by kernel_rfl) fun ha23 _ => ?_); replace ha23 : (length (sIndexOf (toTable aT) aCol) : Int) ≤ 4294967296 := ha23; refine AW.wf_tree (id := 92) (ep := 1) (t := (.slice (.named 1))) (xs := ((Tab.Rows (toTable aT)) : List (List Val))) (by kernel_rfl) fun ha24 _ => ?_; replace ha24 : (length (Tab.Rows (toTable aT)) : Int) ≤ 4294967296 := ha24; refine AW.wf_arr (id := 104) (ep := 1) (t := (.int .i64)) (xs := ((iIndexOf (toTable aT) aCol) : List Int)) (by kernel_rfl) fun ha25 _ => ?_; replace ha25 : (length (iIndexOf (toTable aT) aCol) : Int) ≤ 4294967296 := ha25; refine r1 hC [4] [] ⟨[(4, .bool false)], []⟩ ?_; exact ret (rS .bool e22)
   ·
    intro h26q e27; refine kpU [1, 2, 6, 7, 8] [8, 28, 84, 92, 104] [] [] ?_; refine AW.skip (seq (AW.wf_arr (id := 84) (ep := 1) (t := (.int .i64)) (xs := ((sIndexOf (toTable aT) aCol) : List Int)) (by kernel_rfl) fun ha28 _ => ?_)); replace ha28 : (length (sIndexOf (toTable aT) aCol) : Int) ≤ 4294967296 := ha28; refine AW.wf_tree (id := 92) (ep := 1) (t := (.slice (.named 1))) (xs := ((Tab.Rows (toTable aT)) : List (List Val))) (by kernel_rfl) fun ha29 _ => ?_; replace ha29 : (length (Tab.Rows (toTable aT)) : Int) ≤ 4294967296 := ha29; refine AW.wf_arr (id := 104) (ep := 1) (t := (.int .i64)) (xs := ((iIndexOf (toTable aT) aCol) : List Int)) (by kernel_rfl) fun ha30 _ => ?_; replace ha30 : (length (iIndexOf (toTable aT) aCol) : Int) ≤ 4294967296 := ha30; refine r1U hC [1, 2, 6, 7, 8, 9] [8, 28, 84, 92, 104] [(9, .int .i64 1)] [] ?_; refine seq (AW.wf_arr (id := 84) (ep := 1) (t := (.int .i64)) (xs := ((sIndexOf (toTable aT) aCol) : List Int)) (by kernel_rfl) fun ha31 _ => ?_); replace ha31 : (length (sIndexOf (toTable aT) aCol) : Int) ≤ 4294967296 := ha31; refine AW.wf_tree (id := 92) (ep := 1) (t := (.slice (.named 1))) (xs := ((Tab.Rows (toTable aT)) : List (List Val))) (by kernel_rfl) fun ha32 _ => ?_; replace ha32 : (length (Tab.Rows (toTable aT)) : Int) ≤ 4294967296 := ha32; refine AW.wf_arr (id := 104) (ep := 1) (t := (.int .i64)) (xs := ((iIndexOf (toTable aT) aCol) : List Int)) (by kernel_rfl) fun ha33 _ => ?_; replace ha33 : (length (iIndexOf (toTable aT) aCol) : Int) ≤ 4294967296 := ha33; refine AW.regionO [0, 1, 2, 3] (by rfl) ?_
    refine AWO.runU hC false [] [0, 1] [2, 3] [1, 2, 6, 8, 36, 37] [8, 84, 92, 104]
     [(36, .agg [.int .i64 (Tab.Width (toTable aT)), .tr 92 1]), (37, .int .i64 1)] []
     [] (by rfl) (by kernel_rfl) ?_ ?_
    · exact trivial
    refine AWO.call hC.ty (vs := [.agg [.int .i64 (Tab.Width (toTable aT)), .tr 92 1], .int .i64 1]) (caps := []) (by rfl) rfl (.inl rfl) (by decide) (by kernel_rfl) (by kernel_rfl) Try.func25 (by kernel_rfl) rfl (by kernel_rfl) ?_; intro o1 ho1; refine kpU [0, 1, 1001, 1002, 1006, 1008] [8, 84, 92, 104] [] [] ?_; refine seq (AW.wf_arr (id := 84) (ep := 1) (t := (.int .i64)) (xs := ((sIndexOf (toTable aT) aCol) : List Int)) (by kernel_rfl) fun ha42 _ => ?_); replace ha42 : (length (sIndexOf (toTable aT) aCol) : Int) ≤ 4294967296 := ha42; refine AW.wf_tree (id := 92) (ep := 1) (t := (.slice (.named 1))) (xs := ((Tab.Rows (toTable aT)) : List (List Val))) (by kernel_rfl) fun ha43 _ => ?_; replace ha43 : (length (Tab.Rows (toTable aT)) : Int) ≤ 4294967296 := ha43; refine AW.wf_arr (id := 104) (ep := 1) (t := (.int .i64)) (xs := ((iIndexOf (toTable aT) aCol) : List Int)) (by kernel_rfl) fun ha44 _ => ?_; replace ha44 : (length (iIndexOf (toTable aT) aCol) : Int) ≤ 4294967296 := ha44; refine r1U hC1 [1, 2, 1001, 1002, 1006, 1008] [8, 84, 92, 104, 4008] [(2, .ref 4008 1 0)] [(4008, .box 1 [.int .i64 (Tab.Width (toTable aT)), .tr 92 1])] ?_; refine seq (AW.wf_arr (id := 84) (ep := 1) (t := (.int .i64)) (xs := ((sIndexOf (toTable aT) aCol) : List Int)) (by kernel_rfl) fun ha45 _ => ?_); replace ha45 : (length (sIndexOf (toTable aT) aCol) : Int) ≤ 4294967296 := ha45; refine AW.wf_tree (id := 92) (ep := 1) (t := (.slice (.named 1))) (xs := ((Tab.Rows (toTable aT)) : List (List Val))) (by kernel_rfl) fun ha46 _ => ?_; replace ha46 : (length (Tab.Rows (toTable aT)) : Int) ≤ 4294967296 := ha46; refine AW.wf_arr (id := 104) (ep := 1) (t := (.int .i64)) (xs := ((iIndexOf (toTable aT) aCol) : List Int)) (by kernel_rfl) fun ha47 _ => ?_; replace ha47 : (length (iIndexOf (toTable aT) aCol) : Int) ≤ 4294967296 := ha47; refine AW.regionO [0, 1, 2, 3, 4] (by rfl) ?_
    refine AWO.runU hC1 false [] [0, 1, 2] [3, 4] [6, 7, 1001, 1002, 1006, 1008] [8, 84, 92, 104]
     [(6, .tr 92 1), (7, .int .i64 1)] []
     [] (by rfl) (by kernel_rfl) ?_ ?_
    · exact trivial
    refine AWO.mark (u := (.slice (.named 1))) (id := 92) (ep := 1) (xs := ((Tab.Rows (toTable aT)) : List (List Val))) (k := 1) markValueSS_ok (by rfl) (by rfl) (by kernel_rfl) (by kernel_rfl) (by kernel_rfl) (by kernel_rfl) ?_ ?_
    · assumption
    refine AWO.keepU [8, 1001, 1002, 1006, 1008] [8, 84, 104] [(8, .int .i64 (markValueSS (Tab.Rows (toTable aT)) 1).2)] [] (by kernel_rfl) ?_
    refine AWO.runU hC1 false [] [4] [] [1, 1001, 1002, 1006, 1008] [8, 84, 104]
     [(1, .int .i64 (markValueSS (Tab.Rows (toTable aT)) 1).2)] []
     [] (by rfl) (by kernel_rfl) ?_ ?_
    · exact trivial
    refine AWO.nil ?_; refine seq (AW.wf_arr (id := 84) (ep := 1) (t := (.int .i64)) (xs := ((sIndexOf (toTable aT) aCol) : List Int)) (by kernel_rfl) fun ha48 _ => ?_); replace ha48 : (length (sIndexOf (toTable aT) aCol) : Int) ≤ 4294967296 := ha48; refine AW.wf_arr (id := 104) (ep := 1) (t := (.int .i64)) (xs := ((iIndexOf (toTable aT) aCol) : List Int)) (by kernel_rfl) fun ha49 _ => ?_; replace ha49 : (length (iIndexOf (toTable aT) aCol) : Int) ≤ 4294967296 := ha49; refine r1U hC1 [4, 1001, 1002, 1006, 1008] [8, 84, 104] [(4, .int .i64 (markValueSS (Tab.Rows (toTable aT)) 1).2)] [] ?_; refine ret ?_; refine ⟨[.int .i64 (markValueSS (Tab.Rows (toTable aT)) 1).2], by kernel_rfl, ?_⟩; refine AWO.keep [1, 2, 6, 8, 38] [8, 84, 104] ⟨[(1, .int .i64 aCol), (2, .ref 8 1 0), (6, .arr 84 1), (8, .arr 104 1), (38, .int .i64 (markValueSS (Tab.Rows (toTable aT)) 1).2)], [(8, .box 1 [.int .i64 (Tab.Width aT), .data (.slice (.slice (.named 1))) ((Tab.Rows aT) : List (List Val))]), (84, .arr 1 (.int .i64) ((sIndexOf (toTable aT) aCol) : List Int)), (104, .arr 1 (.int .i64) ((iIndexOf (toTable aT) aCol) : List Int))]⟩ (by kernel_rfl) ?_
    refine AWO.runU hC false [] [3] [] [1, 2, 6, 8, 9] [8, 84, 104]
     [(9, .int .i64 (markValueSS (Tab.Rows (toTable aT)) 1).2)] []
     [] (by rfl) (by kernel_rfl) ?_ ?_
    · exact trivial
    refine AWO.nil ?_; refine seq (seq (AW.wf_arr (id := 84) (ep := 1) (t := (.int .i64)) (xs := ((sIndexOf (toTable aT) aCol) : List Int)) (by kernel_rfl) fun ha50 _ => ?_)); replace ha50 : (length (sIndexOf (toTable aT) aCol) : Int) ≤ 4294967296 := ha50; refine AW.wf_arr (id := 104) (ep := 1) (t := (.int .i64)) (xs := ((iIndexOf (toTable aT) aCol) : List Int)) (by kernel_rfl) fun ha51 _ => ?_; replace ha51 : (length (iIndexOf (toTable aT) aCol) : Int) ≤ 4294967296 := ha51; refine r0U hC [1, 2, 6, 8, 46] [8, 84, 104] [(46, .bool (bif (decide ((markValueSS (Tab.Rows (toTable aT)) 1).2 < 0)) then true else (!(eqIntS (iIndexOf (toTable aT) aCol) (sIndexOf (toTable aT) aCol)))))] [] [(((decide ((markValueSS (Tab.Rows (toTable aT)) 1).2 < 0)) = false) → (((decide ((markValueSS (Tab.Rows (toTable aT)) 1).2 < 0)) = false))), (((decide ((markValueSS (Tab.Rows (toTable aT)) 1).2 < 0)) = false) → (((decide ((markValueSS (Tab.Rows (toTable aT)) 1).2 < 0)) = false))), (((decide ((markValueSS (Tab.Rows (toTable aT)) 1).2 < 0)) = false) → (True)), (((decide ((markValueSS (Tab.Rows (toTable aT)) 1).2 < 0)) = false) → (((decide ((markValueSS (Tab.Rows (toTable aT)) 1).2 < 0)) = false))), (((decide ((markValueSS (Tab.Rows (toTable aT)) 1).2 < 0)) = false) → (((decide ((markValueSS (Tab.Rows (toTable aT)) 1).2 < 0)) = false)))] ?_ ?_
    ·
     exact ⟨(by intro g52; assumption), (by intro g53; assumption), (by intro g54; trivial), (by intro g55; assumption), (by intro g56; assumption), trivial⟩
    refine cdE e27 ?_ ?_
    · intro h57q e58; refine seq (AW.wf_arr (id := 84) (ep := 1) (t := (.int .i64)) (xs := ((sIndexOf (toTable aT) aCol) : List Int)) (by kernel_rfl) fun ha59 _ => ?_); replace ha59 : (length (sIndexOf (toTable aT) aCol) : Int) ≤ 4294967296 := ha59; refine AW.wf_arr (id := 104) (ep := 1) (t := (.int .i64)) (xs := ((iIndexOf (toTable aT) aCol) : List Int)) (by kernel_rfl) fun ha60 _ => ?_; replace ha60 : (length (iIndexOf (toTable aT) aCol) : Int) ≤ 4294967296 := ha60; refine r1 hC [4] [] ⟨[(4, .bool false)], []⟩ ?_; exact ret (rS .bool e58)
    ·
     intro h61q e62; refine kpU [1, 2, 6, 8] [8, 84, 104] [] [] ?_; refine AW.skip (seq (AW.wf_arr (id := 84) (ep := 1) (t := (.int .i64)) (xs := ((sIndexOf (toTable aT) aCol) : List Int)) (by kernel_rfl) fun ha63 _ => ?_)); replace ha63 : (length (sIndexOf (toTable aT) aCol) : Int) ≤ 4294967296 := ha63; refine AW.wf_arr (id := 104) (ep := 1) (t := (.int .i64)) (xs := ((iIndexOf (toTable aT) aCol) : List Int)) (by kernel_rfl) fun ha64 _ => ?_; replace ha64 : (length (iIndexOf (toTable aT) aCol) : Int) ≤ 4294967296 := ha64; refine r1U hC [1, 2, 6, 8, 10] [8, 84, 104] [(10, .int .i64 1)] [] ?_; refine seq (AW.wf_arr (id := 84) (ep := 1) (t := (.int .i64)) (xs := ((sIndexOf (toTable aT) aCol) : List Int)) (by kernel_rfl) fun ha65 _ => ?_); replace ha65 : (length (sIndexOf (toTable aT) aCol) : Int) ≤ 4294967296 := ha65; refine AW.wf_arr (id := 104) (ep := 1) (t := (.int .i64)) (xs := ((iIndexOf (toTable aT) aCol) : List Int)) (by kernel_rfl) fun ha66 _ => ?_; replace ha66 : (length (iIndexOf (toTable aT) aCol) : Int) ≤ 4294967296 := ha66; refine AW.regionO [0, 1, 2, 3] (by rfl) ?_
     refine AWO.runU hC false [] [0, 1] [2, 3] [1, 2, 6, 8, 47, 48] [8, 84, 104]
      [(47, .arr 104 1), (48, .int .i64 1)] []
      [] (by rfl) (by kernel_rfl) ?_ ?_
     · exact trivial
     refine AWO.call hC.ty (vs := [.arr 104 1, .int .i64 1]) (caps := []) (by rfl) rfl (.inl rfl) (by decide) (by kernel_rfl) (by kernel_rfl) Try.func45 (by kernel_rfl) rfl (by kernel_rfl) ?_; intro o1 ho1; refine kpU [0, 1, 1001, 1002, 1006, 1008] [8, 84, 104] [] [] ?_; refine seq (AW.wf_arr (id := 84) (ep := 1) (t := (.int .i64)) (xs := ((sIndexOf (toTable aT) aCol) : List Int)) (by kernel_rfl) fun ha114 _ => ?_); replace ha114 : (length (sIndexOf (toTable aT) aCol) : Int) ≤ 4294967296 := ha114; refine AW.wf_arr (id := 104) (ep := 1) (t := (.int .i64)) (xs := ((iIndexOf (toTable aT) aCol) : List Int)) (by kernel_rfl) fun ha115 _ => ?_; replace ha115 : (length (iIndexOf (toTable aT) aCol) : Int) ≤ 4294967296 := ha115; refine r1U hC1 [0, 1, 1001, 1002, 1006, 1008] [8, 84, 104] [] [] ?_; refine seq (seq (AW.wf_arr (id := 84) (ep := 1) (t := (.int .i64)) (xs := ((sIndexOf (toTable aT) aCol) : List Int)) (by kernel_rfl) fun ha116 _ => ?_)); replace ha116 : (length (sIndexOf (toTable aT) aCol) : Int) ≤ 4294967296 := ha116; refine AW.wf_arr (id := 104) (ep := 1) (t := (.int .i64)) (xs := ((iIndexOf (toTable aT) aCol) : List Int)) (by kernel_rfl) fun ha117 _ => ?_; replace ha117 : (length (iIndexOf (toTable aT) aCol) : Int) ≤ 4294967296 := ha117; refine r1U hC1 [0, 1, 5, 1001, 1002, 1006, 1008] [8, 84, 104] [(5, .int .i64 0)] [] ?_; refine lpB (ζ := Nat × (List Int)) (fun x => ⟨[(1, .int .i64 ((x.1 : Nat) : Int)), (1001, .int .i64 aCol), (1002, .ref 8 1 0), (1006, .arr 84 1), (1008, .arr 104 1)], [(8, .box 1 [.int .i64 (Tab.Width aT), .data (.slice (.slice (.named 1))) ((Tab.Rows aT) : List (List Val))]), (84, .arr 1 (.int .i64) ((sIndexOf (toTable aT) aCol) : List Int)), (104, .arr 1 (.int .i64) (x.2 : List Int))]⟩) (fun x => (1 ≤ x.1 ∧ x.1 ≤ 4294967297) ∧ length x.2 ≤ 4294967296) (fun x => x) (α := Nat × Nat × (List Int)) (fun x => ⟨[(0, .arr 104 1), (1, .int .i64 ((x.1 : Nat) : Int)), (5, .int .i64 ((x.2.1 : Nat) : Int)), (1001, .int .i64 aCol), (1002, .ref 8 1 0), (1006, .arr 84 1), (1008, .arr 104 1)], [(8, .box 1 [.int .i64 (Tab.Width aT), .data (.slice (.slice (.named 1))) ((Tab.Rows aT) : List (List Val))]), (84, .arr 1 (.int .i64) ((sIndexOf (toTable aT) aCol) : List Int)), (104, .arr 1 (.int .i64) (x.2.2 : List Int))]⟩) (fun x => (1 ≤ x.1 ∧ x.1 ≤ 1 + 1 * x.2.1) ∧ (x.2.1 ≤ length x.2.2 ∧ length x.2.2 ≤ 4294967296)) (fun x => (length x.2.2) - x.2.1) (fun k x => FnExactIndexOf_l0 k x.1 x.2.1 x.2.2) (1, 0, (iIndexOf (toTable aT) aCol)) (by kernel_rfl) ?_ ?_ ?_
     · dsimp only; exact ⟨⟨by omega, by omega⟩, by omega, by omega⟩
     ·
      intro x k120q hI0 hk118 e119; obtain ⟨k1, i, a⟩ := x; dsimp only at e119; refine seq (seq (AW.wf_arr (id := 84) (ep := 1) (t := (.int .i64)) (xs := ((sIndexOf (toTable aT) aCol) : List Int)) (by kernel_rfl) fun ha121 _ => ?_)); replace ha121 : (length (sIndexOf (toTable aT) aCol) : Int) ≤ 4294967296 := ha121; refine AW.wf_arr (id := 104) (ep := 1) (t := (.int .i64)) (xs := (a : List Int)) (by kernel_rfl) fun ha122 _ => ?_; replace ha122 : (length a : Int) ≤ 4294967296 := ha122; refine r1U hC1 [0, 1, 5, 9, 1001, 1002, 1006, 1008] [8, 84, 104] [(9, .bool (decide ((i : Int) < (length a : Int))))] [] ?_; refine cdE e119 ?_ ?_
      ·
       intro h123q e124; refine kpU [0, 1, 5, 1001, 1002, 1006, 1008] [8, 84, 104] [] [] ?_; refine AW.skip (seq (block (seq (AW.wf_arr (id := 84) (ep := 1) (t := (.int .i64)) (xs := ((sIndexOf (toTable aT) aCol) : List Int)) (by kernel_rfl) fun ha125 _ => ?_)))); replace ha125 : (length (sIndexOf (toTable aT) aCol) : Int) ≤ 4294967296 := ha125; refine AW.wf_arr (id := 104) (ep := 1) (t := (.int .i64)) (xs := (a : List Int)) (by kernel_rfl) fun ha126 _ => ?_; replace ha126 : (length a : Int) ≤ 4294967296 := ha126; refine r0U hC1 [0, 1, 5, 1001, 1002, 1006, 1008] [8, 84, 104] [] [(104, .arr 1 (.int .i64) ((set a i (k1 : Int)) : List Int))] [(0 ≤ (i : Int) ∧ (i : Int) < (length a : Int))] ?_ ?_
       ·
        exact ⟨(by omega), trivial⟩
       refine AW.wf_arr (id := 84) (ep := 1) (t := (.int .i64)) (xs := ((sIndexOf (toTable aT) aCol) : List Int)) (by kernel_rfl) fun ha127 _ => ?_; replace ha127 : (length (sIndexOf (toTable aT) aCol) : Int) ≤ 4294967296 := ha127; refine AW.wf_arr (id := 104) (ep := 1) (t := (.int .i64)) (xs := ((set a i (k1 : Int)) : List Int)) (by kernel_rfl) fun ha128 _ => ?_; replace ha128 : ((length (set a i (k1 : Int)) : Nat) : Int) ≤ 4294967296 := ha128; refine r0U hC1 [0, 1, 5, 1001, 1002, 1006, 1008] [8, 84, 104] [(1, .int .i64 ((k1 + 1 : Nat) : Int))] [] [(-9223372036854775808 ≤ ((k1 + 1 : Nat) : Int) ∧ ((k1 + 1 : Nat) : Int) ≤ 9223372036854775807)] ?_ ?_
       ·
        exact ⟨(by omega), trivial⟩
       refine AW.wf_arr (id := 84) (ep := 1) (t := (.int .i64)) (xs := ((sIndexOf (toTable aT) aCol) : List Int)) (by kernel_rfl) fun ha129 _ => ?_; replace ha129 : (length (sIndexOf (toTable aT) aCol) : Int) ≤ 4294967296 := ha129; refine AW.wf_arr (id := 104) (ep := 1) (t := (.int .i64)) (xs := ((set a i (k1 : Int)) : List Int)) (by kernel_rfl) fun ha130 _ => ?_; replace ha130 : ((length (set a i (k1 : Int)) : Nat) : Int) ≤ 4294967296 := ha130; refine r0U hC1 [0, 1, 5, 1001, 1002, 1006, 1008] [8, 84, 104] [(5, .int .i64 ((i + 1 : Nat) : Int))] [] [(-9223372036854775808 ≤ ((i + 1 : Nat) : Int) ∧ ((i + 1 : Nat) : Int) ≤ 9223372036854775807)] ?_ ?_
       ·
        exact ⟨(by omega), trivial⟩
       refine bk (k1 + 1, i + 1, (set a i (k1 : Int))) e124 hk118 ?_ ?_
       · simp only [List.length_set] at *; omega
       · simp only [lens]; omega
      · intro h131q e132; refine kpU [1, 1001, 1002, 1006, 1008] [8, 84, 104] [] [] ?_; refine exit ?_; refine meet (k1, a) (by kernel_rfl) ⟨?_, e132⟩; dsimp only; omega
     ·
      intro x hJ0 e133; obtain ⟨k1, a⟩ := x; have e134 := e62.trans (then_eq e133); dsimp only at e134; refine seq (AW.wf_arr (id := 84) (ep := 1) (t := (.int .i64)) (xs := ((sIndexOf (toTable aT) aCol) : List Int)) (by kernel_rfl) fun ha135 _ => ?_); replace ha135 : (length (sIndexOf (toTable aT) aCol) : Int) ≤ 4294967296 := ha135; refine AW.wf_arr (id := 104) (ep := 1) (t := (.int .i64)) (xs := (a : List Int)) (by kernel_rfl) fun ha136 _ => ?_; replace ha136 : (length a : Int) ≤ 4294967296 := ha136; refine r1U hC1 [4, 1001, 1002, 1006, 1008] [8, 84, 104] [(4, .int .i64 (k1 : Int))] [] ?_; refine ret ?_; refine ⟨[.int .i64 (k1 : Int)], by kernel_rfl, ?_⟩; refine AWO.keep [1, 2, 6, 8, 49] [8, 84, 104] ⟨[(1, .int .i64 aCol), (2, .ref 8 1 0), (6, .arr 84 1), (8, .arr 104 1), (49, .int .i64 (k1 : Int))], [(8, .box 1 [.int .i64 (Tab.Width aT), .data (.slice (.slice (.named 1))) ((Tab.Rows aT) : List (List Val))]), (84, .arr 1 (.int .i64) ((sIndexOf (toTable aT) aCol) : List Int)), (104, .arr 1 (.int .i64) (a : List Int))]⟩ (by kernel_rfl) ?_
      refine AWO.runU hC false [] [3] [] [1, 2, 6, 8, 10] [8, 84, 104]
       [(10, .int .i64 (k1 : Int))] []
       [] (by rfl) (by kernel_rfl) ?_ ?_
      · exact trivial
      refine AWO.nil ?_; refine seq (AW.wf_arr (id := 84) (ep := 1) (t := (.int .i64)) (xs := ((sIndexOf (toTable aT) aCol) : List Int)) (by kernel_rfl) fun ha137 _ => ?_); replace ha137 : (length (sIndexOf (toTable aT) aCol) : Int) ≤ 4294967296 := ha137; refine AW.wf_arr (id := 104) (ep := 1) (t := (.int .i64)) (xs := (a : List Int)) (by kernel_rfl) fun ha138 _ => ?_; replace ha138 : (length a : Int) ≤ 4294967296 := ha138; refine r1U hC [1, 2, 6, 8, 10, 11] [8, 84, 104] [(11, .int .i64 1)] [] ?_; refine seq (AW.wf_arr (id := 84) (ep := 1) (t := (.int .i64)) (xs := ((sIndexOf (toTable aT) aCol) : List Int)) (by kernel_rfl) fun ha139 _ => ?_); replace ha139 : (length (sIndexOf (toTable aT) aCol) : Int) ≤ 4294967296 := ha139; refine AW.wf_arr (id := 104) (ep := 1) (t := (.int .i64)) (xs := (a : List Int)) (by kernel_rfl) fun ha140 _ => ?_; replace ha140 : (length a : Int) ≤ 4294967296 := ha140; refine r0U hC [1, 2, 6, 8, 10, 11] [8, 84, 104] [(11, .int .i64 (heldIntS a 1))] [] [((0 ≤ (1 : Int) ∧ (1 : Int) ≤ 1099511627776) ∧ (length a : Int) ≤ 4294967296)] ?_ ?_
      ·
       exact ⟨(by omega), trivial⟩
      refine seq (seq (AW.wf_arr (id := 84) (ep := 1) (t := (.int .i64)) (xs := ((sIndexOf (toTable aT) aCol) : List Int)) (by kernel_rfl) fun ha141 _ => ?_)); replace ha141 : (length (sIndexOf (toTable aT) aCol) : Int) ≤ 4294967296 := ha141; refine AW.wf_arr (id := 104) (ep := 1) (t := (.int .i64)) (xs := (a : List Int)) (by kernel_rfl) fun ha142 _ => ?_; replace ha142 : (length a : Int) ≤ 4294967296 := ha142; refine r1U hC [1, 2, 6, 8, 10, 11, 54] [8, 84, 104] [(54, .bool (decide ((heldIntS a 1) < 0)))] [] ?_; refine cdE e134 ?_ ?_
      · intro h143q e144; refine seq (AW.wf_arr (id := 84) (ep := 1) (t := (.int .i64)) (xs := ((sIndexOf (toTable aT) aCol) : List Int)) (by kernel_rfl) fun ha145 _ => ?_); replace ha145 : (length (sIndexOf (toTable aT) aCol) : Int) ≤ 4294967296 := ha145; refine AW.wf_arr (id := 104) (ep := 1) (t := (.int .i64)) (xs := (a : List Int)) (by kernel_rfl) fun ha146 _ => ?_; replace ha146 : (length a : Int) ≤ 4294967296 := ha146; refine r1 hC [4] [] ⟨[(4, .bool false)], []⟩ ?_; exact ret (rS .bool e144)
      ·
       intro h147q e148; refine kpU [1, 2, 6, 8, 10, 11] [8, 84, 104] [] [] ?_; refine AW.skip (seq (seq (AW.wf_arr (id := 84) (ep := 1) (t := (.int .i64)) (xs := ((sIndexOf (toTable aT) aCol) : List Int)) (by kernel_rfl) fun ha149 _ => ?_))); replace ha149 : (length (sIndexOf (toTable aT) aCol) : Int) ≤ 4294967296 := ha149; refine AW.wf_arr (id := 104) (ep := 1) (t := (.int .i64)) (xs := (a : List Int)) (by kernel_rfl) fun ha150 _ => ?_; replace ha150 : (length a : Int) ≤ 4294967296 := ha150; refine r1U hC [1, 2, 6, 8, 10, 57] [8, 84, 104] [(57, .bool ((heldIntS a 1) != (k1 : Int)))] [] ?_; refine cdE e148 ?_ ?_
       · intro h151q e152; refine seq (AW.wf_arr (id := 84) (ep := 1) (t := (.int .i64)) (xs := ((sIndexOf (toTable aT) aCol) : List Int)) (by kernel_rfl) fun ha153 _ => ?_); replace ha153 : (length (sIndexOf (toTable aT) aCol) : Int) ≤ 4294967296 := ha153; refine AW.wf_arr (id := 104) (ep := 1) (t := (.int .i64)) (xs := (a : List Int)) (by kernel_rfl) fun ha154 _ => ?_; replace ha154 : (length a : Int) ≤ 4294967296 := ha154; refine r1 hC [4] [] ⟨[(4, .bool false)], []⟩ ?_; exact ret (rS .bool e152)
       ·
        intro h155q e156; refine kpU [1, 2, 6, 8, 10] [8, 84, 104] [] [] ?_; refine AW.skip (seq (AW.wf_arr (id := 84) (ep := 1) (t := (.int .i64)) (xs := ((sIndexOf (toTable aT) aCol) : List Int)) (by kernel_rfl) fun ha157 _ => ?_)); replace ha157 : (length (sIndexOf (toTable aT) aCol) : Int) ≤ 4294967296 := ha157; refine AW.wf_arr (id := 104) (ep := 1) (t := (.int .i64)) (xs := (a : List Int)) (by kernel_rfl) fun ha158 _ => ?_; replace ha158 : (length a : Int) ≤ 4294967296 := ha158; refine r0U hC [6, 8, 10, 12] [84, 104, 244] [(12, .arr 244 1)] [(244, .arr 1 (.int .i64) ((iIndexOf (toTable aT) aCol) : List Int))] [((length aT.Rows : Int) ≤ 1048576 ∧ ∀ i : Nat, i < length aT.Rows → (length (getD aT.Rows i []) : Int) ≤ 1048576), (True)] ?_ ?_
        ·
         exact ⟨(szTable_fit (by assumption)), trivial, trivial⟩
        refine seq (seq (AW.wf_arr (id := 84) (ep := 1) (t := (.int .i64)) (xs := ((sIndexOf (toTable aT) aCol) : List Int)) (by kernel_rfl) fun ha159 _ => ?_)); replace ha159 : (length (sIndexOf (toTable aT) aCol) : Int) ≤ 4294967296 := ha159; refine AW.wf_arr (id := 104) (ep := 1) (t := (.int .i64)) (xs := (a : List Int)) (by kernel_rfl) fun ha160 _ => ?_; replace ha160 : (length a : Int) ≤ 4294967296 := ha160; refine AW.wf_arr (id := 244) (ep := 1) (t := (.int .i64)) (xs := ((iIndexOf (toTable aT) aCol) : List Int)) (by kernel_rfl) fun ha161 _ => ?_; replace ha161 : (length (iIndexOf (toTable aT) aCol) : Int) ≤ 4294967296 := ha161; refine r0U hC [8, 10, 65] [104] [(65, .bool (!(eqIntS (iIndexOf (toTable aT) aCol) (sIndexOf (toTable aT) aCol))))] [] [(True)] ?_ ?_
        ·
         exact ⟨trivial, trivial⟩
        refine cdE e156 ?_ ?_
        · intro h162q e163; refine seq (AW.wf_arr (id := 104) (ep := 1) (t := (.int .i64)) (xs := (a : List Int)) (by kernel_rfl) fun ha164 _ => ?_); replace ha164 : (length a : Int) ≤ 4294967296 := ha164; refine r1 hC [4] [] ⟨[(4, .bool false)], []⟩ ?_; exact ret (rS .bool e163)
        ·
         intro h165q e166; refine kpU [8, 10] [104] [] [] ?_; refine AW.skip (seq (AW.wf_arr (id := 104) (ep := 1) (t := (.int .i64)) (xs := (a : List Int)) (by kernel_rfl) fun ha167 _ => ?_)); replace ha167 : (length a : Int) ≤ 4294967296 := ha167; refine r1 hC [8, 10, 11] [104] ⟨[(8, .arr 104 1), (10, .int .i64 (k1 : Int)), (11, .int .i64 1)], [(104, .arr 1 (.int .i64) (a : List Int))]⟩ ?_; refine seq (AW.wf_arr (id := 104) (ep := 1) (t := (.int .i64)) (xs := (a : List Int)) (by kernel_rfl) fun ha168 _ => ?_); replace ha168 : (length a : Int) ≤ 4294967296 := ha168; refine r0U hC [10, 11] [] [(11, .int .i64 (heldIntS a 1))] [] [((0 ≤ (1 : Int) ∧ (1 : Int) ≤ 1099511627776) ∧ (length a : Int) ≤ 4294967296)] ?_ ?_
         ·
          exact ⟨(by omega), trivial⟩
         refine seq (seq (r1U hC [10, 11, 70] [] [(70, .bool (decide ((heldIntS a 1) < 0)))] [] ?_)); refine cdE e166 ?_ ?_
         · intro h169q e170; refine seq (r1 hC [4] [] ⟨[(4, .bool false)], []⟩ ?_); exact ret (rS .bool e170)
         ·
          intro h171q e172; refine kpU [10, 11] [] [] [] ?_; refine AW.skip (seq (seq (r1 hC [73] [] ⟨[(73, .bool ((heldIntS a 1) != (k1 : Int)))], []⟩ ?_))); refine cdE e172 ?_ ?_
          · intro h173q e174; refine seq (r1 hC [4] [] ⟨[(4, .bool false)], []⟩ ?_); exact ret (rS .bool e174)
          · intro h175q e176; refine kp [] [] ⟨[], []⟩ ?_; refine AW.skip (seq (r1 hC [4] [] ⟨[(4, .bool true)], []⟩ ?_)); exact ret (rS .bool e176)

end
end Go.Proofs.Ytjcjpeckfikfkaa
