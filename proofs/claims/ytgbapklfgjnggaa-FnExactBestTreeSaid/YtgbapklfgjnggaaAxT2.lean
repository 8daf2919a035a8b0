/-
  A part of the proof of this claim (AxT2): what functions of the program compute, and plain facts of that. No conditions.
-/
import Derived.Test.YtgbapklfgjnggaaAxT1
set_option linter.all false
namespace Go.Proofs.Ytgbapklfgjnggaa
open Go Go.Am
noncomputable section

def heldJoinTreeS_l0 (self : (List JoinTree) → Int → Int) (a : List JoinTree) : Nat → Int → Nat → Int ⊕ Int
 | 0, k1, i => .inl k1
 | k + 1, k1, i => (bif (decide (((i : Nat) : Int) < ((List.length a : Nat) : Int))) then (bif ((JoinTree.Leaf (List.getD a i JoinTree.zero)) != k1) then (.inr (-1)) else (bif (decide ((self (JoinTree.Kids (List.getD a i JoinTree.zero)) (IntKind.wrap .i64 (k1 + 1))) < 0)) then (.inr (-1)) else (heldJoinTreeS_l0 self a k (self (JoinTree.Kids (List.getD a i JoinTree.zero)) (IntKind.wrap .i64 (k1 + 1))) (i + 1)))) else (.inl k1))

def heldJoinTreeS_r : Nat → (List JoinTree) → Int → Int
 | 0, a, k0 => 0
 | fuel + 1, a, k0 => (Sum.elim (fun z => (fun (k1 : Int) => k1) z) (fun r => r) (heldJoinTreeS_l0 (heldJoinTreeS_r fuel) a ((List.length a) - 0 + 1) k0 0))

def heldJoinTreeS (a : List JoinTree) (k0 : Int) : Int := heldJoinTreeS_r (SizeOf.sizeOf a + 1) a k0

def heldJoinTreeS_spn (fuel : Nat) : FnSpec := mkSpec [.val (.slice (.named 3)), .val (.int .i64)] [.val (.int .i64)] (fun (a : List JoinTree) (k0 : Int) => (True) ∧ SizeOf.sizeOf a < fuel) (fun (a : List JoinTree) (k0 : Int) => [⟨(.int .i64), (heldJoinTreeS_r fuel a k0)⟩])

def heldJoinTreeS_sp : FnSpec := mkSpec [.val (.slice (.named 3)), .val (.int .i64)] [.val (.int .i64)] (fun (a : List JoinTree) (k0 : Int) => True) (fun (a : List JoinTree) (k0 : Int) => [⟨(.int .i64), (heldJoinTreeS a k0)⟩])

theorem heldJoinTreeS_okn (fuel : Nat) : FnOK Try.prog 77 (heldJoinTreeS_spn fuel) := by
 induction fuel with
 | zero => exact FnOK.never Try.func77 (by kernel_rfl) rfl (fun _ _ h => absurd h.2 (Nat.not_lt_zero _))
 | succ fuel ih => ?_
 have hC : CtxOK Try.prog (mkCtx tyL [(77, (heldJoinTreeS_spn fuel))]) := CtxOK.cons ih (CtxOK.nil tyOK)
 refine FnOK.of_body Try.func77 (by kernel_rfl) rfl (C := (mkCtx tyL [(77, (heldJoinTreeS_spn fuel))])) hC.ty (by kernel_rfl) ?_
 intro (a : List JoinTree) (k0 : Int) hwf hpre E
 have hpre : (True) ∧ SizeOf.sizeOf a < fuel + 1 := hpre
 have hw_a : Wf ⟨(.slice (.named 3)), (a : List JoinTree)⟩ := hwf _ (List.Mem.head _)
 have hl_a : ((List.length a : Nat) : Int) ≤ 9223372036854775807 := hw_a.len
 have hw_k0 : Wf ⟨(.int .i64), (k0 : Int)⟩ := hwf _ (List.Mem.tail _ (List.Mem.head _))
 have hr_k0 : -9223372036854775808 ≤ k0 ∧ k0 ≤ 9223372036854775807 := hw_k0.int_inv
 have e0 : heldJoinTreeS_r (fuel + 1) a k0 = heldJoinTreeS_r (fuel + 1) a k0 := rfl
 refine AW.seq ?_
 refine AW.reg hC  true [] [0, 1] []
  ⟨[(0, .data (.slice (.named 3)) (a : List JoinTree)), (1, .int .i64 k0)], []⟩
  [] (by kernel_rfl) ?_ ?_
 ·
  exact trivial
 refine AW.seq (AW.seq (AW.r1 hC [0, 1, 5] [] ⟨[(0, .data (.slice (.named 3)) (a : List JoinTree)), (1, .int .i64 k0), (5, .int .i64 0)], []⟩ ?_))
 refine AW.cutQ (α := Int) (fun x => ⟨[(1, .int .i64 x)], []⟩) (fun x => (True) ∧ (heldJoinTreeS_l0 (heldJoinTreeS_r fuel) a ((List.length a) - 0 + 1) k0 0) = (.inl x)) ?_ ?_
 ·
  skip
  refine AW.block (AW.loop (α := Int × Nat) (fun x => ⟨[(0, .data (.slice (.named 3)) (a : List JoinTree)), (1, .int .i64 x.1), (5, .int .i64 ((x.2 : Nat) : Int))], []⟩) (fun x => (True) ∧ ∃ k, (List.length a) - x.2 < k ∧ (heldJoinTreeS_l0 (heldJoinTreeS_r fuel) a ((List.length a) - 0 + 1) k0 0) = heldJoinTreeS_l0 (heldJoinTreeS_r fuel) a k x.1 x.2) (fun x => (List.length a) - x.2) (k0, 0) (by kernel_rfl) ⟨?_, _, Nat.lt_succ_self _, rfl⟩ ?_)
  ·
   show True
   exact trivial
  ·
   intro x hR
   obtain ⟨k1, i⟩ := x
   obtain ⟨hI0, k45, hk43, e44⟩ := hR
   replace hI0 : True := hI0
   replace hk43 : (List.length a) - i < k45 := hk43
   obtain ⟨k45q, rfl⟩ : ∃ k, k45 = k + 1 := ⟨k45 - 1, by omega⟩
   refine AW.seq (AW.seq ?_)
   refine AW.reg hC  true [] [0, 1, 5, 9] []
    ⟨[(0, .data (.slice (.named 3)) (a : List JoinTree)), (1, .int .i64 k1), (5, .int .i64 ((i : Nat) : Int)), (9, .bool (decide (((i : Nat) : Int) < ((List.length a : Nat) : Int))))], []⟩
    [] (by kernel_rfl) ?_ ?_
   ·
    exact trivial
   refine AW.cd (decide (((i : Nat) : Int) < ((List.length a : Nat) : Int))) ?_ ?_
   ·
    intro h46
    have h46q : ((i : Nat) : Int) < ((List.length a : Nat) : Int) := (of_decide_eq_true h46)
    have e47 := e44.trans (Go.Am.bif_t h46)
    refine AW.kp [0, 1, 5] [] ⟨[(0, .data (.slice (.named 3)) (a : List JoinTree)), (1, .int .i64 k1), (5, .int .i64 ((i : Nat) : Int))], []⟩ ?_
    refine AW.skip (AW.seq (AW.block (AW.seq (AW.seq ?_))))
    refine AW.reg hC  true [] [0, 1, 5, 18] []
     ⟨[(0, .data (.slice (.named 3)) (a : List JoinTree)), (1, .int .i64 k1), (5, .int .i64 ((i : Nat) : Int)), (18, .bool ((JoinTree.Leaf (List.getD a i JoinTree.zero)) != k1))], []⟩
     [(0 ≤ ((i : Nat) : Int) ∧ ((i : Nat) : Int) < ((List.length a : Nat) : Int))] (by kernel_rfl) ?_ ?_
    ·
     refine ⟨?_, trivial⟩
     ·
      omega
    refine AW.cd ((JoinTree.Leaf (List.getD a i JoinTree.zero)) != k1) ?_ ?_
    ·
     intro h48
     have h48q : (JoinTree.Leaf (List.getD a i JoinTree.zero)) ≠ k1 := (Go.Am.bne_pos h48)
     have e49 := e47.trans (Go.Am.bif_t h48)
     refine AW.seq ?_
     refine AW.reg hC  true [] [4] []
      ⟨[(4, .int .i64 (-1))], []⟩
      [] (by kernel_rfl) ?_ ?_
     ·
      exact trivial
     refine AW.ret ?_
     have e50 := e0.trans (Go.Am.elim_r e49)
     exact AW.retE (β := Int) (fun v => [⟨(.int .i64), v⟩]) (fun v => []) (v := (-1)) e50 (by kernel_rfl) rfl rfl
    ·
     intro h51
     have h51q : (JoinTree.Leaf (List.getD a i JoinTree.zero)) = k1 := (Go.Am.bne_neg h51)
     have e52 := e47.trans (Go.Am.bif_f h51)
     refine AW.kp [0, 1, 5] [] ⟨[(0, .data (.slice (.named 3)) (a : List JoinTree)), (1, .int .i64 k1), (5, .int .i64 ((i : Nat) : Int))], []⟩ ?_
     refine AW.skip (AW.seq ?_)
     refine AW.reg hC  true [] [0, 1, 5] []
      ⟨[(0, .data (.slice (.named 3)) (a : List JoinTree)), (1, .int .i64 (IntKind.wrap .i64 (k1 + 1))), (5, .int .i64 ((i : Nat) : Int))], []⟩
      [] (by kernel_rfl) ?_ ?_
     ·
      exact trivial
     refine AW.seq ?_
     refine AW.reg hC  true [] [0, 1, 5] []
      ⟨[(0, .data (.slice (.named 3)) (a : List JoinTree)), (1, .int .i64 ((heldJoinTreeS_r fuel) (JoinTree.Kids (List.getD a i JoinTree.zero)) (IntKind.wrap .i64 (k1 + 1)))), (5, .int .i64 ((i : Nat) : Int))], []⟩
      [(0 ≤ ((i : Nat) : Int) ∧ ((i : Nat) : Int) < ((List.length a : Nat) : Int)), ((True) ∧ SizeOf.sizeOf (JoinTree.Kids (List.getD a i JoinTree.zero)) < fuel)] (by kernel_rfl) ?_ ?_
     ·
      refine ⟨?_, ?_, trivial⟩
      ·
       omega
      ·
       exact ⟨trivial, Nat.lt_of_lt_of_le (kids_szL (by omega)) (Nat.le_of_lt_succ hpre.2)⟩
     refine AW.seq ?_
     refine AW.reg hC  true [] [0, 1, 5, 29] []
      ⟨[(0, .data (.slice (.named 3)) (a : List JoinTree)), (1, .int .i64 ((heldJoinTreeS_r fuel) (JoinTree.Kids (List.getD a i JoinTree.zero)) (IntKind.wrap .i64 (k1 + 1)))), (5, .int .i64 ((i : Nat) : Int)), (29, .bool (decide (((heldJoinTreeS_r fuel) (JoinTree.Kids (List.getD a i JoinTree.zero)) (IntKind.wrap .i64 (k1 + 1))) < 0)))], []⟩
      [] (by kernel_rfl) ?_ ?_
     ·
      exact trivial
     refine AW.cd (decide (((heldJoinTreeS_r fuel) (JoinTree.Kids (List.getD a i JoinTree.zero)) (IntKind.wrap .i64 (k1 + 1))) < 0)) ?_ ?_
     ·
      intro h53
      have h53q : ((heldJoinTreeS_r fuel) (JoinTree.Kids (List.getD a i JoinTree.zero)) (IntKind.wrap .i64 (k1 + 1))) < 0 := (of_decide_eq_true h53)
      have e54 := e52.trans (Go.Am.bif_t h53)
      refine AW.seq ?_
      refine AW.reg hC  true [] [4] []
       ⟨[(4, .int .i64 (-1))], []⟩
       [] (by kernel_rfl) ?_ ?_
      ·
       exact trivial
      refine AW.ret ?_
      have e55 := e0.trans (Go.Am.elim_r e54)
      exact AW.retE (β := Int) (fun v => [⟨(.int .i64), v⟩]) (fun v => []) (v := (-1)) e55 (by kernel_rfl) rfl rfl
     ·
      intro h56
      have h56q : ¬ (((heldJoinTreeS_r fuel) (JoinTree.Kids (List.getD a i JoinTree.zero)) (IntKind.wrap .i64 (k1 + 1))) < 0) := (of_decide_eq_false h56)
      have e57 := e52.trans (Go.Am.bif_f h56)
      refine AW.kp [0, 1, 5] [] ⟨[(0, .data (.slice (.named 3)) (a : List JoinTree)), (1, .int .i64 ((heldJoinTreeS_r fuel) (JoinTree.Kids (List.getD a i JoinTree.zero)) (IntKind.wrap .i64 (k1 + 1)))), (5, .int .i64 ((i : Nat) : Int))], []⟩ ?_
      refine AW.skip (AW.r0 hC [0, 1, 5] [] ⟨[(0, .data (.slice (.named 3)) (a : List JoinTree)), (1, .int .i64 ((heldJoinTreeS_r fuel) (JoinTree.Kids (List.getD a i JoinTree.zero)) (IntKind.wrap .i64 (k1 + 1)))), (5, .int .i64 ((i + 1 : Nat) : Int))], []⟩ [(-9223372036854775808 ≤ ((i + 1 : Nat) : Int) ∧ ((i + 1 : Nat) : Int) ≤ 9223372036854775807)] ?_ ?_)
      ·
       refine ⟨?_, trivial⟩
       ·
        omega
      refine AW.back (x := (k1, i)) (((heldJoinTreeS_r fuel) (JoinTree.Kids (List.getD a i JoinTree.zero)) (IntKind.wrap .i64 (k1 + 1))), i + 1) (by kernel_rfl) ⟨?_, k45q, ?_, e57⟩ ?_
      ·
       show True
       assumption
      ·
       show (List.length a) - (i + 1) < k45q
       omega
      ·
       show (List.length a) - (i + 1) < (List.length a) - i
       omega
   ·
    intro h58
    have h58q : ¬ (((i : Nat) : Int) < ((List.length a : Nat) : Int)) := (of_decide_eq_false h58)
    have e59 := e44.trans (Go.Am.bif_f h58)
    refine AW.kp [1] [] ⟨[(1, .int .i64 k1)], []⟩ ?_
    refine AW.exit ?_
    refine AW.meet k1 (by kernel_rfl) ⟨?_, e59⟩
    show True
    assumption
 ·
  intro k1 hR
  obtain ⟨hJ0, e60⟩ := hR
  replace hJ0 : True := hJ0
  have e61 := e0.trans (Go.Am.elim_l e60)
  refine AW.seq ?_
  refine AW.reg hC  true [] [4] []
   ⟨[(4, .int .i64 k1)], []⟩
   [] (by kernel_rfl) ?_ ?_
  ·
   exact trivial
  exact AW.ret (AW.retE (β := Int) (fun v => [⟨(.int .i64), v⟩]) (fun v => []) (v := k1) e61 (by kernel_rfl) rfl rfl)

theorem heldJoinTreeS_fu : AllTV (heldJoinTreeS_sp.ps.map PK.ty) (fun tvs => heldJoinTreeS_sp.pre tvs → ∃ k, (heldJoinTreeS_spn k).pre tvs ∧ (heldJoinTreeS_spn k).fn tvs = heldJoinTreeS_sp.fn tvs ∧ (heldJoinTreeS_spn k).bx tvs = heldJoinTreeS_sp.bx tvs) :=
 (fun (a : List JoinTree) (k0 : Int) h => ⟨SizeOf.sizeOf a + 1, (show (True) ∧ SizeOf.sizeOf a < SizeOf.sizeOf a + 1 from ⟨h, Nat.lt_succ_self _⟩), (show (heldJoinTreeS_spn (SizeOf.sizeOf a + 1)).fn [⟨(.slice (.named 3)), (a : List JoinTree)⟩, ⟨(.int .i64), (k0 : Int)⟩] = ([⟨(.int .i64), (heldJoinTreeS_r (SizeOf.sizeOf a + 1) a k0)⟩] : List TV) from by kernel_rfl).trans (show ([⟨(.int .i64), (heldJoinTreeS_r (SizeOf.sizeOf a + 1) a k0)⟩] : List TV) = heldJoinTreeS_sp.fn [⟨(.slice (.named 3)), (a : List JoinTree)⟩, ⟨(.int .i64), (k0 : Int)⟩] from by kernel_rfl), by kernel_rfl⟩)

theorem heldJoinTreeS_ok : FnOK Try.prog 77 heldJoinTreeS_sp := FnOK.of_fuel heldJoinTreeS_okn (fun _ => rfl) (fun _ => rfl) (AllTV.get heldJoinTreeS_fu)

def heldJoinTree (a : JoinTree) (k0 : Int) : Int := (bif (decide ((heldJoinTreeS (JoinTree.Kids a) k0) < 0)) then (-1) else (heldJoinTreeS (JoinTree.Kids a) k0))

def heldJoinTree_sp : FnSpec := mkSpec [.val (.named 3), .val (.int .i64)] [.val (.int .i64)] (fun (a : JoinTree) (k0 : Int) => True) (fun (a : JoinTree) (k0 : Int) => [⟨(.int .i64), (heldJoinTree a k0)⟩])

theorem heldJoinTree_ok : FnOK Try.prog 45 heldJoinTree_sp := by
 have hC : CtxOK Try.prog (mkCtx tyL [(77, heldJoinTreeS_sp)]) := CtxOK.cons heldJoinTreeS_ok (CtxOK.nil tyOK)
 refine FnOK.of_body Try.func45 (by kernel_rfl) rfl (C := (mkCtx tyL [(77, heldJoinTreeS_sp)])) hC.ty (by kernel_rfl) ?_
 intro (a : JoinTree) (k0 : Int) hwf hpre E
 have hpre : True := hpre
 have hw_a : Wf ⟨(.named 3), (a : JoinTree)⟩ := hwf _ (List.Mem.head _)
 have hr_a_Leaf : -9223372036854775808 ≤ JoinTree.Leaf a ∧ JoinTree.Leaf a ≤ 9223372036854775807 := (hw_a.field (tv := ⟨(.int .i64), JoinTree.Leaf a⟩) (List.Mem.head _)).int_inv
 have hl_a_Kids : ((List.length (JoinTree.Kids a) : Nat) : Int) ≤ 9223372036854775807 := (hw_a.field (tv := ⟨(.slice (.named 3)), JoinTree.Kids a⟩) (List.Mem.tail _ (List.Mem.head _))).len
 have hw_k0 : Wf ⟨(.int .i64), (k0 : Int)⟩ := hwf _ (List.Mem.tail _ (List.Mem.head _))
 have hr_k0 : -9223372036854775808 ≤ k0 ∧ k0 ≤ 9223372036854775807 := hw_k0.int_inv
 have e0 : heldJoinTree a k0 = heldJoinTree a k0 := rfl
 refine AW.seq ?_
 refine AW.reg hC  true [] [1, 2] [8]
  ⟨[(1, .int .i64 k0), (2, .ref 8 1 0)], [(8, .box 1 [.int .i64 (JoinTree.Leaf a), .data (.slice (.named 3)) ((JoinTree.Kids a) : List JoinTree)])]⟩
  [] (by kernel_rfl) ?_ ?_
 ·
  exact trivial
 refine AW.seq (AW.r0 hC [1] [] ⟨[(1, .int .i64 (heldJoinTreeS (JoinTree.Kids a) k0))], []⟩ [(True)] ?_ ?_)
 ·
  refine ⟨?_, trivial⟩
  ·
   trivial
 refine AW.seq (AW.seq ?_)
 refine AW.reg hC  true [] [1, 10] []
  ⟨[(1, .int .i64 (heldJoinTreeS (JoinTree.Kids a) k0)), (10, .bool (decide ((heldJoinTreeS (JoinTree.Kids a) k0) < 0)))], []⟩
  [] (by kernel_rfl) ?_ ?_
 ·
  exact trivial
 refine AW.cd (decide ((heldJoinTreeS (JoinTree.Kids a) k0) < 0)) ?_ ?_
 ·
  intro h1
  have h1q : (heldJoinTreeS (JoinTree.Kids a) k0) < 0 := (of_decide_eq_true h1)
  have e2 := e0.trans (Go.Am.bif_t h1)
  refine AW.seq ?_
  refine AW.reg hC  true [] [4] []
   ⟨[(4, .int .i64 (-1))], []⟩
   [] (by kernel_rfl) ?_ ?_
  ·
   exact trivial
  exact AW.ret (AW.retE (β := Int) (fun v => [⟨(.int .i64), v⟩]) (fun v => []) (v := (-1)) e2 (by kernel_rfl) rfl rfl)
 ·
  intro h3
  have h3q : ¬ ((heldJoinTreeS (JoinTree.Kids a) k0) < 0) := (of_decide_eq_false h3)
  have e4 := e0.trans (Go.Am.bif_f h3)
  refine AW.kp [1] [] ⟨[(1, .int .i64 (heldJoinTreeS (JoinTree.Kids a) k0))], []⟩ ?_
  refine AW.skip (AW.seq ?_)
  refine AW.reg hC  true [] [4] []
   ⟨[(4, .int .i64 (heldJoinTreeS (JoinTree.Kids a) k0))], []⟩
   [] (by kernel_rfl) ?_ ?_
  ·
   exact trivial
  exact AW.ret (AW.retE (β := Int) (fun v => [⟨(.int .i64), v⟩]) (fun v => []) (v := (heldJoinTreeS (JoinTree.Kids a) k0)) e4 (by kernel_rfl) rfl rfl)

def treeOfD_l0 (mask : Int) : Nat → Nat → Nat
 | 0, leaf => leaf
 | k + 1, leaf => (bif (decide (1 < (mask / 2 ^ leaf))) then (treeOfD_l0 mask k (leaf + 1)) else leaf)

def treeOfD_r : Nat → (List Int) → Int → JoinTree
 | 0, firsts, mask => JoinTree.zero
 | fuel + 1, firsts, mask => (bif ((List.getD firsts (Int.toNat mask) 0) == 0) then (Go.Am.andThen (treeOfD_l0 mask (Int.toNat (mask / 2 ^ 0) + 1) 0) (fun z => (fun (leaf : Nat) => (JoinTree.mk ((leaf : Nat) : Int) ([] : List JoinTree))) z)) else (JoinTree.mk 0 ([(JoinTree.mk (JoinTree.Leaf ((treeOfD_r fuel) firsts (List.getD firsts (Int.toNat mask) 0))) (JoinTree.Kids ((treeOfD_r fuel) firsts (List.getD firsts (Int.toNat mask) 0)))), (JoinTree.mk (JoinTree.Leaf ((treeOfD_r fuel) firsts (bits .andNot .i64 mask (List.getD firsts (Int.toNat mask) 0)))) (JoinTree.Kids ((treeOfD_r fuel) firsts (bits .andNot .i64 mask (List.getD firsts (Int.toNat mask) 0)))))] : List JoinTree)))

def treeOfD (firsts : List Int) (mask : Int) : JoinTree := treeOfD_r (Int.toNat mask + 1) firsts mask

def treeOfD_spn (fuel : Nat) : FnSpec := mkSpec [.val (.slice (.int .i64)), .val (.int .i64)] [.deep (.named 3)] (fun (firsts : List Int) (mask : Int) => (FO firsts ∧ 0 ≤ mask ∧ mask < ((List.length firsts : Nat) : Int)) ∧ Int.toNat mask < fuel) (fun (firsts : List Int) (mask : Int) => [⟨(.named 3), (treeOfD_r fuel firsts mask)⟩])

def treeOfD_sp : FnSpec := mkSpec [.val (.slice (.int .i64)), .val (.int .i64)] [.deep (.named 3)] (fun (firsts : List Int) (mask : Int) => FO firsts ∧ 0 ≤ mask ∧ mask < ((List.length firsts : Nat) : Int)) (fun (firsts : List Int) (mask : Int) => [⟨(.named 3), (treeOfD firsts mask)⟩])

theorem treeOfD_okn (fuel : Nat) : FnOK Try.prog 64 (treeOfD_spn fuel) := by
 induction fuel with
 | zero => exact FnOK.never Try.func64 (by kernel_rfl) rfl (fun _ _ h => absurd h.2 (Nat.not_lt_zero _))
 | succ fuel ih => ?_
 have hC : CtxOK Try.prog { (mkCtx tyL [(64, (treeOfD_spn fuel))]) with deep := true } := CtxOK.deepen (CtxOK.cons ih (CtxOK.nil tyOK))
 refine FnOK.of_body Try.func64 (by kernel_rfl) rfl (C := { (mkCtx tyL [(64, (treeOfD_spn fuel))]) with deep := true }) hC.ty (by kernel_rfl) ?_
 intro (firsts : List Int) (mask : Int) hwf hpre E
 have hpre : (FO firsts ∧ 0 ≤ mask ∧ mask < ((List.length firsts : Nat) : Int)) ∧ Int.toNat mask < fuel + 1 := hpre
 have hw_firsts : Wf ⟨(.slice (.int .i64)), (firsts : List Int)⟩ := hwf _ (List.Mem.head _)
 have hl_firsts : ((List.length firsts : Nat) : Int) ≤ 9223372036854775807 := hw_firsts.len
 have hw_mask : Wf ⟨(.int .i64), (mask : Int)⟩ := hwf _ (List.Mem.tail _ (List.Mem.head _))
 have hr_mask : -9223372036854775808 ≤ mask ∧ mask ≤ 9223372036854775807 := hw_mask.int_inv
 have hF := hpre.1.1.le
 have e0 : treeOfD_r (fuel + 1) firsts mask = treeOfD_r (fuel + 1) firsts mask := rfl
 refine AW.seq (AW.r1 hC [0, 1, 4] [16] ⟨[(0, .data (.slice (.int .i64)) (firsts : List Int)), (1, .int .i64 mask), (4, .ref 16 1 0)], [(16, .box 1 [.int .i64 0, .nilsl])]⟩ ?_)
 refine AW.seq (AW.r0 hC [0, 1, 4, 5] [16] ⟨[(0, .data (.slice (.int .i64)) (firsts : List Int)), (1, .int .i64 mask), (4, .ref 16 1 0), (5, .int .i64 (List.getD firsts (Int.toNat mask) 0))], [(16, .box 1 [.int .i64 0, .nilsl])]⟩ [(0 ≤ mask ∧ mask < ((List.length firsts : Nat) : Int))] ?_ ?_)
 ·
  refine ⟨?_, trivial⟩
  ·
   omega
 refine AW.seq (AW.seq (AW.r1 hC [0, 1, 4, 5, 12] [16] ⟨[(0, .data (.slice (.int .i64)) (firsts : List Int)), (1, .int .i64 mask), (4, .ref 16 1 0), (5, .int .i64 (List.getD firsts (Int.toNat mask) 0)), (12, .bool ((List.getD firsts (Int.toNat mask) 0) == 0))], [(16, .box 1 [.int .i64 0, .nilsl])]⟩ ?_))
 refine AW.cd ((List.getD firsts (Int.toNat mask) 0) == 0) ?_ ?_
 ·
  intro h1
  have h1q : (List.getD firsts (Int.toNat mask) 0) = 0 := (Go.Am.beq_pos h1)
  have e2 := e0.trans (Go.Am.bif_t h1)
  refine AW.seq (AW.r1 hC [1, 4, 6] [16] ⟨[(1, .int .i64 mask), (4, .ref 16 1 0), (6, .int .i64 0)], [(16, .box 1 [.int .i64 0, .nilsl])]⟩ ?_)
  refine AW.seq (AW.cutQ (α := Nat) (fun x => ⟨[(4, .ref 16 1 0), (6, .int .i64 ((x : Nat) : Int))], [(16, .box 1 [.int .i64 0, .nilsl])]⟩) (fun x => (x ≤ 5) ∧ (treeOfD_l0 mask (Int.toNat (mask / 2 ^ 0) + 1) 0) = x) ?_ ?_)
  ·
   skip
   refine AW.block (AW.loop (α := Nat) (fun x => ⟨[(1, .int .i64 mask), (4, .ref 16 1 0), (6, .int .i64 ((x : Nat) : Int))], [(16, .box 1 [.int .i64 0, .nilsl])]⟩) (fun x => (x ≤ 5) ∧ ∃ k, Int.toNat (mask / 2 ^ x) < k ∧ (treeOfD_l0 mask (Int.toNat (mask / 2 ^ 0) + 1) 0) = treeOfD_l0 mask k x) (fun x => Int.toNat (mask / 2 ^ x)) 0 (by kernel_rfl) ⟨?_, _, Nat.lt_succ_self _, rfl⟩ ?_)
   ·
    show 0 ≤ 5
    omega
   ·
    intro leaf hR
    obtain ⟨hI0, k17, hk15, e16⟩ := hR
    replace hI0 : leaf ≤ 5 := hI0
    replace hk15 : Int.toNat (mask / 2 ^ leaf) < k17 := hk15
    obtain ⟨k17q, rfl⟩ : ∃ k, k17 = k + 1 := ⟨k17 - 1, by omega⟩
    refine AW.seq (AW.seq (AW.r0 hC [1, 4, 6, 16] [16] ⟨[(1, .int .i64 mask), (4, .ref 16 1 0), (6, .int .i64 ((leaf : Nat) : Int)), (16, .bool (decide (1 < (mask / 2 ^ leaf))))], [(16, .box 1 [.int .i64 0, .nilsl])]⟩ [(0 ≤ ((leaf : Nat) : Int) ∧ ((leaf : Nat) : Int) ≤ 64)] ?_ ?_))
    ·
     refine ⟨?_, trivial⟩
     ·
      omega
    refine AW.cd (decide (1 < (mask / 2 ^ leaf))) ?_ ?_
    ·
     intro h18
     have h18q : 1 < (mask / 2 ^ leaf) := (of_decide_eq_true h18)
     have e19 := e16.trans (Go.Am.bif_t h18)
     refine AW.kp [1, 4, 6] [16] ⟨[(1, .int .i64 mask), (4, .ref 16 1 0), (6, .int .i64 ((leaf : Nat) : Int))], [(16, .box 1 [.int .i64 0, .nilsl])]⟩ ?_
     refine AW.skip (AW.block (AW.r0 hC [1, 4, 6] [16] ⟨[(1, .int .i64 mask), (4, .ref 16 1 0), (6, .int .i64 ((leaf + 1 : Nat) : Int))], [(16, .box 1 [.int .i64 0, .nilsl])]⟩ [(-9223372036854775808 ≤ ((leaf + 1 : Nat) : Int) ∧ ((leaf + 1 : Nat) : Int) ≤ 9223372036854775807)] ?_ ?_))
     ·
      refine ⟨?_, trivial⟩
      ·
       omega
     refine AW.back (x := leaf) (leaf + 1) (by kernel_rfl) ⟨?_, k17q, ?_, e19⟩ ?_
     ·
      show (leaf + 1) ≤ 5
      have := sh_b (m := mask) (l := leaf) (by omega) (by omega) (by omega)
      omega
     ·
      show Int.toNat (mask / 2 ^ (leaf + 1)) < k17q
      have h := sh_lt (m := mask) (l := leaf) (by omega)
      omega
     ·
      show Int.toNat (mask / 2 ^ (leaf + 1)) < Int.toNat (mask / 2 ^ leaf)
      have h := sh_lt (m := mask) (l := leaf) (by omega)
      omega
    ·
     intro h20
     have h20q : ¬ (1 < (mask / 2 ^ leaf)) := (of_decide_eq_false h20)
     have e21 := e16.trans (Go.Am.bif_f h20)
     refine AW.kp [4, 6] [16] ⟨[(4, .ref 16 1 0), (6, .int .i64 ((leaf : Nat) : Int))], [(16, .box 1 [.int .i64 0, .nilsl])]⟩ ?_
     refine AW.exit ?_
     refine AW.meet leaf (by kernel_rfl) ⟨?_, e21⟩
     show leaf ≤ 5
     exact hI0
  ·
   intro leaf hR
   obtain ⟨hJ0, e22⟩ := hR
   replace hJ0 : leaf ≤ 5 := hJ0
   have e23 := e2.trans (Go.Am.then_eq e22)
   refine AW.seq (AW.r1 hC [4] [16] ⟨[(4, .ref 16 1 0)], [(16, .box 1 [.int .i64 ((leaf : Nat) : Int), .nilsl])]⟩ ?_)
   exact AW.ret (AW.retE (β := JoinTree) (fun v => [⟨(.named 3), v⟩]) (fun v => []) (v := (JoinTree.mk ((leaf : Nat) : Int) ([] : List JoinTree))) e23 (by kernel_rfl) rfl rfl)
 ·
  intro h24
  have h24q : (List.getD firsts (Int.toNat mask) 0) ≠ 0 := (Go.Am.beq_neg h24)
  have e25 := e0.trans (Go.Am.bif_f h24)
  refine AW.kp [0, 1, 4, 5] [16] ⟨[(0, .data (.slice (.int .i64)) (firsts : List Int)), (1, .int .i64 mask), (4, .ref 16 1 0), (5, .int .i64 (List.getD firsts (Int.toNat mask) 0))], [(16, .box 1 [.int .i64 0, .nilsl])]⟩ ?_
  refine AW.skip (AW.seq (AW.r0 hC [4] [16, 116] ⟨[(4, .ref 16 1 0)], [(16, .box 1 [.int .i64 0, .tr 116 1]), (116, .tree 1 (.named 3) (([(JoinTree.mk (JoinTree.Leaf ((treeOfD_r fuel) firsts (List.getD firsts (Int.toNat mask) 0))) (JoinTree.Kids ((treeOfD_r fuel) firsts (List.getD firsts (Int.toNat mask) 0)))), (JoinTree.mk (JoinTree.Leaf ((treeOfD_r fuel) firsts (bits .andNot .i64 mask (List.getD firsts (Int.toNat mask) 0)))) (JoinTree.Kids ((treeOfD_r fuel) firsts (bits .andNot .i64 mask (List.getD firsts (Int.toNat mask) 0)))))] : List JoinTree) : List JoinTree))]⟩ [((FO firsts ∧ 0 ≤ (List.getD firsts (Int.toNat mask) 0) ∧ (List.getD firsts (Int.toNat mask) 0) < ((List.length firsts : Nat) : Int)) ∧ Int.toNat (List.getD firsts (Int.toNat mask) 0) < fuel), ((FO firsts ∧ 0 ≤ (bits .andNot .i64 mask (List.getD firsts (Int.toNat mask) 0)) ∧ (bits .andNot .i64 mask (List.getD firsts (Int.toNat mask) 0)) < ((List.length firsts : Nat) : Int)) ∧ Int.toNat (bits .andNot .i64 mask (List.getD firsts (Int.toNat mask) 0)) < fuel)] ?_ ?_))
  ·
   refine ⟨?_, ?_, trivial⟩
   ·
    have hz := hpre.1.1.at hpre.1.2.1 hpre.1.2.2 (by omega)
    exact ⟨⟨hpre.1.1, by omega⟩, by omega⟩
   ·
    have hz := hpre.1.1.at hpre.1.2.1 hpre.1.2.2 (by omega)
    exact ⟨⟨hpre.1.1, by omega⟩, by omega⟩
  exact AW.ret (AW.retE (β := JoinTree) (fun v => [⟨(.named 3), v⟩]) (fun v => []) (v := (JoinTree.mk 0 ([(JoinTree.mk (JoinTree.Leaf ((treeOfD_r fuel) firsts (List.getD firsts (Int.toNat mask) 0))) (JoinTree.Kids ((treeOfD_r fuel) firsts (List.getD firsts (Int.toNat mask) 0)))), (JoinTree.mk (JoinTree.Leaf ((treeOfD_r fuel) firsts (bits .andNot .i64 mask (List.getD firsts (Int.toNat mask) 0)))) (JoinTree.Kids ((treeOfD_r fuel) firsts (bits .andNot .i64 mask (List.getD firsts (Int.toNat mask) 0)))))] : List JoinTree))) e25 (by kernel_rfl) rfl rfl)

theorem treeOfD_fu : AllTV (treeOfD_sp.ps.map PK.ty) (fun tvs => treeOfD_sp.pre tvs → ∃ k, (treeOfD_spn k).pre tvs ∧ (treeOfD_spn k).fn tvs = treeOfD_sp.fn tvs ∧ (treeOfD_spn k).bx tvs = treeOfD_sp.bx tvs) :=
 (fun (firsts : List Int) (mask : Int) h => ⟨Int.toNat mask + 1, (show (FO firsts ∧ 0 ≤ mask ∧ mask < ((List.length firsts : Nat) : Int)) ∧ Int.toNat mask < Int.toNat mask + 1 from ⟨h, Nat.lt_succ_self _⟩), (show (treeOfD_spn (Int.toNat mask + 1)).fn [⟨(.slice (.int .i64)), (firsts : List Int)⟩, ⟨(.int .i64), (mask : Int)⟩] = ([⟨(.named 3), (treeOfD_r (Int.toNat mask + 1) firsts mask)⟩] : List TV) from by kernel_rfl).trans (show ([⟨(.named 3), (treeOfD_r (Int.toNat mask + 1) firsts mask)⟩] : List TV) = treeOfD_sp.fn [⟨(.slice (.int .i64)), (firsts : List Int)⟩, ⟨(.int .i64), (mask : Int)⟩] from by kernel_rfl), by kernel_rfl⟩)

theorem treeOfD_ok : FnOK Try.prog 64 treeOfD_sp := FnOK.of_fuel treeOfD_okn (fun _ => rfl) (fun _ => rfl) (AllTV.get treeOfD_fu)

def iBestTreeD (g : Graph) : JoinTree × Int := (bif (!(ValidGraph g)) then ((JoinTree.mk 0 ([] : List JoinTree)), (-1)) else ((JoinTree.mk (JoinTree.Leaf (treeOfD ((bestCosts g).2) (gAll g))) (JoinTree.Kids (treeOfD ((bestCosts g).2) (gAll g)))), (List.getD ((bestCosts g).1) (Int.toNat (gAll g)) 0)))

def iBestTreeD_sp : FnSpec := mkSpec [.val (.named 1)] [.deep (.named 3), .val (.int .i64)] (fun (g : Graph) => True) (fun (g : Graph) => [⟨(.named 3), ((iBestTreeD g).1)⟩, ⟨(.int .i64), ((iBestTreeD g).2)⟩])

theorem iBestTreeD_ok : FnOK Try.prog 25 iBestTreeD_sp := by
 have hC : CtxOK Try.prog { (mkCtx tyL [(52, ValidGraph_sp), (53, gAll_sp), (62, bestCosts_sp), (64, treeOfD_sp)]) with deep := true } := CtxOK.deepen (CtxOK.cons ValidGraph_ok (CtxOK.cons gAll_ok (CtxOK.cons bestCosts_ok (CtxOK.cons treeOfD_ok (CtxOK.nil tyOK)))))
 have hM : Try.prog.follows .mixedOrders = true := Try.checked.mixed
 refine FnOK.of_body Try.func25 (by kernel_rfl) rfl (C := { (mkCtx tyL [(52, ValidGraph_sp), (53, gAll_sp), (62, bestCosts_sp), (64, treeOfD_sp)]) with deep := true }) hC.ty (by kernel_rfl) ?_
 intro (g : Graph) hwf hpre E
 have hpre : True := hpre
 have hw_g : Wf ⟨(.named 1), (g : Graph)⟩ := hwf _ (List.Mem.head _)
 have hl_g_Rows : ((List.length (Graph.Rows g) : Nat) : Int) ≤ 9223372036854775807 := (hw_g.field (tv := ⟨(.slice (.int .i64)), Graph.Rows g⟩) (List.Mem.head _)).len
 have hl_g_Edges : ((List.length (Graph.Edges g) : Nat) : Int) ≤ 9223372036854775807 := (hw_g.field (tv := ⟨(.slice (.named 0)), Graph.Edges g⟩) (List.Mem.tail _ (List.Mem.head _))).len
 have e0 : iBestTreeD g = iBestTreeD g := rfl
 refine AW.seq (AW.r1 hC [1, 2] [4, 8] ⟨[(1, .ref 4 1 0), (2, .ref 8 1 0)], [(4, .box 1 [.data (.slice (.int .i64)) ((Graph.Rows g) : List Int), .data (.slice (.named 0)) ((Graph.Edges g) : List Edge)]), (8, .box 1 [.int .i64 0, .nilsl])]⟩ ?_)
 refine AW.seq (AW.seq (AW.r0 hC [1, 2, 8] [4, 8] ⟨[(1, .ref 4 1 0), (2, .ref 8 1 0), (8, .bool (!(ValidGraph g)))], [(4, .box 1 [.data (.slice (.int .i64)) ((Graph.Rows g) : List Int), .data (.slice (.named 0)) ((Graph.Edges g) : List Edge)]), (8, .box 1 [.int .i64 0, .nilsl])]⟩ [(True)] ?_ ?_))
 ·
  refine ⟨?_, trivial⟩
  ·
   trivial
 refine AW.cd (!(ValidGraph g)) ?_ ?_
 ·
  intro h1
  have h1q : (ValidGraph g) = false := (Go.Am.not_pos h1)
  have e2 := e0.trans (Go.Am.bif_t h1)
  refine AW.seq (AW.r1 hC [2, 3] [8] ⟨[(2, .ref 8 1 0), (3, .int .i64 (-1))], [(8, .box 1 [.int .i64 0, .nilsl])]⟩ ?_)
  exact AW.ret (AW.retE (β := JoinTree × Int) (fun v => [⟨(.named 3), v.1⟩, ⟨(.int .i64), v.2⟩]) (fun v => []) (v := ((JoinTree.mk 0 ([] : List JoinTree)), (-1))) e2 (by kernel_rfl) rfl rfl)
 ·
  intro h3
  have h3q : (ValidGraph g) = true := (Go.Am.not_neg h3)
  have e4 := e0.trans (Go.Am.bif_f h3)
  refine AW.kp [1, 2] [4, 8] ⟨[(1, .ref 4 1 0), (2, .ref 8 1 0)], [(4, .box 1 [.data (.slice (.int .i64)) ((Graph.Rows g) : List Int), .data (.slice (.named 0)) ((Graph.Edges g) : List Edge)]), (8, .box 1 [.int .i64 0, .nilsl])]⟩ ?_
  refine AW.skip (AW.seq (AW.r0 hC [1, 2, 4, 5] [4, 8, 44, 45] ⟨[(1, .ref 4 1 0), (2, .ref 8 1 0), (4, .arr 44 1), (5, .arr 45 1)], [(4, .box 1 [.data (.slice (.int .i64)) ((Graph.Rows g) : List Int), .data (.slice (.named 0)) ((Graph.Edges g) : List Edge)]), (8, .box 1 [.int .i64 0, .nilsl]), (44, .arr 1 (.int .i64) (((bestCosts g).1) : List Int)), (45, .arr 1 (.int .i64) (((bestCosts g).2) : List Int))]⟩ [(VG g)] ?_ ?_))
  ·
   refine ⟨?_, trivial⟩
   ·
    exact ValidGraph_iff.1 (by first | exact h3q | exact trivial)
  refine AW.seq (AW.d0 hC hM [2, 3] [8, 64] ⟨[(2, .ref 8 1 0), (3, .int .i64 (List.getD ((bestCosts g).1) (Int.toNat (gAll g)) 0))], [(8, .box 1 [.int .i64 (JoinTree.Leaf (treeOfD ((bestCosts g).2) (gAll g))), .tr 64 1]), (64, .tree 1 (.named 3) ((JoinTree.Kids (treeOfD ((bestCosts g).2) (gAll g))) : List JoinTree))]⟩ [(g.Rows.length ≤ 40), (FO ((bestCosts g).2) ∧ 0 ≤ (gAll g) ∧ (gAll g) < ((List.length ((bestCosts g).2) : Nat) : Int)), (g.Rows.length ≤ 40), (0 ≤ (gAll g) ∧ (gAll g) < ((List.length ((bestCosts g).1) : Nat) : Int))] ?_ ?_)
  ·
   refine ⟨?_, ?_, ?_, ?_, trivial⟩
   ·
    have hV := ValidGraph_iff.1 (by first | exact h3q | exact trivial)
    have := gn5 hV
    omega
   ·
    have hV := ValidGraph_iff.1 (by first | exact h3q | exact trivial)
    have hA := gAll_b hV
    have hl := (impl_best hV).2.1
    exact ⟨firsts_FO hV, by omega, by omega⟩
   ·
    have hV := ValidGraph_iff.1 (by first | exact h3q | exact trivial)
    have := gn5 hV
    omega
   ·
    have hV := ValidGraph_iff.1 (by first | exact h3q | exact trivial)
    have hA := gAll_b hV
    have hl := (impl_best hV).1
    omega
  exact AW.ret (AW.retE (β := JoinTree × Int) (fun v => [⟨(.named 3), v.1⟩, ⟨(.int .i64), v.2⟩]) (fun v => []) (v := ((JoinTree.mk (JoinTree.Leaf (treeOfD ((bestCosts g).2) (gAll g))) (JoinTree.Kids (treeOfD ((bestCosts g).2) (gAll g)))), (List.getD ((bestCosts g).1) (Int.toNat (gAll g)) 0))) e4 (by kernel_rfl) rfl rfl)

theorem treeOfD_l (mask : Int) : ∀ (k leaf : Nat), treeOfD_l0 mask k leaf = treeOf_l0 mask k leaf := by
 intro k
 induction k with
 | zero => intro leaf; rfl
 | succ k ih =>
  intro leaf
  unfold treeOfD_l0 treeOf_l0
  rw [ih]

theorem treeOfD_eq (firsts : List Int) : ∀ (f : Nat) (mask : Int), treeOfD_r f firsts mask = treeOf_r f firsts mask := by
 intro f
 induction f with
 | zero => intro mask; rfl
 | succ f ih =>
  intro mask
  unfold treeOfD_r treeOf_r
  simp only [ih, JoinTree.eta, treeOfD_l]

theorem iBestTreeD_eq (g : Graph) : iBestTreeD g = iBestTree g := by
 unfold iBestTreeD iBestTree
 have : ∀ m, treeOfD (bestCosts g).2 m = treeOf (bestCosts g).2 m := fun m => treeOfD_eq _ _ m
 simp only [this]

end
end Go.Proofs.Ytgbapklfgjnggaa
