/-
  A part of the proof of this claim (AxE): what functions of the program compute, and plain facts of that. No conditions.
-/
import Derived.Test.YtgbapklfgjnggaaAxD
import Derived.Test.YtgbapklfgjnggaaAxX
set_option linter.all false
namespace Go.Proofs.Ytgbapklfgjnggaa
open Go Go.Am
noncomputable section

theorem no_bits : ∀ m : Fin 32, 1 ≤ m.val → ¬ (has (m.val : Int) 0 = false ∧ has (m.val : Int) 1 = false ∧ has (m.val : Int) 2 = false ∧ has (m.val : Int) 3 = false ∧ has (m.val : Int) 4 = false) := by decide +kernel

theorem no_bits' {m : Int} (h1 : 1 ≤ m) (h2 : m < 32) (h : ∀ j : Nat, j ≤ 4 → has m ((j : Nat) : Int) = false) : False := by
 obtain ⟨n, rfl⟩ := Int.eq_ofNat_of_zero_le (show 0 ≤ m by omega)
 exact no_bits ⟨n, by omega⟩ (by show 1 ≤ n; omega) ⟨h 0 (by omega), h 1 (by omega), h 2 (by omega), h 3 (by omega), h 4 (by omega)⟩

theorem has_step {m : Int} (h1 : 1 ≤ m) (h2 : m < 32) {l : Nat} (hl : l ≤ 4) (h : ∀ j : Nat, j < l → has m ((j : Nat) : Int) = false) (hb : has m ((l : Nat) : Int) = false) : l + 1 ≤ 4 ∧ ∀ j : Nat, j < l + 1 → has m ((j : Nat) : Int) = false := by
 have hall : ∀ j : Nat, j < l + 1 → has m ((j : Nat) : Int) = false := fun j hj => by
  by_cases e : j = l
  ·
   subst e; exact hb
  ·
   exact h j (by omega)
 refine ⟨?_, hall⟩
 by_cases e : l = 4
 ·
  exact (no_bits' h1 h2 fun j hj => hall j (by omega)).elim
 ·
  omega

def bestTree_l0 (self : Graph → (List Int) → Int → JoinTree) (g : Graph) (costs : List Int) (mask : Int) : Nat → Nat → Unit ⊕ JoinTree
 | 0, part => .inl ()
 | k + 1, part => (bif (decide (((part : Nat) : Int) < mask)) then (bif (bif (bif ((bits .and .i64 ((part : Nat) : Int) mask) == ((part : Nat) : Int)) then ((bits .and .i64 mask (mask - 1)) != 0) else false) then ((((List.getD costs part 0) + (List.getD costs (Int.toNat (mask - ((part : Nat) : Int))) 0)) + (subsetSize g mask)) == (List.getD costs (Int.toNat mask) 0)) else false) then (.inr (JoinTree.mk 0 ([(self g costs ((part : Nat) : Int)), (self g costs (mask - ((part : Nat) : Int)))] : List JoinTree))) else (bestTree_l0 self g costs mask k (part + 1))) else (.inl ()))

def bestTree_l1 (mask : Int) : Nat → Nat → Nat
 | 0, leaf => leaf
 | k + 1, leaf => (bif (!(has mask ((leaf : Nat) : Int))) then (bestTree_l1 mask k (leaf + 1)) else leaf)

def bestTree_r : Nat → Graph → (List Int) → Int → JoinTree
 | 0, g, costs, mask => JoinTree.zero
 | fuel + 1, g, costs, mask => (Sum.elim (fun _ => (Go.Am.andThen (bestTree_l1 mask (5 - 0 + 1) 0) (fun z => (fun (leaf : Nat) => (JoinTree.mk ((leaf : Nat) : Int) ([] : List JoinTree))) z))) (fun r => r) (bestTree_l0 (bestTree_r fuel) g costs mask (Int.toNat (mask - ((1 : Nat) : Int)) + 1) 1))

def bestTree (g : Graph) (costs : List Int) (mask : Int) : JoinTree := bestTree_r (Int.toNat mask + 1) g costs mask

def bestTree_spn (fuel : Nat) : FnSpec := mkSpec [.val (.named 1), .val (.slice (.int .i64)), .val (.int .i64)] [.val (.named 3)] (fun (g : Graph) (costs : List Int) (mask : Int) => (VG g ∧ (Sm costs 31000000000000000 ∧ 1 ≤ mask ∧ mask < ((List.length costs : Nat) : Int))) ∧ Int.toNat mask < fuel) (fun (g : Graph) (costs : List Int) (mask : Int) => [⟨(.named 3), (bestTree_r fuel g costs mask)⟩])

def bestTree_sp : FnSpec := mkSpec [.val (.named 1), .val (.slice (.int .i64)), .val (.int .i64)] [.val (.named 3)] (fun (g : Graph) (costs : List Int) (mask : Int) => VG g ∧ (Sm costs 31000000000000000 ∧ 1 ≤ mask ∧ mask < ((List.length costs : Nat) : Int))) (fun (g : Graph) (costs : List Int) (mask : Int) => [⟨(.named 3), (bestTree g costs mask)⟩])

theorem bestTree_okn (fuel : Nat) : FnOK Try.prog 72 (bestTree_spn fuel) := by
 induction fuel with
 | zero => exact FnOK.never Try.func72 (by kernel_rfl) rfl (fun _ _ _ h => absurd h.2 (Nat.not_lt_zero _))
 | succ fuel ih => ?_
 have hC : CtxOK Try.prog (mkCtx tyL [(57, subsetSize_sp), (72, (bestTree_spn fuel)), (82, has_sp)]) := CtxOK.cons subsetSize_ok (CtxOK.cons ih (CtxOK.cons has_ok (CtxOK.nil tyOK)))
 have hM : Try.prog.follows .mixedOrders = true := Try.checked.mixed
 refine FnOK.of_body Try.func72 (by kernel_rfl) rfl (C := (mkCtx tyL [(57, subsetSize_sp), (72, (bestTree_spn fuel)), (82, has_sp)])) hC.ty (by kernel_rfl) ?_
 intro (g : Graph) (costs : List Int) (mask : Int) hwf hpre E
 have hpre : (VG g ∧ (Sm costs 31000000000000000 ∧ 1 ≤ mask ∧ mask < ((List.length costs : Nat) : Int))) ∧ Int.toNat mask < fuel + 1 := hpre
 have hw_g : Wf ⟨(.named 1), (g : Graph)⟩ := hwf _ (List.Mem.head _)
 have hl_g_Rows : ((List.length (Graph.Rows g) : Nat) : Int) ≤ 9223372036854775807 := (hw_g.field (tv := ⟨(.slice (.int .i64)), Graph.Rows g⟩) (List.Mem.head _)).len
 have hl_g_Edges : ((List.length (Graph.Edges g) : Nat) : Int) ≤ 9223372036854775807 := (hw_g.field (tv := ⟨(.slice (.named 0)), Graph.Edges g⟩) (List.Mem.tail _ (List.Mem.head _))).len
 have hw_costs : Wf ⟨(.slice (.int .i64)), (costs : List Int)⟩ := hwf _ (List.Mem.tail _ (List.Mem.head _))
 have hl_costs : ((List.length costs : Nat) : Int) ≤ 9223372036854775807 := hw_costs.len
 have hw_mask : Wf ⟨(.int .i64), (mask : Int)⟩ := hwf _ (List.Mem.tail _ (List.Mem.tail _ (List.Mem.head _)))
 have hr_mask : -9223372036854775808 ≤ mask ∧ mask ≤ 9223372036854775807 := hw_mask.int_inv
 have hV := hpre.1.1
 have hS := hpre.1.2.1
 have hS1 := hS.1
 have hm := hpre.1.2.2
 have hsz := sSize_b hV (m := mask) (by omega) (by omega)
 have e0 : bestTree_r (fuel + 1) g costs mask = bestTree_r (fuel + 1) g costs mask := rfl
 refine AW.seq (AW.r1 hC [1, 2, 3, 6] [12, 24] ⟨[(1, .data (.slice (.int .i64)) (costs : List Int)), (2, .int .i64 mask), (3, .ref 12 1 0), (6, .ref 24 1 0)], [(12, .box 1 [.data (.slice (.int .i64)) ((Graph.Rows g) : List Int), .data (.slice (.named 0)) ((Graph.Edges g) : List Edge)]), (24, .box 1 [.int .i64 0, .nilsl])]⟩ ?_)
 refine AW.seq (AW.seq (AW.r1 hC [1, 2, 3, 6, 7] [12, 24] ⟨[(1, .data (.slice (.int .i64)) (costs : List Int)), (2, .int .i64 mask), (3, .ref 12 1 0), (6, .ref 24 1 0), (7, .int .i64 1)], [(12, .box 1 [.data (.slice (.int .i64)) ((Graph.Rows g) : List Int), .data (.slice (.named 0)) ((Graph.Edges g) : List Edge)]), (24, .box 1 [.int .i64 0, .nilsl])]⟩ ?_))
 refine AW.cutQ (α := Unit) (fun x => ⟨[(2, .int .i64 mask), (6, .ref 24 1 0)], [(24, .box 1 [.int .i64 0, .nilsl])]⟩) (fun x => (True) ∧ (bestTree_l0 (bestTree_r fuel) g costs mask (Int.toNat (mask - ((1 : Nat) : Int)) + 1) 1) = (.inl ())) ?_ ?_
 ·
  skip
  refine AW.block (AW.loop (α := Nat) (fun x => ⟨[(1, .data (.slice (.int .i64)) (costs : List Int)), (2, .int .i64 mask), (3, .ref 12 1 0), (6, .ref 24 1 0), (7, .int .i64 ((x : Nat) : Int))], [(12, .box 1 [.data (.slice (.int .i64)) ((Graph.Rows g) : List Int), .data (.slice (.named 0)) ((Graph.Edges g) : List Edge)]), (24, .box 1 [.int .i64 0, .nilsl])]⟩) (fun x => (1 ≤ x) ∧ ∃ k, Int.toNat (mask - ((x : Nat) : Int)) < k ∧ (bestTree_l0 (bestTree_r fuel) g costs mask (Int.toNat (mask - ((1 : Nat) : Int)) + 1) 1) = bestTree_l0 (bestTree_r fuel) g costs mask k x) (fun x => Int.toNat (mask - ((x : Nat) : Int))) 1 (by kernel_rfl) ⟨?_, _, Nat.lt_succ_self _, rfl⟩ ?_)
  ·
   show 1 ≤ 1
   omega
  ·
   intro part hR
   obtain ⟨hI0, k30, hk28, e29⟩ := hR
   replace hI0 : 1 ≤ part := hI0
   replace hk28 : Int.toNat (mask - ((part : Nat) : Int)) < k30 := hk28
   obtain ⟨k30q, rfl⟩ : ∃ k, k30 = k + 1 := ⟨k30 - 1, by omega⟩
   have c1 := hS.2 part
   have c2 := hS.2 (Int.toNat (mask - ((part : Nat) : Int)))
   have c3 := hS.2 (Int.toNat mask)
   refine AW.seq (AW.seq (AW.r1 hC [1, 2, 3, 6, 7, 11] [12, 24] ⟨[(1, .data (.slice (.int .i64)) (costs : List Int)), (2, .int .i64 mask), (3, .ref 12 1 0), (6, .ref 24 1 0), (7, .int .i64 ((part : Nat) : Int)), (11, .bool (decide (((part : Nat) : Int) < mask)))], [(12, .box 1 [.data (.slice (.int .i64)) ((Graph.Rows g) : List Int), .data (.slice (.named 0)) ((Graph.Edges g) : List Edge)]), (24, .box 1 [.int .i64 0, .nilsl])]⟩ ?_))
   refine AW.cd (decide (((part : Nat) : Int) < mask)) ?_ ?_
   ·
    intro h31
    have h31q : ((part : Nat) : Int) < mask := (of_decide_eq_true h31)
    have e32 := e29.trans (Go.Am.bif_t h31)
    refine AW.kp [1, 2, 3, 6, 7] [12, 24] ⟨[(1, .data (.slice (.int .i64)) (costs : List Int)), (2, .int .i64 mask), (3, .ref 12 1 0), (6, .ref 24 1 0), (7, .int .i64 ((part : Nat) : Int))], [(12, .box 1 [.data (.slice (.int .i64)) ((Graph.Rows g) : List Int), .data (.slice (.named 0)) ((Graph.Edges g) : List Edge)]), (24, .box 1 [.int .i64 0, .nilsl])]⟩ ?_
    refine AW.skip (AW.seq (AW.block (AW.seq (AW.d0 hC hM [1, 2, 3, 6, 7, 47] [12, 24] ⟨[(1, .data (.slice (.int .i64)) (costs : List Int)), (2, .int .i64 mask), (3, .ref 12 1 0), (6, .ref 24 1 0), (7, .int .i64 ((part : Nat) : Int)), (47, .bool (bif (bif ((bits .and .i64 ((part : Nat) : Int) mask) == ((part : Nat) : Int)) then ((bits .and .i64 mask (mask - 1)) != 0) else false) then ((((List.getD costs part 0) + (List.getD costs (Int.toNat (mask - ((part : Nat) : Int))) 0)) + (subsetSize g mask)) == (List.getD costs (Int.toNat mask) 0)) else false))], [(12, .box 1 [.data (.slice (.int .i64)) ((Graph.Rows g) : List Int), .data (.slice (.named 0)) ((Graph.Edges g) : List Edge)]), (24, .box 1 [.int .i64 0, .nilsl])]⟩ [((((bits .and .i64 ((part : Nat) : Int) mask) == ((part : Nat) : Int)) = true) → ((((bits .and .i64 ((part : Nat) : Int) mask) == ((part : Nat) : Int)) = true))), ((((bits .and .i64 ((part : Nat) : Int) mask) == ((part : Nat) : Int)) = true) → (-9223372036854775808 ≤ (mask - 1) ∧ (mask - 1) ≤ 9223372036854775807)), ((((bits .and .i64 ((part : Nat) : Int) mask) == ((part : Nat) : Int)) = true) → ((((bits .and .i64 ((part : Nat) : Int) mask) == ((part : Nat) : Int)) = true))), ((((bits .and .i64 ((part : Nat) : Int) mask) == ((part : Nat) : Int)) = true) → ((((bits .and .i64 ((part : Nat) : Int) mask) == ((part : Nat) : Int)) = true))), ((((bits .and .i64 ((part : Nat) : Int) mask) == ((part : Nat) : Int)) = true) → ((((bits .and .i64 ((part : Nat) : Int) mask) == ((part : Nat) : Int)) = true))), ((((bits .and .i64 ((part : Nat) : Int) mask) == ((part : Nat) : Int)) = true) → ((((bits .and .i64 ((part : Nat) : Int) mask) == ((part : Nat) : Int)) = true))), (((bif ((bits .and .i64 ((part : Nat) : Int) mask) == ((part : Nat) : Int)) then ((bits .and .i64 mask (mask - 1)) != 0) else false) = true) → (((bif ((bits .and .i64 ((part : Nat) : Int) mask) == ((part : Nat) : Int)) then ((bits .and .i64 mask (mask - 1)) != 0) else false) = true))), (((bif ((bits .and .i64 ((part : Nat) : Int) mask) == ((part : Nat) : Int)) then ((bits .and .i64 mask (mask - 1)) != 0) else false) = true) → (((bif ((bits .and .i64 ((part : Nat) : Int) mask) == ((part : Nat) : Int)) then ((bits .and .i64 mask (mask - 1)) != 0) else false) = true))), (((bif ((bits .and .i64 ((part : Nat) : Int) mask) == ((part : Nat) : Int)) then ((bits .and .i64 mask (mask - 1)) != 0) else false) = true) → (0 ≤ ((part : Nat) : Int) ∧ ((part : Nat) : Int) < ((List.length costs : Nat) : Int))), (((bif ((bits .and .i64 ((part : Nat) : Int) mask) == ((part : Nat) : Int)) then ((bits .and .i64 mask (mask - 1)) != 0) else false) = true) → (((bif ((bits .and .i64 ((part : Nat) : Int) mask) == ((part : Nat) : Int)) then ((bits .and .i64 mask (mask - 1)) != 0) else false) = true))), (((bif ((bits .and .i64 ((part : Nat) : Int) mask) == ((part : Nat) : Int)) then ((bits .and .i64 mask (mask - 1)) != 0) else false) = true) → (((bif ((bits .and .i64 ((part : Nat) : Int) mask) == ((part : Nat) : Int)) then ((bits .and .i64 mask (mask - 1)) != 0) else false) = true))), (((bif ((bits .and .i64 ((part : Nat) : Int) mask) == ((part : Nat) : Int)) then ((bits .and .i64 mask (mask - 1)) != 0) else false) = true) → (((bif ((bits .and .i64 ((part : Nat) : Int) mask) == ((part : Nat) : Int)) then ((bits .and .i64 mask (mask - 1)) != 0) else false) = true))), (((bif ((bits .and .i64 ((part : Nat) : Int) mask) == ((part : Nat) : Int)) then ((bits .and .i64 mask (mask - 1)) != 0) else false) = true) → (-9223372036854775808 ≤ (mask - ((part : Nat) : Int)) ∧ (mask - ((part : Nat) : Int)) ≤ 9223372036854775807)), (((bif ((bits .and .i64 ((part : Nat) : Int) mask) == ((part : Nat) : Int)) then ((bits .and .i64 mask (mask - 1)) != 0) else false) = true) → (((bif ((bits .and .i64 ((part : Nat) : Int) mask) == ((part : Nat) : Int)) then ((bits .and .i64 mask (mask - 1)) != 0) else false) = true))), (((bif ((bits .and .i64 ((part : Nat) : Int) mask) == ((part : Nat) : Int)) then ((bits .and .i64 mask (mask - 1)) != 0) else false) = true) → (((bif ((bits .and .i64 ((part : Nat) : Int) mask) == ((part : Nat) : Int)) then ((bits .and .i64 mask (mask - 1)) != 0) else false) = true))), (((bif ((bits .and .i64 ((part : Nat) : Int) mask) == ((part : Nat) : Int)) then ((bits .and .i64 mask (mask - 1)) != 0) else false) = true) → (0 ≤ (mask - ((part : Nat) : Int)) ∧ (mask - ((part : Nat) : Int)) < ((List.length costs : Nat) : Int))), (((bif ((bits .and .i64 ((part : Nat) : Int) mask) == ((part : Nat) : Int)) then ((bits .and .i64 mask (mask - 1)) != 0) else false) = true) → (((bif ((bits .and .i64 ((part : Nat) : Int) mask) == ((part : Nat) : Int)) then ((bits .and .i64 mask (mask - 1)) != 0) else false) = true))), (((bif ((bits .and .i64 ((part : Nat) : Int) mask) == ((part : Nat) : Int)) then ((bits .and .i64 mask (mask - 1)) != 0) else false) = true) → (((bif ((bits .and .i64 ((part : Nat) : Int) mask) == ((part : Nat) : Int)) then ((bits .and .i64 mask (mask - 1)) != 0) else false) = true))), (((bif ((bits .and .i64 ((part : Nat) : Int) mask) == ((part : Nat) : Int)) then ((bits .and .i64 mask (mask - 1)) != 0) else false) = true) → (((bif ((bits .and .i64 ((part : Nat) : Int) mask) == ((part : Nat) : Int)) then ((bits .and .i64 mask (mask - 1)) != 0) else false) = true))), (((bif ((bits .and .i64 ((part : Nat) : Int) mask) == ((part : Nat) : Int)) then ((bits .and .i64 mask (mask - 1)) != 0) else false) = true) → (-9223372036854775808 ≤ ((List.getD costs part 0) + (List.getD costs (Int.toNat (mask - ((part : Nat) : Int))) 0)) ∧ ((List.getD costs part 0) + (List.getD costs (Int.toNat (mask - ((part : Nat) : Int))) 0)) ≤ 9223372036854775807)), (((bif ((bits .and .i64 ((part : Nat) : Int) mask) == ((part : Nat) : Int)) then ((bits .and .i64 mask (mask - 1)) != 0) else false) = true) → (((bif ((bits .and .i64 ((part : Nat) : Int) mask) == ((part : Nat) : Int)) then ((bits .and .i64 mask (mask - 1)) != 0) else false) = true))), (((bif ((bits .and .i64 ((part : Nat) : Int) mask) == ((part : Nat) : Int)) then ((bits .and .i64 mask (mask - 1)) != 0) else false) = true) → (((bif ((bits .and .i64 ((part : Nat) : Int) mask) == ((part : Nat) : Int)) then ((bits .and .i64 mask (mask - 1)) != 0) else false) = true))), (((bif ((bits .and .i64 ((part : Nat) : Int) mask) == ((part : Nat) : Int)) then ((bits .and .i64 mask (mask - 1)) != 0) else false) = true) → (VG g ∧ 0 ≤ mask)), (((bif ((bits .and .i64 ((part : Nat) : Int) mask) == ((part : Nat) : Int)) then ((bits .and .i64 mask (mask - 1)) != 0) else false) = true) → (((bif ((bits .and .i64 ((part : Nat) : Int) mask) == ((part : Nat) : Int)) then ((bits .and .i64 mask (mask - 1)) != 0) else false) = true))), (((bif ((bits .and .i64 ((part : Nat) : Int) mask) == ((part : Nat) : Int)) then ((bits .and .i64 mask (mask - 1)) != 0) else false) = true) → (((bif ((bits .and .i64 ((part : Nat) : Int) mask) == ((part : Nat) : Int)) then ((bits .and .i64 mask (mask - 1)) != 0) else false) = true))), (((bif ((bits .and .i64 ((part : Nat) : Int) mask) == ((part : Nat) : Int)) then ((bits .and .i64 mask (mask - 1)) != 0) else false) = true) → (-9223372036854775808 ≤ (((List.getD costs part 0) + (List.getD costs (Int.toNat (mask - ((part : Nat) : Int))) 0)) + (subsetSize g mask)) ∧ (((List.getD costs part 0) + (List.getD costs (Int.toNat (mask - ((part : Nat) : Int))) 0)) + (subsetSize g mask)) ≤ 9223372036854775807)), (((bif ((bits .and .i64 ((part : Nat) : Int) mask) == ((part : Nat) : Int)) then ((bits .and .i64 mask (mask - 1)) != 0) else false) = true) → (((bif ((bits .and .i64 ((part : Nat) : Int) mask) == ((part : Nat) : Int)) then ((bits .and .i64 mask (mask - 1)) != 0) else false) = true))), (((bif ((bits .and .i64 ((part : Nat) : Int) mask) == ((part : Nat) : Int)) then ((bits .and .i64 mask (mask - 1)) != 0) else false) = true) → (((bif ((bits .and .i64 ((part : Nat) : Int) mask) == ((part : Nat) : Int)) then ((bits .and .i64 mask (mask - 1)) != 0) else false) = true))), (((bif ((bits .and .i64 ((part : Nat) : Int) mask) == ((part : Nat) : Int)) then ((bits .and .i64 mask (mask - 1)) != 0) else false) = true) → (0 ≤ mask ∧ mask < ((List.length costs : Nat) : Int))), (((bif ((bits .and .i64 ((part : Nat) : Int) mask) == ((part : Nat) : Int)) then ((bits .and .i64 mask (mask - 1)) != 0) else false) = true) → (((bif ((bits .and .i64 ((part : Nat) : Int) mask) == ((part : Nat) : Int)) then ((bits .and .i64 mask (mask - 1)) != 0) else false) = true))), (((bif ((bits .and .i64 ((part : Nat) : Int) mask) == ((part : Nat) : Int)) then ((bits .and .i64 mask (mask - 1)) != 0) else false) = true) → (((bif ((bits .and .i64 ((part : Nat) : Int) mask) == ((part : Nat) : Int)) then ((bits .and .i64 mask (mask - 1)) != 0) else false) = true))), (((bif ((bits .and .i64 ((part : Nat) : Int) mask) == ((part : Nat) : Int)) then ((bits .and .i64 mask (mask - 1)) != 0) else false) = true) → (((bif ((bits .and .i64 ((part : Nat) : Int) mask) == ((part : Nat) : Int)) then ((bits .and .i64 mask (mask - 1)) != 0) else false) = true))), (((bif ((bits .and .i64 ((part : Nat) : Int) mask) == ((part : Nat) : Int)) then ((bits .and .i64 mask (mask - 1)) != 0) else false) = true) → (((bif ((bits .and .i64 ((part : Nat) : Int) mask) == ((part : Nat) : Int)) then ((bits .and .i64 mask (mask - 1)) != 0) else false) = true)))] ?_ ?_))))
    ·
     refine ⟨?_, ?_, ?_, ?_, ?_, ?_, ?_, ?_, ?_, ?_, ?_, ?_, ?_, ?_, ?_, ?_, ?_, ?_, ?_, ?_, ?_, ?_, ?_, ?_, ?_, ?_, ?_, ?_, ?_, ?_, ?_, ?_, ?_, trivial⟩
     ·
      intro g33
      have g33p0 : (bits .and .i64 ((part : Nat) : Int) mask) = ((part : Nat) : Int) := (Go.Am.beq_pos g33)
      assumption
     ·
      intro g34
      have g34p0 : (bits .and .i64 ((part : Nat) : Int) mask) = ((part : Nat) : Int) := (Go.Am.beq_pos g34)
      omega
     ·
      intro g35
      have g35p0 : (bits .and .i64 ((part : Nat) : Int) mask) = ((part : Nat) : Int) := (Go.Am.beq_pos g35)
      assumption
     ·
      intro g36
      have g36p0 : (bits .and .i64 ((part : Nat) : Int) mask) = ((part : Nat) : Int) := (Go.Am.beq_pos g36)
      assumption
     ·
      intro g37
      have g37p0 : (bits .and .i64 ((part : Nat) : Int) mask) = ((part : Nat) : Int) := (Go.Am.beq_pos g37)
      assumption
     ·
      intro g38
      have g38p0 : (bits .and .i64 ((part : Nat) : Int) mask) = ((part : Nat) : Int) := (Go.Am.beq_pos g38)
      assumption
     ·
      intro g39
      have g39p0 : ((bits .and .i64 ((part : Nat) : Int) mask) = ((part : Nat) : Int)) ∧ ((bits .and .i64 mask (mask - 1)) ≠ 0) := (And.imp (fun h => (Go.Am.beq_pos h)) (fun h => (Go.Am.bne_pos h)) (Go.Am.and_pos g39))
      assumption
     ·
      intro g40
      have g40p0 : ((bits .and .i64 ((part : Nat) : Int) mask) = ((part : Nat) : Int)) ∧ ((bits .and .i64 mask (mask - 1)) ≠ 0) := (And.imp (fun h => (Go.Am.beq_pos h)) (fun h => (Go.Am.bne_pos h)) (Go.Am.and_pos g40))
      assumption
     ·
      intro g41
      have g41p0 : ((bits .and .i64 ((part : Nat) : Int) mask) = ((part : Nat) : Int)) ∧ ((bits .and .i64 mask (mask - 1)) ≠ 0) := (And.imp (fun h => (Go.Am.beq_pos h)) (fun h => (Go.Am.bne_pos h)) (Go.Am.and_pos g41))
      omega
     ·
      intro g42
      have g42p0 : ((bits .and .i64 ((part : Nat) : Int) mask) = ((part : Nat) : Int)) ∧ ((bits .and .i64 mask (mask - 1)) ≠ 0) := (And.imp (fun h => (Go.Am.beq_pos h)) (fun h => (Go.Am.bne_pos h)) (Go.Am.and_pos g42))
      assumption
     ·
      intro g43
      have g43p0 : ((bits .and .i64 ((part : Nat) : Int) mask) = ((part : Nat) : Int)) ∧ ((bits .and .i64 mask (mask - 1)) ≠ 0) := (And.imp (fun h => (Go.Am.beq_pos h)) (fun h => (Go.Am.bne_pos h)) (Go.Am.and_pos g43))
      assumption
     ·
      intro g44
      have g44p0 : ((bits .and .i64 ((part : Nat) : Int) mask) = ((part : Nat) : Int)) ∧ ((bits .and .i64 mask (mask - 1)) ≠ 0) := (And.imp (fun h => (Go.Am.beq_pos h)) (fun h => (Go.Am.bne_pos h)) (Go.Am.and_pos g44))
      assumption
     ·
      intro g45
      have g45p0 : ((bits .and .i64 ((part : Nat) : Int) mask) = ((part : Nat) : Int)) ∧ ((bits .and .i64 mask (mask - 1)) ≠ 0) := (And.imp (fun h => (Go.Am.beq_pos h)) (fun h => (Go.Am.bne_pos h)) (Go.Am.and_pos g45))
      omega
     ·
      intro g46
      have g46p0 : ((bits .and .i64 ((part : Nat) : Int) mask) = ((part : Nat) : Int)) ∧ ((bits .and .i64 mask (mask - 1)) ≠ 0) := (And.imp (fun h => (Go.Am.beq_pos h)) (fun h => (Go.Am.bne_pos h)) (Go.Am.and_pos g46))
      assumption
     ·
      intro g47
      have g47p0 : ((bits .and .i64 ((part : Nat) : Int) mask) = ((part : Nat) : Int)) ∧ ((bits .and .i64 mask (mask - 1)) ≠ 0) := (And.imp (fun h => (Go.Am.beq_pos h)) (fun h => (Go.Am.bne_pos h)) (Go.Am.and_pos g47))
      assumption
     ·
      intro g48
      have g48p0 : ((bits .and .i64 ((part : Nat) : Int) mask) = ((part : Nat) : Int)) ∧ ((bits .and .i64 mask (mask - 1)) ≠ 0) := (And.imp (fun h => (Go.Am.beq_pos h)) (fun h => (Go.Am.bne_pos h)) (Go.Am.and_pos g48))
      omega
     ·
      intro g49
      have g49p0 : ((bits .and .i64 ((part : Nat) : Int) mask) = ((part : Nat) : Int)) ∧ ((bits .and .i64 mask (mask - 1)) ≠ 0) := (And.imp (fun h => (Go.Am.beq_pos h)) (fun h => (Go.Am.bne_pos h)) (Go.Am.and_pos g49))
      assumption
     ·
      intro g50
      have g50p0 : ((bits .and .i64 ((part : Nat) : Int) mask) = ((part : Nat) : Int)) ∧ ((bits .and .i64 mask (mask - 1)) ≠ 0) := (And.imp (fun h => (Go.Am.beq_pos h)) (fun h => (Go.Am.bne_pos h)) (Go.Am.and_pos g50))
      assumption
     ·
      intro g51
      have g51p0 : ((bits .and .i64 ((part : Nat) : Int) mask) = ((part : Nat) : Int)) ∧ ((bits .and .i64 mask (mask - 1)) ≠ 0) := (And.imp (fun h => (Go.Am.beq_pos h)) (fun h => (Go.Am.bne_pos h)) (Go.Am.and_pos g51))
      assumption
     ·
      intro g52
      have g52p0 : ((bits .and .i64 ((part : Nat) : Int) mask) = ((part : Nat) : Int)) ∧ ((bits .and .i64 mask (mask - 1)) ≠ 0) := (And.imp (fun h => (Go.Am.beq_pos h)) (fun h => (Go.Am.bne_pos h)) (Go.Am.and_pos g52))
      omega
     ·
      intro g53
      have g53p0 : ((bits .and .i64 ((part : Nat) : Int) mask) = ((part : Nat) : Int)) ∧ ((bits .and .i64 mask (mask - 1)) ≠ 0) := (And.imp (fun h => (Go.Am.beq_pos h)) (fun h => (Go.Am.bne_pos h)) (Go.Am.and_pos g53))
      assumption
     ·
      intro g54
      have g54p0 : ((bits .and .i64 ((part : Nat) : Int) mask) = ((part : Nat) : Int)) ∧ ((bits .and .i64 mask (mask - 1)) ≠ 0) := (And.imp (fun h => (Go.Am.beq_pos h)) (fun h => (Go.Am.bne_pos h)) (Go.Am.and_pos g54))
      assumption
     ·
      intro g55
      have g55p0 : ((bits .and .i64 ((part : Nat) : Int) mask) = ((part : Nat) : Int)) ∧ ((bits .and .i64 mask (mask - 1)) ≠ 0) := (And.imp (fun h => (Go.Am.beq_pos h)) (fun h => (Go.Am.bne_pos h)) (Go.Am.and_pos g55))
      exact ⟨hV, by omega⟩
     ·
      intro g56
      have g56p0 : ((bits .and .i64 ((part : Nat) : Int) mask) = ((part : Nat) : Int)) ∧ ((bits .and .i64 mask (mask - 1)) ≠ 0) := (And.imp (fun h => (Go.Am.beq_pos h)) (fun h => (Go.Am.bne_pos h)) (Go.Am.and_pos g56))
      assumption
     ·
      intro g57
      have g57p0 : ((bits .and .i64 ((part : Nat) : Int) mask) = ((part : Nat) : Int)) ∧ ((bits .and .i64 mask (mask - 1)) ≠ 0) := (And.imp (fun h => (Go.Am.beq_pos h)) (fun h => (Go.Am.bne_pos h)) (Go.Am.and_pos g57))
      assumption
     ·
      intro g58
      have g58p0 : ((bits .and .i64 ((part : Nat) : Int) mask) = ((part : Nat) : Int)) ∧ ((bits .and .i64 mask (mask - 1)) ≠ 0) := (And.imp (fun h => (Go.Am.beq_pos h)) (fun h => (Go.Am.bne_pos h)) (Go.Am.and_pos g58))
      omega
     ·
      intro g59
      have g59p0 : ((bits .and .i64 ((part : Nat) : Int) mask) = ((part : Nat) : Int)) ∧ ((bits .and .i64 mask (mask - 1)) ≠ 0) := (And.imp (fun h => (Go.Am.beq_pos h)) (fun h => (Go.Am.bne_pos h)) (Go.Am.and_pos g59))
      assumption
     ·
      intro g60
      have g60p0 : ((bits .and .i64 ((part : Nat) : Int) mask) = ((part : Nat) : Int)) ∧ ((bits .and .i64 mask (mask - 1)) ≠ 0) := (And.imp (fun h => (Go.Am.beq_pos h)) (fun h => (Go.Am.bne_pos h)) (Go.Am.and_pos g60))
      assumption
     ·
      intro g61
      have g61p0 : ((bits .and .i64 ((part : Nat) : Int) mask) = ((part : Nat) : Int)) ∧ ((bits .and .i64 mask (mask - 1)) ≠ 0) := (And.imp (fun h => (Go.Am.beq_pos h)) (fun h => (Go.Am.bne_pos h)) (Go.Am.and_pos g61))
      omega
     ·
      intro g62
      have g62p0 : ((bits .and .i64 ((part : Nat) : Int) mask) = ((part : Nat) : Int)) ∧ ((bits .and .i64 mask (mask - 1)) ≠ 0) := (And.imp (fun h => (Go.Am.beq_pos h)) (fun h => (Go.Am.bne_pos h)) (Go.Am.and_pos g62))
      assumption
     ·
      intro g63
      have g63p0 : ((bits .and .i64 ((part : Nat) : Int) mask) = ((part : Nat) : Int)) ∧ ((bits .and .i64 mask (mask - 1)) ≠ 0) := (And.imp (fun h => (Go.Am.beq_pos h)) (fun h => (Go.Am.bne_pos h)) (Go.Am.and_pos g63))
      assumption
     ·
      intro g64
      have g64p0 : ((bits .and .i64 ((part : Nat) : Int) mask) = ((part : Nat) : Int)) ∧ ((bits .and .i64 mask (mask - 1)) ≠ 0) := (And.imp (fun h => (Go.Am.beq_pos h)) (fun h => (Go.Am.bne_pos h)) (Go.Am.and_pos g64))
      assumption
     ·
      intro g65
      have g65p0 : ((bits .and .i64 ((part : Nat) : Int) mask) = ((part : Nat) : Int)) ∧ ((bits .and .i64 mask (mask - 1)) ≠ 0) := (And.imp (fun h => (Go.Am.beq_pos h)) (fun h => (Go.Am.bne_pos h)) (Go.Am.and_pos g65))
      assumption
    refine AW.cd (bif (bif ((bits .and .i64 ((part : Nat) : Int) mask) == ((part : Nat) : Int)) then ((bits .and .i64 mask (mask - 1)) != 0) else false) then ((((List.getD costs part 0) + (List.getD costs (Int.toNat (mask - ((part : Nat) : Int))) 0)) + (subsetSize g mask)) == (List.getD costs (Int.toNat mask) 0)) else false) ?_ ?_
    ·
     intro h66
     have h66q : (((bits .and .i64 ((part : Nat) : Int) mask) = ((part : Nat) : Int)) ∧ ((bits .and .i64 mask (mask - 1)) ≠ 0)) ∧ ((((List.getD costs part 0) + (List.getD costs (Int.toNat (mask - ((part : Nat) : Int))) 0)) + (subsetSize g mask)) = (List.getD costs (Int.toNat mask) 0)) := (And.imp (fun h => (And.imp (fun h => (Go.Am.beq_pos h)) (fun h => (Go.Am.bne_pos h)) (Go.Am.and_pos h))) (fun h => (Go.Am.beq_pos h)) (Go.Am.and_pos h66))
     have e67 := e32.trans (Go.Am.bif_t h66)
     refine AW.seq (AW.d0 hC hM [6] [24, 232] ⟨[(6, .ref 24 1 0)], [(24, .box 1 [.int .i64 0, .arr 232 1]), (232, .arr 1 (.named 3) (([((bestTree_r fuel) g costs ((part : Nat) : Int)), ((bestTree_r fuel) g costs (mask - ((part : Nat) : Int)))] : List JoinTree) : List JoinTree))]⟩ [((VG g ∧ (Sm costs 31000000000000000 ∧ 1 ≤ ((part : Nat) : Int) ∧ ((part : Nat) : Int) < ((List.length costs : Nat) : Int))) ∧ Int.toNat ((part : Nat) : Int) < fuel), (-9223372036854775808 ≤ (mask - ((part : Nat) : Int)) ∧ (mask - ((part : Nat) : Int)) ≤ 9223372036854775807), ((VG g ∧ (Sm costs 31000000000000000 ∧ 1 ≤ (mask - ((part : Nat) : Int)) ∧ (mask - ((part : Nat) : Int)) < ((List.length costs : Nat) : Int))) ∧ Int.toNat (mask - ((part : Nat) : Int)) < fuel)] ?_ ?_)
     ·
      refine ⟨?_, ?_, ?_, trivial⟩
      ·
       exact ⟨⟨hV, hS, by omega⟩, by omega⟩
      ·
       omega
      ·
       exact ⟨⟨hV, hS, by omega⟩, by omega⟩
     refine AW.ret ?_
     have e68 := e0.trans (Go.Am.elim_r e67)
     exact AW.retE (β := JoinTree) (fun v => [⟨(.named 3), v⟩]) (fun v => []) (v := (JoinTree.mk 0 ([((bestTree_r fuel) g costs ((part : Nat) : Int)), ((bestTree_r fuel) g costs (mask - ((part : Nat) : Int)))] : List JoinTree))) e68 (by kernel_rfl) rfl rfl
    ·
     intro h69
     have h69q : (((bits .and .i64 ((part : Nat) : Int) mask) ≠ ((part : Nat) : Int)) ∨ ((bits .and .i64 mask (mask - 1)) = 0)) ∨ ((((List.getD costs part 0) + (List.getD costs (Int.toNat (mask - ((part : Nat) : Int))) 0)) + (subsetSize g mask)) ≠ (List.getD costs (Int.toNat mask) 0)) := (Or.imp (fun h => (Or.imp (fun h => (Go.Am.beq_neg h)) (fun h => (Go.Am.bne_neg h)) (Go.Am.and_neg h))) (fun h => (Go.Am.beq_neg h)) (Go.Am.and_neg h69))
     have e70 := e32.trans (Go.Am.bif_f h69)
     refine AW.kp [1, 2, 3, 6, 7] [12, 24] ⟨[(1, .data (.slice (.int .i64)) (costs : List Int)), (2, .int .i64 mask), (3, .ref 12 1 0), (6, .ref 24 1 0), (7, .int .i64 ((part : Nat) : Int))], [(12, .box 1 [.data (.slice (.int .i64)) ((Graph.Rows g) : List Int), .data (.slice (.named 0)) ((Graph.Edges g) : List Edge)]), (24, .box 1 [.int .i64 0, .nilsl])]⟩ ?_
     refine AW.skip (AW.r0 hC [1, 2, 3, 6, 7] [12, 24] ⟨[(1, .data (.slice (.int .i64)) (costs : List Int)), (2, .int .i64 mask), (3, .ref 12 1 0), (6, .ref 24 1 0), (7, .int .i64 ((part + 1 : Nat) : Int))], [(12, .box 1 [.data (.slice (.int .i64)) ((Graph.Rows g) : List Int), .data (.slice (.named 0)) ((Graph.Edges g) : List Edge)]), (24, .box 1 [.int .i64 0, .nilsl])]⟩ [(-9223372036854775808 ≤ ((part + 1 : Nat) : Int) ∧ ((part + 1 : Nat) : Int) ≤ 9223372036854775807)] ?_ ?_)
     ·
      refine ⟨?_, trivial⟩
      ·
       omega
     refine AW.back (x := part) (part + 1) (by kernel_rfl) ⟨?_, k30q, ?_, e70⟩ ?_
     ·
      show 1 ≤ (part + 1)
      omega
     ·
      show Int.toNat (mask - (((part + 1) : Nat) : Int)) < k30q
      omega
     ·
      show Int.toNat (mask - (((part + 1) : Nat) : Int)) < Int.toNat (mask - ((part : Nat) : Int))
      omega
   ·
    intro h71
    have h71q : ¬ (((part : Nat) : Int) < mask) := (of_decide_eq_false h71)
    have e72 := e29.trans (Go.Am.bif_f h71)
    refine AW.kp [2, 6] [24] ⟨[(2, .int .i64 mask), (6, .ref 24 1 0)], [(24, .box 1 [.int .i64 0, .nilsl])]⟩ ?_
    refine AW.exit ?_
    refine AW.meet () (by kernel_rfl) ⟨?_, e72⟩
    show True
    exact trivial
 ·
  intro x hR
  obtain ⟨hJ0, e73⟩ := hR
  replace hJ0 : True := hJ0
  have e74 := e0.trans (Go.Am.elim_l e73)
  refine AW.seq (AW.r1 hC [2, 6, 8] [24] ⟨[(2, .int .i64 mask), (6, .ref 24 1 0), (8, .int .i64 0)], [(24, .box 1 [.int .i64 0, .nilsl])]⟩ ?_)
  refine AW.seq (AW.cutQ (α := Nat) (fun x => ⟨[(6, .ref 24 1 0), (8, .int .i64 ((x : Nat) : Int))], [(24, .box 1 [.int .i64 0, .nilsl])]⟩) (fun x => (True) ∧ (bestTree_l1 mask (5 - 0 + 1) 0) = x) ?_ ?_)
  ·
   skip
   refine AW.block (AW.loop (α := Nat) (fun x => ⟨[(2, .int .i64 mask), (6, .ref 24 1 0), (8, .int .i64 ((x : Nat) : Int))], [(24, .box 1 [.int .i64 0, .nilsl])]⟩) (fun x => (x ≤ 4 ∧ ∀ j : Nat, j < x → has mask ((j : Nat) : Int) = false) ∧ ∃ k, 5 - x < k ∧ (bestTree_l1 mask (5 - 0 + 1) 0) = bestTree_l1 mask k x) (fun x => 5 - x) 0 (by kernel_rfl) ⟨?_, _, Nat.lt_succ_self _, rfl⟩ ?_)
   ·
    show 0 ≤ 4 ∧ ∀ j : Nat, j < 0 → has mask ((j : Nat) : Int) = false
    exact ⟨by omega, fun j hj => absurd hj (Nat.not_lt_zero _)⟩
   ·
    intro leaf hR
    obtain ⟨hI1, k89, hk87, e88⟩ := hR
    replace hI1 : leaf ≤ 4 ∧ ∀ j : Nat, j < leaf → has mask ((j : Nat) : Int) = false := hI1
    replace hk87 : 5 - leaf < k89 := hk87
    obtain ⟨k89q, rfl⟩ : ∃ k, k89 = k + 1 := ⟨k89 - 1, by omega⟩
    refine AW.seq (AW.seq (AW.r0 hC [2, 6, 8, 63] [24] ⟨[(2, .int .i64 mask), (6, .ref 24 1 0), (8, .int .i64 ((leaf : Nat) : Int)), (63, .bool (!(has mask ((leaf : Nat) : Int))))], [(24, .box 1 [.int .i64 0, .nilsl])]⟩ [(0 ≤ mask ∧ (0 ≤ ((leaf : Nat) : Int) ∧ ((leaf : Nat) : Int) ≤ 64))] ?_ ?_))
    ·
     refine ⟨?_, trivial⟩
     ·
      omega
    refine AW.cd (!(has mask ((leaf : Nat) : Int))) ?_ ?_
    ·
     intro h90
     have h90q : (has mask ((leaf : Nat) : Int)) = false := (Go.Am.not_pos h90)
     have e91 := e88.trans (Go.Am.bif_t h90)
     refine AW.kp [2, 6, 8] [24] ⟨[(2, .int .i64 mask), (6, .ref 24 1 0), (8, .int .i64 ((leaf : Nat) : Int))], [(24, .box 1 [.int .i64 0, .nilsl])]⟩ ?_
     refine AW.skip (AW.block (AW.r0 hC [2, 6, 8] [24] ⟨[(2, .int .i64 mask), (6, .ref 24 1 0), (8, .int .i64 ((leaf + 1 : Nat) : Int))], [(24, .box 1 [.int .i64 0, .nilsl])]⟩ [(-9223372036854775808 ≤ ((leaf + 1 : Nat) : Int) ∧ ((leaf + 1 : Nat) : Int) ≤ 9223372036854775807)] ?_ ?_))
     ·
      refine ⟨?_, trivial⟩
      ·
       omega
     refine AW.back (x := leaf) (leaf + 1) (by kernel_rfl) ⟨?_, k89q, ?_, e91⟩ ?_
     ·
      show (leaf + 1) ≤ 4 ∧ ∀ j : Nat, j < (leaf + 1) → has mask ((j : Nat) : Int) = false
      exact has_step (by omega) (by omega) hI1.1 hI1.2 h90q
     ·
      show 5 - (leaf + 1) < k89q
      omega
     ·
      show 5 - (leaf + 1) < 5 - leaf
      omega
    ·
     intro h92
     have h92q : (has mask ((leaf : Nat) : Int)) = true := (Go.Am.not_neg h92)
     have e93 := e88.trans (Go.Am.bif_f h92)
     refine AW.kp [6, 8] [24] ⟨[(6, .ref 24 1 0), (8, .int .i64 ((leaf : Nat) : Int))], [(24, .box 1 [.int .i64 0, .nilsl])]⟩ ?_
     refine AW.exit ?_
     refine AW.meet leaf (by kernel_rfl) ⟨?_, e93⟩
     show True
     trivial
  ·
   intro leaf hR
   obtain ⟨hJ1, e94⟩ := hR
   replace hJ1 : True := hJ1
   have e95 := e74.trans (Go.Am.then_eq e94)
   refine AW.seq (AW.r1 hC [6] [24] ⟨[(6, .ref 24 1 0)], [(24, .box 1 [.int .i64 ((leaf : Nat) : Int), .nilsl])]⟩ ?_)
   exact AW.ret (AW.retE (β := JoinTree) (fun v => [⟨(.named 3), v⟩]) (fun v => []) (v := (JoinTree.mk ((leaf : Nat) : Int) ([] : List JoinTree))) e95 (by kernel_rfl) rfl rfl)

theorem bestTree_fu : AllTV (bestTree_sp.ps.map PK.ty) (fun tvs => bestTree_sp.pre tvs → ∃ k, (bestTree_spn k).pre tvs ∧ (bestTree_spn k).fn tvs = bestTree_sp.fn tvs ∧ (bestTree_spn k).bx tvs = bestTree_sp.bx tvs) :=
 (fun (g : Graph) (costs : List Int) (mask : Int) h => ⟨Int.toNat mask + 1, (show (VG g ∧ (Sm costs 31000000000000000 ∧ 1 ≤ mask ∧ mask < ((List.length costs : Nat) : Int))) ∧ Int.toNat mask < Int.toNat mask + 1 from ⟨h, Nat.lt_succ_self _⟩), (show (bestTree_spn (Int.toNat mask + 1)).fn [⟨(.named 1), (g : Graph)⟩, ⟨(.slice (.int .i64)), (costs : List Int)⟩, ⟨(.int .i64), (mask : Int)⟩] = ([⟨(.named 3), (bestTree_r (Int.toNat mask + 1) g costs mask)⟩] : List TV) from by kernel_rfl).trans (show ([⟨(.named 3), (bestTree_r (Int.toNat mask + 1) g costs mask)⟩] : List TV) = bestTree_sp.fn [⟨(.named 1), (g : Graph)⟩, ⟨(.slice (.int .i64)), (costs : List Int)⟩, ⟨(.int .i64), (mask : Int)⟩] from by kernel_rfl), by kernel_rfl⟩)

theorem bestTree_ok : FnOK Try.prog 72 bestTree_sp := FnOK.of_fuel bestTree_okn (fun _ => rfl) (fun _ => rfl) (AllTV.get bestTree_fu)

end
end Go.Proofs.Ytgbapklfgjnggaa
