/-
  A part of the proof of this claim (AxP): what functions of the program compute, and plain facts of that. No conditions.
-/
import Derived.Test.YtgbapklfgjnggaaAxK
set_option linter.all false
namespace Go.Proofs.Ytgbapklfgjnggaa
open Go Go.Am
noncomputable section

theorem g32 {g : Graph} (h : VG g) : 2 ≤ (1 : Int) * 2 ^ (List.length (Graph.Rows g)) ∧ (1 : Int) * 2 ^ (List.length (Graph.Rows g)) ≤ 32 := by
 have := gAll_b h
 unfold gAll at this
 omega

def sbestCosts_l1 (mask : Nat) (out : List Int) : Nat → Int → Nat → Int
 | 0, best, part => best
 | k + 1, best, part => (bif (decide (((part : Nat) : Int) < ((mask : Nat) : Int))) then (bif ((bits .and .i64 ((part : Nat) : Int) ((mask : Nat) : Int)) == ((part : Nat) : Int)) then (bif (bif (decide (best < 0)) then true else (decide (((List.getD out part 0) + (List.getD out (Int.toNat (((mask : Nat) : Int) - ((part : Nat) : Int))) 0)) < best))) then (sbestCosts_l1 mask out k ((List.getD out part 0) + (List.getD out (Int.toNat (((mask : Nat) : Int) - ((part : Nat) : Int))) 0)) (part + 1)) else (sbestCosts_l1 mask out k best (part + 1))) else (sbestCosts_l1 mask out k best (part + 1))) else best)

def sbestCosts_l0 (g : Graph) : Nat → Nat → (List Int) → (List Int)
 | 0, mask, out => out
 | k + 1, mask, out => (bif (decide (((mask : Nat) : Int) < ((1 : Int) * 2 ^ (List.length (Graph.Rows g))))) then (Go.Am.andThen (sbestCosts_l1 mask out (mask - 1 + 1) (-1) 1) (fun z => (fun (best : Int) => (bif (decide (0 ≤ best)) then (sbestCosts_l0 g k (mask + 1) (List.set out mask (best + (subsetSize g ((mask : Nat) : Int))))) else (sbestCosts_l0 g k (mask + 1) out))) z)) else out)

def sbestCosts (g : Graph) : (List Int) := (Go.Am.andThen (sbestCosts_l0 g (Int.toNat (((1 : Int) * 2 ^ (List.length (Graph.Rows g))) - ((1 : Nat) : Int)) + 1) 1 (List.replicate (Int.toNat ((1 : Int) * 2 ^ (List.length (Graph.Rows g)))) 0 : List Int)) (fun z => (fun (out : List Int) => out) z))

def sbestCosts_sp : FnSpec := mkSpec [.val (.named 1)] [.own (.int .i64)] (fun (g : Graph) => VG g) (fun (g : Graph) => [⟨(.slice (.int .i64)), (sbestCosts g)⟩])

theorem sbestCosts_ok : FnOK Try.prog 63 sbestCosts_sp := by
 have hC : CtxOK Try.prog (mkCtx tyL [(57, subsetSize_sp)]) := CtxOK.cons subsetSize_ok (CtxOK.nil tyOK)
 have hM : Try.prog.follows .mixedOrders = true := Try.checked.mixed
 refine FnOK.of_body Try.func63 (by kernel_rfl) rfl (C := (mkCtx tyL [(57, subsetSize_sp)])) hC.ty (by kernel_rfl) ?_
 intro (g : Graph) hwf hpre E
 have hpre : VG g := hpre
 have hw_g : Wf ⟨(.named 1), (g : Graph)⟩ := hwf _ (List.Mem.head _)
 have hl_g_Rows : ((List.length (Graph.Rows g) : Nat) : Int) ≤ 9223372036854775807 := (hw_g.field (tv := ⟨(.slice (.int .i64)), Graph.Rows g⟩) (List.Mem.head _)).len
 have hl_g_Edges : ((List.length (Graph.Edges g) : Nat) : Int) ≤ 9223372036854775807 := (hw_g.field (tv := ⟨(.slice (.named 0)), Graph.Edges g⟩) (List.Mem.tail _ (List.Mem.head _))).len
 have hn5 := hpre.n5
 have hG := g32 hpre
 have e0 : sbestCosts g = sbestCosts g := rfl
 refine AW.seq (AW.r1 hC [1] [4] ⟨[(1, .ref 4 1 0)], [(4, .box 1 [.data (.slice (.int .i64)) ((Graph.Rows g) : List Int), .data (.slice (.named 0)) ((Graph.Edges g) : List Edge)])]⟩ ?_)
 refine AW.seq (AW.r0 hC [1, 3] [4] ⟨[(1, .ref 4 1 0), (3, .int .i64 ((1 : Int) * 2 ^ (List.length (Graph.Rows g))))], [(4, .box 1 [.data (.slice (.int .i64)) ((Graph.Rows g) : List Int), .data (.slice (.named 0)) ((Graph.Edges g) : List Edge)])]⟩ [(0 ≤ ((List.length (Graph.Rows g) : Nat) : Int) ∧ ((List.length (Graph.Rows g) : Nat) : Int) ≤ 64), (-9223372036854775808 ≤ ((1 : Int) * 2 ^ (List.length (Graph.Rows g))) ∧ ((1 : Int) * 2 ^ (List.length (Graph.Rows g))) ≤ 9223372036854775807)] ?_ ?_)
 ·
  refine ⟨?_, ?_, trivial⟩
  ·
   omega
  ·
   omega
 refine AW.seq (AW.r0 hC [1, 3, 4] [4, 56] ⟨[(1, .ref 4 1 0), (3, .int .i64 ((1 : Int) * 2 ^ (List.length (Graph.Rows g)))), (4, .arr 56 1)], [(4, .box 1 [.data (.slice (.int .i64)) ((Graph.Rows g) : List Int), .data (.slice (.named 0)) ((Graph.Edges g) : List Edge)]), (56, .arr 1 (.int .i64) ((List.replicate (Int.toNat ((1 : Int) * 2 ^ (List.length (Graph.Rows g)))) 0 : List Int) : List Int))]⟩ [(0 ≤ ((1 : Int) * 2 ^ (List.length (Graph.Rows g))) ∧ ((1 : Int) * 2 ^ (List.length (Graph.Rows g))) ≤ ((1 : Int) * 2 ^ (List.length (Graph.Rows g))) ∧ ((1 : Int) * 2 ^ (List.length (Graph.Rows g))) ≤ 4294967296)] ?_ ?_)
 ·
  refine ⟨?_, trivial⟩
  ·
   omega
 refine AW.seq (AW.seq (AW.r1 hC [1, 3, 4, 5] [4, 56] ⟨[(1, .ref 4 1 0), (3, .int .i64 ((1 : Int) * 2 ^ (List.length (Graph.Rows g)))), (4, .arr 56 1), (5, .int .i64 1)], [(4, .box 1 [.data (.slice (.int .i64)) ((Graph.Rows g) : List Int), .data (.slice (.named 0)) ((Graph.Edges g) : List Edge)]), (56, .arr 1 (.int .i64) ((List.replicate (Int.toNat ((1 : Int) * 2 ^ (List.length (Graph.Rows g)))) 0 : List Int) : List Int))]⟩ ?_))
 refine AW.cutQ (α := (List Int)) (fun x => ⟨[(4, .arr 56 1)], [(56, .arr 1 (.int .i64) (x : List Int))]⟩) (fun x => (List.length x = Int.toNat ((1 : Int) * 2 ^ (List.length (Graph.Rows g)))) ∧ (sbestCosts_l0 g (Int.toNat (((1 : Int) * 2 ^ (List.length (Graph.Rows g))) - ((1 : Nat) : Int)) + 1) 1 (List.replicate (Int.toNat ((1 : Int) * 2 ^ (List.length (Graph.Rows g)))) 0 : List Int)) = x) ?_ ?_
 ·
  skip
  refine AW.block (AW.loop (α := Nat × (List Int)) (fun x => ⟨[(1, .ref 4 1 0), (3, .int .i64 ((1 : Int) * 2 ^ (List.length (Graph.Rows g)))), (4, .arr 56 1), (5, .int .i64 ((x.1 : Nat) : Int))], [(4, .box 1 [.data (.slice (.int .i64)) ((Graph.Rows g) : List Int), .data (.slice (.named 0)) ((Graph.Edges g) : List Edge)]), (56, .arr 1 (.int .i64) (x.2 : List Int))]⟩) (fun x => ((1 ≤ x.1 ∧ List.length x.2 = Int.toNat ((1 : Int) * 2 ^ (List.length (Graph.Rows g)))) ∧ CB x.2) ∧ ∃ k, Int.toNat (((1 : Int) * 2 ^ (List.length (Graph.Rows g))) - ((x.1 : Nat) : Int)) < k ∧ (sbestCosts_l0 g (Int.toNat (((1 : Int) * 2 ^ (List.length (Graph.Rows g))) - ((1 : Nat) : Int)) + 1) 1 (List.replicate (Int.toNat ((1 : Int) * 2 ^ (List.length (Graph.Rows g)))) 0 : List Int)) = sbestCosts_l0 g k x.1 x.2) (fun x => Int.toNat (((1 : Int) * 2 ^ (List.length (Graph.Rows g))) - ((x.1 : Nat) : Int))) (1, (List.replicate (Int.toNat ((1 : Int) * 2 ^ (List.length (Graph.Rows g)))) 0 : List Int)) (by kernel_rfl) ⟨?_, _, Nat.lt_succ_self _, rfl⟩ ?_)
  ·
   show (1 ≤ 1 ∧ List.length (List.replicate (Int.toNat ((1 : Int) * 2 ^ (List.length (Graph.Rows g)))) 0 : List Int) = Int.toNat ((1 : Int) * 2 ^ (List.length (Graph.Rows g)))) ∧ CB (List.replicate (Int.toNat ((1 : Int) * 2 ^ (List.length (Graph.Rows g)))) 0 : List Int)
   exact ⟨⟨by omega, by simp⟩, CB.zero _⟩
  ·
   intro x hR
   obtain ⟨mask, out⟩ := x
   obtain ⟨hI0, k114, hk112, e113⟩ := hR
   replace hI0 : (1 ≤ mask ∧ List.length out = Int.toNat ((1 : Int) * 2 ^ (List.length (Graph.Rows g)))) ∧ CB out := hI0
   replace hk112 : Int.toNat (((1 : Int) * 2 ^ (List.length (Graph.Rows g))) - ((mask : Nat) : Int)) < k114 := hk112
   obtain ⟨k114q, rfl⟩ : ∃ k, k114 = k + 1 := ⟨k114 - 1, by omega⟩
   have hcb := hI0.2
   have hsz := fun (h : ((mask : Nat) : Int) < (1 : Int) * 2 ^ (List.length (Graph.Rows g))) => sSize_b hpre (m := ((mask : Nat) : Int)) (by omega) (by omega)
   refine AW.seq (AW.seq (AW.r1 hC [1, 3, 4, 5, 17] [4, 56] ⟨[(1, .ref 4 1 0), (3, .int .i64 ((1 : Int) * 2 ^ (List.length (Graph.Rows g)))), (4, .arr 56 1), (5, .int .i64 ((mask : Nat) : Int)), (17, .bool (decide (((mask : Nat) : Int) < ((1 : Int) * 2 ^ (List.length (Graph.Rows g))))))], [(4, .box 1 [.data (.slice (.int .i64)) ((Graph.Rows g) : List Int), .data (.slice (.named 0)) ((Graph.Edges g) : List Edge)]), (56, .arr 1 (.int .i64) (out : List Int))]⟩ ?_))
   refine AW.cd (decide (((mask : Nat) : Int) < ((1 : Int) * 2 ^ (List.length (Graph.Rows g))))) ?_ ?_
   ·
    intro h115
    have h115q : ((mask : Nat) : Int) < ((1 : Int) * 2 ^ (List.length (Graph.Rows g))) := (of_decide_eq_true h115)
    have e116 := e113.trans (Go.Am.bif_t h115)
    refine AW.kp [1, 3, 4, 5] [4, 56] ⟨[(1, .ref 4 1 0), (3, .int .i64 ((1 : Int) * 2 ^ (List.length (Graph.Rows g)))), (4, .arr 56 1), (5, .int .i64 ((mask : Nat) : Int))], [(4, .box 1 [.data (.slice (.int .i64)) ((Graph.Rows g) : List Int), .data (.slice (.named 0)) ((Graph.Edges g) : List Edge)]), (56, .arr 1 (.int .i64) (out : List Int))]⟩ ?_
    refine AW.skip (AW.seq (AW.block (AW.seq (AW.r1 hC [1, 3, 4, 5, 6] [4, 56] ⟨[(1, .ref 4 1 0), (3, .int .i64 ((1 : Int) * 2 ^ (List.length (Graph.Rows g)))), (4, .arr 56 1), (5, .int .i64 ((mask : Nat) : Int)), (6, .int .i64 (-1))], [(4, .box 1 [.data (.slice (.int .i64)) ((Graph.Rows g) : List Int), .data (.slice (.named 0)) ((Graph.Edges g) : List Edge)]), (56, .arr 1 (.int .i64) (out : List Int))]⟩ ?_))))
    refine AW.seq (AW.seq (AW.r1 hC [1, 3, 4, 5, 6, 7] [4, 56] ⟨[(1, .ref 4 1 0), (3, .int .i64 ((1 : Int) * 2 ^ (List.length (Graph.Rows g)))), (4, .arr 56 1), (5, .int .i64 ((mask : Nat) : Int)), (6, .int .i64 (-1)), (7, .int .i64 1)], [(4, .box 1 [.data (.slice (.int .i64)) ((Graph.Rows g) : List Int), .data (.slice (.named 0)) ((Graph.Edges g) : List Edge)]), (56, .arr 1 (.int .i64) (out : List Int))]⟩ ?_))
    refine AW.cutQ (α := Int) (fun x => ⟨[(1, .ref 4 1 0), (3, .int .i64 ((1 : Int) * 2 ^ (List.length (Graph.Rows g)))), (4, .arr 56 1), (5, .int .i64 ((mask : Nat) : Int)), (6, .int .i64 x)], [(4, .box 1 [.data (.slice (.int .i64)) ((Graph.Rows g) : List Int), .data (.slice (.named 0)) ((Graph.Edges g) : List Edge)]), (56, .arr 1 (.int .i64) (out : List Int))]⟩) (fun x => (x = -1 ∨ (0 ≤ x ∧ x ≤ 1000000000000000 * ((mask : Int) - 2) ∧ 2 ≤ mask)) ∧ (sbestCosts_l1 mask out (mask - 1 + 1) (-1) 1) = x) ?_ ?_
    ·
     skip
     refine AW.block (AW.loop (α := Int × Nat) (fun x => ⟨[(1, .ref 4 1 0), (3, .int .i64 ((1 : Int) * 2 ^ (List.length (Graph.Rows g)))), (4, .arr 56 1), (5, .int .i64 ((mask : Nat) : Int)), (6, .int .i64 x.1), (7, .int .i64 ((x.2 : Nat) : Int))], [(4, .box 1 [.data (.slice (.int .i64)) ((Graph.Rows g) : List Int), .data (.slice (.named 0)) ((Graph.Edges g) : List Edge)]), (56, .arr 1 (.int .i64) (out : List Int))]⟩) (fun x => (1 ≤ x.2 ∧ (x.1 = -1 ∨ (0 ≤ x.1 ∧ x.1 ≤ 1000000000000000 * ((mask : Int) - 2) ∧ 2 ≤ mask))) ∧ ∃ k, mask - x.2 < k ∧ (sbestCosts_l1 mask out (mask - 1 + 1) (-1) 1) = sbestCosts_l1 mask out k x.1 x.2) (fun x => mask - x.2) ((-1), 1) (by kernel_rfl) ⟨?_, _, Nat.lt_succ_self _, rfl⟩ ?_)
     ·
      show 1 ≤ 1 ∧ ((-1) = -1 ∨ (0 ≤ (-1) ∧ (-1) ≤ 1000000000000000 * ((mask : Int) - 2) ∧ 2 ≤ mask))
      exact ⟨by omega, .inl rfl⟩
     ·
      intro x hR
      obtain ⟨best, part⟩ := x
      obtain ⟨hI1, k119, hk117, e118⟩ := hR
      replace hI1 : 1 ≤ part ∧ (best = -1 ∨ (0 ≤ best ∧ best ≤ 1000000000000000 * ((mask : Int) - 2) ∧ 2 ≤ mask)) := hI1
      replace hk117 : mask - part < k119 := hk117
      obtain ⟨k119q, rfl⟩ : ∃ k, k119 = k + 1 := ⟨k119 - 1, by omega⟩
      have c1 := hcb part
      have c2 := hcb (Int.toNat (((mask : Nat) : Int) - ((part : Nat) : Int)))
      refine AW.seq (AW.seq (AW.r1 hC [1, 3, 4, 5, 6, 7, 22] [4, 56] ⟨[(1, .ref 4 1 0), (3, .int .i64 ((1 : Int) * 2 ^ (List.length (Graph.Rows g)))), (4, .arr 56 1), (5, .int .i64 ((mask : Nat) : Int)), (6, .int .i64 best), (7, .int .i64 ((part : Nat) : Int)), (22, .bool (decide (((part : Nat) : Int) < ((mask : Nat) : Int))))], [(4, .box 1 [.data (.slice (.int .i64)) ((Graph.Rows g) : List Int), .data (.slice (.named 0)) ((Graph.Edges g) : List Edge)]), (56, .arr 1 (.int .i64) (out : List Int))]⟩ ?_))
      refine AW.cd (decide (((part : Nat) : Int) < ((mask : Nat) : Int))) ?_ ?_
      ·
       intro h120
       have h120q : ((part : Nat) : Int) < ((mask : Nat) : Int) := (of_decide_eq_true h120)
       have e121 := e118.trans (Go.Am.bif_t h120)
       refine AW.kp [1, 3, 4, 5, 6, 7] [4, 56] ⟨[(1, .ref 4 1 0), (3, .int .i64 ((1 : Int) * 2 ^ (List.length (Graph.Rows g)))), (4, .arr 56 1), (5, .int .i64 ((mask : Nat) : Int)), (6, .int .i64 best), (7, .int .i64 ((part : Nat) : Int))], [(4, .box 1 [.data (.slice (.int .i64)) ((Graph.Rows g) : List Int), .data (.slice (.named 0)) ((Graph.Edges g) : List Edge)]), (56, .arr 1 (.int .i64) (out : List Int))]⟩ ?_
       refine AW.skip (AW.seq (AW.block (AW.seq (AW.r1 hC [1, 3, 4, 5, 6, 7, 29] [4, 56] ⟨[(1, .ref 4 1 0), (3, .int .i64 ((1 : Int) * 2 ^ (List.length (Graph.Rows g)))), (4, .arr 56 1), (5, .int .i64 ((mask : Nat) : Int)), (6, .int .i64 best), (7, .int .i64 ((part : Nat) : Int)), (29, .bool ((bits .and .i64 ((part : Nat) : Int) ((mask : Nat) : Int)) == ((part : Nat) : Int)))], [(4, .box 1 [.data (.slice (.int .i64)) ((Graph.Rows g) : List Int), .data (.slice (.named 0)) ((Graph.Edges g) : List Edge)]), (56, .arr 1 (.int .i64) (out : List Int))]⟩ ?_))))
       refine AW.cd ((bits .and .i64 ((part : Nat) : Int) ((mask : Nat) : Int)) == ((part : Nat) : Int)) ?_ ?_
       ·
        intro h122
        have h122q : (bits .and .i64 ((part : Nat) : Int) ((mask : Nat) : Int)) = ((part : Nat) : Int) := (Go.Am.beq_pos h122)
        have e123 := e121.trans (Go.Am.bif_t h122)
        refine AW.seq (AW.d0 hC hM [1, 3, 4, 5, 6, 7, 8] [4, 56] ⟨[(1, .ref 4 1 0), (3, .int .i64 ((1 : Int) * 2 ^ (List.length (Graph.Rows g)))), (4, .arr 56 1), (5, .int .i64 ((mask : Nat) : Int)), (6, .int .i64 best), (7, .int .i64 ((part : Nat) : Int)), (8, .int .i64 ((List.getD out part 0) + (List.getD out (Int.toNat (((mask : Nat) : Int) - ((part : Nat) : Int))) 0)))], [(4, .box 1 [.data (.slice (.int .i64)) ((Graph.Rows g) : List Int), .data (.slice (.named 0)) ((Graph.Edges g) : List Edge)]), (56, .arr 1 (.int .i64) (out : List Int))]⟩ [(0 ≤ ((part : Nat) : Int) ∧ ((part : Nat) : Int) < ((List.length out : Nat) : Int)), (-9223372036854775808 ≤ (((mask : Nat) : Int) - ((part : Nat) : Int)) ∧ (((mask : Nat) : Int) - ((part : Nat) : Int)) ≤ 9223372036854775807), (0 ≤ (((mask : Nat) : Int) - ((part : Nat) : Int)) ∧ (((mask : Nat) : Int) - ((part : Nat) : Int)) < ((List.length out : Nat) : Int)), (-9223372036854775808 ≤ ((List.getD out part 0) + (List.getD out (Int.toNat (((mask : Nat) : Int) - ((part : Nat) : Int))) 0)) ∧ ((List.getD out part 0) + (List.getD out (Int.toNat (((mask : Nat) : Int) - ((part : Nat) : Int))) 0)) ≤ 9223372036854775807)] ?_ ?_)
        ·
         refine ⟨?_, ?_, ?_, ?_, trivial⟩
         ·
          omega
         ·
          omega
         ·
          omega
         ·
          omega
        refine AW.seq (AW.r0 hC [1, 3, 4, 5, 6, 7, 8, 47] [4, 56] ⟨[(1, .ref 4 1 0), (3, .int .i64 ((1 : Int) * 2 ^ (List.length (Graph.Rows g)))), (4, .arr 56 1), (5, .int .i64 ((mask : Nat) : Int)), (6, .int .i64 best), (7, .int .i64 ((part : Nat) : Int)), (8, .int .i64 ((List.getD out part 0) + (List.getD out (Int.toNat (((mask : Nat) : Int) - ((part : Nat) : Int))) 0))), (47, .bool (bif (decide (best < 0)) then true else (decide (((List.getD out part 0) + (List.getD out (Int.toNat (((mask : Nat) : Int) - ((part : Nat) : Int))) 0)) < best))))], [(4, .box 1 [.data (.slice (.int .i64)) ((Graph.Rows g) : List Int), .data (.slice (.named 0)) ((Graph.Edges g) : List Edge)]), (56, .arr 1 (.int .i64) (out : List Int))]⟩ [(((decide (best < 0)) = false) → (((decide (best < 0)) = false))), (((decide (best < 0)) = false) → (((decide (best < 0)) = false))), (((decide (best < 0)) = false) → (((decide (best < 0)) = false)))] ?_ ?_)
        ·
         refine ⟨?_, ?_, ?_, trivial⟩
         ·
          intro g124
          have g124p0 : ¬ (best < 0) := (of_decide_eq_false g124)
          assumption
         ·
          intro g125
          have g125p0 : ¬ (best < 0) := (of_decide_eq_false g125)
          assumption
         ·
          intro g126
          have g126p0 : ¬ (best < 0) := (of_decide_eq_false g126)
          assumption
        refine AW.cd (bif (decide (best < 0)) then true else (decide (((List.getD out part 0) + (List.getD out (Int.toNat (((mask : Nat) : Int) - ((part : Nat) : Int))) 0)) < best))) ?_ ?_
        ·
         intro h127
         have h127q : (best < 0) ∨ (((List.getD out part 0) + (List.getD out (Int.toNat (((mask : Nat) : Int) - ((part : Nat) : Int))) 0)) < best) := (Or.imp (fun h => (of_decide_eq_true h)) (fun h => (of_decide_eq_true h)) (Go.Am.or_pos h127))
         have e128 := e123.trans (Go.Am.bif_t h127)
         refine AW.r1 hC [1, 3, 4, 5, 6, 7] [4, 56] ⟨[(1, .ref 4 1 0), (3, .int .i64 ((1 : Int) * 2 ^ (List.length (Graph.Rows g)))), (4, .arr 56 1), (5, .int .i64 ((mask : Nat) : Int)), (6, .int .i64 ((List.getD out part 0) + (List.getD out (Int.toNat (((mask : Nat) : Int) - ((part : Nat) : Int))) 0))), (7, .int .i64 ((part : Nat) : Int))], [(4, .box 1 [.data (.slice (.int .i64)) ((Graph.Rows g) : List Int), .data (.slice (.named 0)) ((Graph.Edges g) : List Edge)]), (56, .arr 1 (.int .i64) (out : List Int))]⟩ ?_
         refine AW.r0 hC [1, 3, 4, 5, 6, 7] [4, 56] ⟨[(1, .ref 4 1 0), (3, .int .i64 ((1 : Int) * 2 ^ (List.length (Graph.Rows g)))), (4, .arr 56 1), (5, .int .i64 ((mask : Nat) : Int)), (6, .int .i64 ((List.getD out part 0) + (List.getD out (Int.toNat (((mask : Nat) : Int) - ((part : Nat) : Int))) 0))), (7, .int .i64 ((part + 1 : Nat) : Int))], [(4, .box 1 [.data (.slice (.int .i64)) ((Graph.Rows g) : List Int), .data (.slice (.named 0)) ((Graph.Edges g) : List Edge)]), (56, .arr 1 (.int .i64) (out : List Int))]⟩ [(-9223372036854775808 ≤ ((part + 1 : Nat) : Int) ∧ ((part + 1 : Nat) : Int) ≤ 9223372036854775807)] ?_ ?_
         ·
          refine ⟨?_, trivial⟩
          ·
           omega
         refine AW.back (x := (best, part)) (((List.getD out part 0) + (List.getD out (Int.toNat (((mask : Nat) : Int) - ((part : Nat) : Int))) 0)), part + 1) (by kernel_rfl) ⟨?_, k119q, ?_, e128⟩ ?_
         ·
          show 1 ≤ (part + 1) ∧ (((List.getD out part 0) + (List.getD out (Int.toNat (((mask : Nat) : Int) - ((part : Nat) : Int))) 0)) = -1 ∨ (0 ≤ ((List.getD out part 0) + (List.getD out (Int.toNat (((mask : Nat) : Int) - ((part : Nat) : Int))) 0)) ∧ ((List.getD out part 0) + (List.getD out (Int.toNat (((mask : Nat) : Int) - ((part : Nat) : Int))) 0)) ≤ 1000000000000000 * ((mask : Int) - 2) ∧ 2 ≤ mask))
          omega
         ·
          show mask - (part + 1) < k119q
          omega
         ·
          show mask - (part + 1) < mask - part
          omega
        ·
         intro h129
         have h129q : (¬ (best < 0)) ∧ (¬ (((List.getD out part 0) + (List.getD out (Int.toNat (((mask : Nat) : Int) - ((part : Nat) : Int))) 0)) < best)) := (And.imp (fun h => (of_decide_eq_false h)) (fun h => (of_decide_eq_false h)) (Go.Am.or_neg h129))
         have e130 := e123.trans (Go.Am.bif_f h129)
         refine AW.kp [1, 3, 4, 5, 6, 7] [4, 56] ⟨[(1, .ref 4 1 0), (3, .int .i64 ((1 : Int) * 2 ^ (List.length (Graph.Rows g)))), (4, .arr 56 1), (5, .int .i64 ((mask : Nat) : Int)), (6, .int .i64 best), (7, .int .i64 ((part : Nat) : Int))], [(4, .box 1 [.data (.slice (.int .i64)) ((Graph.Rows g) : List Int), .data (.slice (.named 0)) ((Graph.Edges g) : List Edge)]), (56, .arr 1 (.int .i64) (out : List Int))]⟩ ?_
         refine AW.skip (AW.r0 hC [1, 3, 4, 5, 6, 7] [4, 56] ⟨[(1, .ref 4 1 0), (3, .int .i64 ((1 : Int) * 2 ^ (List.length (Graph.Rows g)))), (4, .arr 56 1), (5, .int .i64 ((mask : Nat) : Int)), (6, .int .i64 best), (7, .int .i64 ((part + 1 : Nat) : Int))], [(4, .box 1 [.data (.slice (.int .i64)) ((Graph.Rows g) : List Int), .data (.slice (.named 0)) ((Graph.Edges g) : List Edge)]), (56, .arr 1 (.int .i64) (out : List Int))]⟩ [(-9223372036854775808 ≤ ((part + 1 : Nat) : Int) ∧ ((part + 1 : Nat) : Int) ≤ 9223372036854775807)] ?_ ?_)
         ·
          refine ⟨?_, trivial⟩
          ·
           omega
         refine AW.back (x := (best, part)) (best, part + 1) (by kernel_rfl) ⟨?_, k119q, ?_, e130⟩ ?_
         ·
          show 1 ≤ (part + 1) ∧ (best = -1 ∨ (0 ≤ best ∧ best ≤ 1000000000000000 * ((mask : Int) - 2) ∧ 2 ≤ mask))
          omega
         ·
          show mask - (part + 1) < k119q
          omega
         ·
          show mask - (part + 1) < mask - part
          omega
       ·
        intro h131
        have h131q : (bits .and .i64 ((part : Nat) : Int) ((mask : Nat) : Int)) ≠ ((part : Nat) : Int) := (Go.Am.beq_neg h131)
        have e132 := e121.trans (Go.Am.bif_f h131)
        refine AW.kp [1, 3, 4, 5, 6, 7] [4, 56] ⟨[(1, .ref 4 1 0), (3, .int .i64 ((1 : Int) * 2 ^ (List.length (Graph.Rows g)))), (4, .arr 56 1), (5, .int .i64 ((mask : Nat) : Int)), (6, .int .i64 best), (7, .int .i64 ((part : Nat) : Int))], [(4, .box 1 [.data (.slice (.int .i64)) ((Graph.Rows g) : List Int), .data (.slice (.named 0)) ((Graph.Edges g) : List Edge)]), (56, .arr 1 (.int .i64) (out : List Int))]⟩ ?_
        refine AW.skip (AW.r0 hC [1, 3, 4, 5, 6, 7] [4, 56] ⟨[(1, .ref 4 1 0), (3, .int .i64 ((1 : Int) * 2 ^ (List.length (Graph.Rows g)))), (4, .arr 56 1), (5, .int .i64 ((mask : Nat) : Int)), (6, .int .i64 best), (7, .int .i64 ((part + 1 : Nat) : Int))], [(4, .box 1 [.data (.slice (.int .i64)) ((Graph.Rows g) : List Int), .data (.slice (.named 0)) ((Graph.Edges g) : List Edge)]), (56, .arr 1 (.int .i64) (out : List Int))]⟩ [(-9223372036854775808 ≤ ((part + 1 : Nat) : Int) ∧ ((part + 1 : Nat) : Int) ≤ 9223372036854775807)] ?_ ?_)
        ·
         refine ⟨?_, trivial⟩
         ·
          omega
        refine AW.back (x := (best, part)) (best, part + 1) (by kernel_rfl) ⟨?_, k119q, ?_, e132⟩ ?_
        ·
         show 1 ≤ (part + 1) ∧ (best = -1 ∨ (0 ≤ best ∧ best ≤ 1000000000000000 * ((mask : Int) - 2) ∧ 2 ≤ mask))
         omega
        ·
         show mask - (part + 1) < k119q
         omega
        ·
         show mask - (part + 1) < mask - part
         omega
      ·
       intro h133
       have h133q : ¬ (((part : Nat) : Int) < ((mask : Nat) : Int)) := (of_decide_eq_false h133)
       have e134 := e118.trans (Go.Am.bif_f h133)
       refine AW.kp [1, 3, 4, 5, 6] [4, 56] ⟨[(1, .ref 4 1 0), (3, .int .i64 ((1 : Int) * 2 ^ (List.length (Graph.Rows g)))), (4, .arr 56 1), (5, .int .i64 ((mask : Nat) : Int)), (6, .int .i64 best)], [(4, .box 1 [.data (.slice (.int .i64)) ((Graph.Rows g) : List Int), .data (.slice (.named 0)) ((Graph.Edges g) : List Edge)]), (56, .arr 1 (.int .i64) (out : List Int))]⟩ ?_
       refine AW.exit ?_
       refine AW.meet best (by kernel_rfl) ⟨?_, e134⟩
       show best = -1 ∨ (0 ≤ best ∧ best ≤ 1000000000000000 * ((mask : Int) - 2) ∧ 2 ≤ mask)
       exact hI1.2
    ·
     intro best hR
     obtain ⟨hJ1, e135⟩ := hR
     replace hJ1 : best = -1 ∨ (0 ≤ best ∧ best ≤ 1000000000000000 * ((mask : Int) - 2) ∧ 2 ≤ mask) := hJ1
     have e136 := e116.trans (Go.Am.then_eq e135)
     refine AW.seq (AW.r1 hC [1, 3, 4, 5, 6, 50] [4, 56] ⟨[(1, .ref 4 1 0), (3, .int .i64 ((1 : Int) * 2 ^ (List.length (Graph.Rows g)))), (4, .arr 56 1), (5, .int .i64 ((mask : Nat) : Int)), (6, .int .i64 best), (50, .bool (decide (0 ≤ best)))], [(4, .box 1 [.data (.slice (.int .i64)) ((Graph.Rows g) : List Int), .data (.slice (.named 0)) ((Graph.Edges g) : List Edge)]), (56, .arr 1 (.int .i64) (out : List Int))]⟩ ?_)
     refine AW.cd (decide (0 ≤ best)) ?_ ?_
     ·
      intro h137
      have h137q : 0 ≤ best := (of_decide_eq_true h137)
      have e138 := e136.trans (Go.Am.bif_t h137)
      refine AW.r0 hC [1, 3, 4, 5] [4, 56] ⟨[(1, .ref 4 1 0), (3, .int .i64 ((1 : Int) * 2 ^ (List.length (Graph.Rows g)))), (4, .arr 56 1), (5, .int .i64 ((mask : Nat) : Int))], [(4, .box 1 [.data (.slice (.int .i64)) ((Graph.Rows g) : List Int), .data (.slice (.named 0)) ((Graph.Edges g) : List Edge)]), (56, .arr 1 (.int .i64) ((List.set out mask (best + (subsetSize g ((mask : Nat) : Int)))) : List Int))]⟩ [(VG g ∧ 0 ≤ ((mask : Nat) : Int)), (-9223372036854775808 ≤ (best + (subsetSize g ((mask : Nat) : Int))) ∧ (best + (subsetSize g ((mask : Nat) : Int))) ≤ 9223372036854775807), (0 ≤ ((mask : Nat) : Int) ∧ ((mask : Nat) : Int) < ((List.length out : Nat) : Int))] ?_ ?_
      ·
       refine ⟨?_, ?_, ?_, trivial⟩
       ·
        exact ⟨hpre, by omega⟩
       ·
        omega
       ·
        omega
      refine AW.r0 hC [1, 3, 4, 5] [4, 56] ⟨[(1, .ref 4 1 0), (3, .int .i64 ((1 : Int) * 2 ^ (List.length (Graph.Rows g)))), (4, .arr 56 1), (5, .int .i64 ((mask + 1 : Nat) : Int))], [(4, .box 1 [.data (.slice (.int .i64)) ((Graph.Rows g) : List Int), .data (.slice (.named 0)) ((Graph.Edges g) : List Edge)]), (56, .arr 1 (.int .i64) ((List.set out mask (best + (subsetSize g ((mask : Nat) : Int)))) : List Int))]⟩ [(-9223372036854775808 ≤ ((mask + 1 : Nat) : Int) ∧ ((mask + 1 : Nat) : Int) ≤ 9223372036854775807)] ?_ ?_
      ·
       refine ⟨?_, trivial⟩
       ·
        omega
      refine AW.back (x := (mask, out)) (mask + 1, (List.set out mask (best + (subsetSize g ((mask : Nat) : Int))))) (by kernel_rfl) ⟨?_, k114q, ?_, e138⟩ ?_
      ·
       show (1 ≤ (mask + 1) ∧ List.length (List.set out mask (best + (subsetSize g ((mask : Nat) : Int)))) = Int.toNat ((1 : Int) * 2 ^ (List.length (Graph.Rows g)))) ∧ CB (List.set out mask (best + (subsetSize g ((mask : Nat) : Int))))
       have := hsz (by omega)
       exact ⟨⟨by omega, by rw [List.length_set]; exact hI0.1.2⟩, hI0.2.set (by omega) (by omega)⟩
      ·
       show Int.toNat (((1 : Int) * 2 ^ (List.length (Graph.Rows g))) - (((mask + 1) : Nat) : Int)) < k114q
       omega
      ·
       show Int.toNat (((1 : Int) * 2 ^ (List.length (Graph.Rows g))) - (((mask + 1) : Nat) : Int)) < Int.toNat (((1 : Int) * 2 ^ (List.length (Graph.Rows g))) - ((mask : Nat) : Int))
       omega
     ·
      intro h139
      have h139q : ¬ (0 ≤ best) := (of_decide_eq_false h139)
      have e140 := e136.trans (Go.Am.bif_f h139)
      refine AW.kp [1, 3, 4, 5] [4, 56] ⟨[(1, .ref 4 1 0), (3, .int .i64 ((1 : Int) * 2 ^ (List.length (Graph.Rows g)))), (4, .arr 56 1), (5, .int .i64 ((mask : Nat) : Int))], [(4, .box 1 [.data (.slice (.int .i64)) ((Graph.Rows g) : List Int), .data (.slice (.named 0)) ((Graph.Edges g) : List Edge)]), (56, .arr 1 (.int .i64) (out : List Int))]⟩ ?_
      refine AW.skip (AW.r0 hC [1, 3, 4, 5] [4, 56] ⟨[(1, .ref 4 1 0), (3, .int .i64 ((1 : Int) * 2 ^ (List.length (Graph.Rows g)))), (4, .arr 56 1), (5, .int .i64 ((mask + 1 : Nat) : Int))], [(4, .box 1 [.data (.slice (.int .i64)) ((Graph.Rows g) : List Int), .data (.slice (.named 0)) ((Graph.Edges g) : List Edge)]), (56, .arr 1 (.int .i64) (out : List Int))]⟩ [(-9223372036854775808 ≤ ((mask + 1 : Nat) : Int) ∧ ((mask + 1 : Nat) : Int) ≤ 9223372036854775807)] ?_ ?_)
      ·
       refine ⟨?_, trivial⟩
       ·
        omega
      refine AW.back (x := (mask, out)) (mask + 1, out) (by kernel_rfl) ⟨?_, k114q, ?_, e140⟩ ?_
      ·
       show (1 ≤ (mask + 1) ∧ List.length out = Int.toNat ((1 : Int) * 2 ^ (List.length (Graph.Rows g)))) ∧ CB out
       exact ⟨⟨by omega, hI0.1.2⟩, hI0.2⟩
      ·
       show Int.toNat (((1 : Int) * 2 ^ (List.length (Graph.Rows g))) - (((mask + 1) : Nat) : Int)) < k114q
       omega
      ·
       show Int.toNat (((1 : Int) * 2 ^ (List.length (Graph.Rows g))) - (((mask + 1) : Nat) : Int)) < Int.toNat (((1 : Int) * 2 ^ (List.length (Graph.Rows g))) - ((mask : Nat) : Int))
       omega
   ·
    intro h141
    have h141q : ¬ (((mask : Nat) : Int) < ((1 : Int) * 2 ^ (List.length (Graph.Rows g)))) := (of_decide_eq_false h141)
    have e142 := e113.trans (Go.Am.bif_f h141)
    refine AW.kp [4] [56] ⟨[(4, .arr 56 1)], [(56, .arr 1 (.int .i64) (out : List Int))]⟩ ?_
    refine AW.exit ?_
    refine AW.meet out (by kernel_rfl) ⟨?_, e142⟩
    show List.length out = Int.toNat ((1 : Int) * 2 ^ (List.length (Graph.Rows g)))
    exact hI0.1.2
 ·
  intro out hR
  obtain ⟨hJ0, e143⟩ := hR
  replace hJ0 : List.length out = Int.toNat ((1 : Int) * 2 ^ (List.length (Graph.Rows g))) := hJ0
  have e144 := e0.trans (Go.Am.then_eq e143)
  refine AW.seq (AW.r1 hC [2] [56] ⟨[(2, .arr 56 1)], [(56, .arr 1 (.int .i64) (out : List Int))]⟩ ?_)
  exact AW.ret (AW.retE (β := (List Int)) (fun v => [⟨(.slice (.int .i64)), v⟩]) (fun v => []) (v := out) e144 (by kernel_rfl) rfl rfl)

end
end Go.Proofs.Ytgbapklfgjnggaa
