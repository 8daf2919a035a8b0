/-
  A part of the proof of this claim (AkA): what functions of the program compute, and plain facts of that. No conditions.
-/
import Derived.Test.YtpoohhjlpepmfaaAjG
import Derived.Test.YtpoohhjlpepmfaaAkL
set_option linter.all false
namespace Go.Proofs.Ytpoohhjlpepmfaa
open Go Go.Am
noncomputable section

theorem lv_range {n : Int} (hn : n ≤ 5) : ∀ (d : Nat) (t : JoinTree), Nd n (d + 1) t → ∀ x ∈ lvs d t, 0 ≤ x ∧ x ≤ n - 1 := by
 intro d
 induction d with
 | zero =>
  intro t h x hx
  rw [List.mem_singleton.1 hx]
  exact (leaf_mask h.ne (h.last hn)).1
 | succ d ih =>
  intro t h x hx
  unfold lvs at hx
  by_cases hk : t.Kids.length = 0
  ·
   rw [kidsT hk, cond_true] at hx
   rw [List.mem_singleton.1 hx]
   exact (leaf_mask h.ne hk).1
  ·
   rw [kidsF hk, cond_false] at hx
   obtain ⟨_, _, h3, h4⟩ := h.join hn hk
   rcases List.mem_append.1 hx with hx | hx
   ·
    exact ih _ h3 x hx
   ·
    exact ih _ h4 x hx

theorem leaves_b {g : Graph} {t : JoinTree} (h : ¬ iTreeCost g t < 0) : (LeavesOf g t).length ≤ 16 ∧ ∀ i : Nat, 0 ≤ List.getD (LeavesOf g t) i 0 ∧ List.getD (LeavesOf g t) i 0 ≤ 4 := by
 have hne : ¬ iTreeCost g t = -1 := by omega
 obtain ⟨hV, hT⟩ := cost_top hne
 have h5 := hV.n5
 rw [LeavesOf_eq hne]
 have hp := (pc_one ⟨(treeMask t (List.length g.Rows : Int)).toNat, by have := mask_range (n := (List.length g.Rows : Int)) (by omega) t; omega⟩).2
 refine ⟨by rw [lv_len (n := (List.length g.Rows : Int)) (by omega) 4 t hT]; exact Nat.le_trans hp (by decide), fun i => ?_⟩
 by_cases hi : i < (lvs 4 t).length
 ·
  have := lv_range (n := (List.length g.Rows : Int)) (by omega) 4 t hT _ (getD_mem (lvs 4 t) i 0 hi)
  omega
 ·
  rw [List.getD_eq_getElem?_getD, List.getElem?_eq_none (by omega)]
  exact ⟨by decide, by decide⟩

theorem two_kids {g : Graph} {t : JoinTree} (h : ¬ iTreeCost g t < 0) (hk : t.Kids.length ≠ 0) : t.Kids.length = 2 := by
 obtain ⟨hV, hT⟩ := cost_top (g := g) (t := t) (by omega)
 have h5 := hV.n5
 exact (hT.join (n := (List.length g.Rows : Int)) (by omega) hk).1

theorem iCost_b (g : Graph) (t : JoinTree) : -1 ≤ iTreeCost g t ∧ iTreeCost g t ≤ 31000000000000000 := by
 by_cases h : iTreeCost g t = -1
 ·
  omega
 ·
  obtain ⟨hV, hT⟩ := cost_top h
  rw [treeCost_same]
  unfold TreeCost
  rw [JoinTree.eta, validGraph_iff.2 hV, show (treeMask t (List.length g.Rows : Int) == 0) = false from beq_false_of_ne hT.ne]
  have := cost_in hV (SizeOf.sizeOf t + 1) t hT.ne
  show -1 ≤ treeCost_r _ g t ∧ treeCost_r _ g t ≤ _
  omega

theorem iSub_b (g : Graph) (m : Int) : -1 ≤ iSubsetSize g m ∧ iSubsetSize g m ≤ 1000000000000000 := by
 unfold iSubsetSize
 cases hv : ValidGraph g with
 | false => simp
 | true =>
  have hV := ValidGraph_iff.1 hv
  have := gSize_b hV m
  simp only [Bool.not_true, cond_false]
  cases decide (m < 1) with
  | true => simp
  | false =>
   simp only [cond_false]
   cases decide (gAll g < m) with
   | true => simp
   | false => simp only [cond_false]; omega

theorem or32b {a b : Int} (ha : 0 ≤ a ∧ a < 32) (hb : 0 ≤ b ∧ b < 32) : 0 ≤ bits .or .i64 a b ∧ bits .or .i64 a b < 32 := by
 rw [(bits62 ha.1 (by omega) hb.1 (by omega)).2]
 have := Nat.or_lt_two_pow (x := a.toNat) (y := b.toNat) (n := 5) (by omega) (by omega)
 omega

def FnTreeCost_l0 (code : List Int) : Nat → Int → Nat → Int
 | 0, mask1, i => mask1
 | k + 1, mask1, i => (bif (decide (((i : Nat) : Int) < ((List.length (LeavesOf ((DrawTreeCost code).1) (JoinTree.mk (JoinTree.Leaf ((DrawTreeCost code).2)) (JoinTree.Kids ((DrawTreeCost code).2)))) : Nat) : Int))) then (FnTreeCost_l0 code k (bits .or .i64 mask1 ((1 : Int) * 2 ^ (Int.toNat (List.getD (LeavesOf ((DrawTreeCost code).1) (JoinTree.mk (JoinTree.Leaf ((DrawTreeCost code).2)) (JoinTree.Kids ((DrawTreeCost code).2)))) i 0)))) (i + 1)) else mask1)

def FnTreeCost (code : List Int) : Bool := (bif (decide (1048576 < ((List.length code : Nat) : Int))) then true else (bif (bif (bif ((iTreeCost ((DrawTreeCost code).1) (JoinTree.mk (JoinTree.Leaf ((DrawTreeCost code).2)) (JoinTree.Kids ((DrawTreeCost code).2)))) != (TreeCost ((DrawTreeCost code).1) (JoinTree.mk (JoinTree.Leaf ((DrawTreeCost code).2)) (JoinTree.Kids ((DrawTreeCost code).2))))) then true else (decide ((iTreeCost ((DrawTreeCost code).1) (JoinTree.mk (JoinTree.Leaf ((DrawTreeCost code).2)) (JoinTree.Kids ((DrawTreeCost code).2)))) < 0))) then true else (((List.length (JoinTree.Kids ((DrawTreeCost code).2)) : Nat) : Int) == 0)) then (bif ((iTreeCost ((DrawTreeCost code).1) (JoinTree.mk (JoinTree.Leaf ((DrawTreeCost code).2)) (JoinTree.Kids ((DrawTreeCost code).2)))) == (TreeCost ((DrawTreeCost code).1) (JoinTree.mk (JoinTree.Leaf ((DrawTreeCost code).2)) (JoinTree.Kids ((DrawTreeCost code).2))))) then (bif (decide ((iTreeCost ((DrawTreeCost code).1) (JoinTree.mk (JoinTree.Leaf ((DrawTreeCost code).2)) (JoinTree.Kids ((DrawTreeCost code).2)))) ≤ 0)) then true else (decide (0 < ((List.length (JoinTree.Kids ((DrawTreeCost code).2)) : Nat) : Int)))) else false) else (Go.Am.andThen (FnTreeCost_l0 code ((List.length (LeavesOf ((DrawTreeCost code).1) (JoinTree.mk (JoinTree.Leaf ((DrawTreeCost code).2)) (JoinTree.Kids ((DrawTreeCost code).2))))) - 0 + 1) 0 0) (fun z => (fun (mask1 : Int) => (bif ((iTreeCost ((DrawTreeCost code).1) (JoinTree.mk (JoinTree.Leaf ((DrawTreeCost code).2)) (JoinTree.Kids ((DrawTreeCost code).2)))) == (((iSubsetSize ((DrawTreeCost code).1) mask1) + (iTreeCost ((DrawTreeCost code).1) (List.getD (JoinTree.Kids ((DrawTreeCost code).2)) 0 JoinTree.zero))) + (iTreeCost ((DrawTreeCost code).1) (List.getD (JoinTree.Kids ((DrawTreeCost code).2)) 1 JoinTree.zero)))) then ((iTreeCost ((DrawTreeCost code).1) (JoinTree.mk 0 ([(List.getD (JoinTree.Kids ((DrawTreeCost code).2)) 1 JoinTree.zero), (List.getD (JoinTree.Kids ((DrawTreeCost code).2)) 0 JoinTree.zero)] : List JoinTree))) == (iTreeCost ((DrawTreeCost code).1) (JoinTree.mk (JoinTree.Leaf ((DrawTreeCost code).2)) (JoinTree.Kids ((DrawTreeCost code).2))))) else false)) z))))

def FnTreeCost_sp : FnSpec := mkSpec [.val (.slice (.int .u8))] [.val .bool] (fun (code : List Int) => True) (fun (code : List Int) => [⟨.bool, (FnTreeCost code)⟩])

theorem FnTreeCost_ok : FnOK Try.prog 7 FnTreeCost_sp := by
 have hC : CtxOK Try.prog (mkCtx tyL [(16, iSubsetSize_sp), (31, DrawTreeCost_sp), (32, iTreeCost_sp), (33, TreeCost_sp), (34, LeavesOf_sp)]) := CtxOK.cons iSubsetSize_ok (CtxOK.cons DrawTreeCost_ok (CtxOK.cons iTreeCost_ok (CtxOK.cons TreeCost_ok (CtxOK.cons LeavesOf_ok (CtxOK.nil tyOK)))))
 have hM : Try.prog.follows .mixedOrders = true := Try.checked.mixed
 refine FnOK.of_body Try.func7 (by kernel_rfl) rfl (C := (mkCtx tyL [(16, iSubsetSize_sp), (31, DrawTreeCost_sp), (32, iTreeCost_sp), (33, TreeCost_sp), (34, LeavesOf_sp)])) hC.ty (by kernel_rfl) ?_
 intro (code : List Int) hwf hpre E
 have hpre : True := hpre
 have hw_code : Wf ⟨(.slice (.int .u8)), (code : List Int)⟩ := hwf _ (List.Mem.head _)
 have hl_code : ((List.length code : Nat) : Int) ≤ 9223372036854775807 := hw_code.len
 have hEta := JoinTree.eta (DrawTreeCost code).2
 have hB1 := fun (t : JoinTree) => iCost_b (DrawTreeCost code).1 t
 have hB2 := fun (m : Int) => iSub_b (DrawTreeCost code).1 m
 have hLB := fun h => leaves_b (g := (DrawTreeCost code).1) (t := (JoinTree.mk (JoinTree.Leaf ((DrawTreeCost code).2)) (JoinTree.Kids ((DrawTreeCost code).2)))) h
 have hTK := fun h => two_kids (g := (DrawTreeCost code).1) (t := (JoinTree.mk (JoinTree.Leaf ((DrawTreeCost code).2)) (JoinTree.Kids ((DrawTreeCost code).2)))) h
 have hTK2 := fun h h2 => (hTK h h2 : (DrawTreeCost code).2.Kids.length = 2)
 have e0 : FnTreeCost code = FnTreeCost code := rfl
 refine AW.seq (AW.r1 hC [0] [] ⟨[(0, .data (.slice (.int .u8)) (code : List Int))], []⟩ ?_)
 refine AW.seq (AW.seq (AW.r1 hC [0, 12] [] ⟨[(0, .data (.slice (.int .u8)) (code : List Int)), (12, .bool (decide (1048576 < ((List.length code : Nat) : Int))))], []⟩ ?_))
 refine AW.cd (decide (1048576 < ((List.length code : Nat) : Int))) ?_ ?_
 ·
  intro h1
  have h1q : 1048576 < ((List.length code : Nat) : Int) := (of_decide_eq_true h1)
  have e2 := e0.trans (Go.Am.bif_t h1)
  refine AW.seq (AW.r1 hC [2] [] ⟨[(2, .bool true)], []⟩ ?_)
  exact AW.ret (AW.retE (β := Bool) (fun v => [⟨.bool, v⟩]) (fun v => []) (v := true) e2 (by kernel_rfl) rfl rfl)
 ·
  intro h3
  have h3q : ¬ (1048576 < ((List.length code : Nat) : Int)) := (of_decide_eq_false h3)
  have e4 := e0.trans (Go.Am.bif_f h3)
  refine AW.kp [0] [] ⟨[(0, .data (.slice (.int .u8)) (code : List Int))], []⟩ ?_
  refine AW.skip (AW.seq (AW.r0 hC [3, 4] [12, 16] ⟨[(3, .ref 12 1 0), (4, .ref 16 1 0)], [(12, .box 1 [.data (.slice (.int .i64)) ((Graph.Rows ((DrawTreeCost code).1)) : List Int), .data (.slice (.named 0)) ((Graph.Edges ((DrawTreeCost code).1)) : List Edge)]), (16, .box 1 [.int .i64 (JoinTree.Leaf ((DrawTreeCost code).2)), .data (.slice (.named 3)) ((JoinTree.Kids ((DrawTreeCost code).2)) : List JoinTree)])]⟩ [(True)] ?_ ?_))
  ·
   refine ⟨?_, trivial⟩
   ·
    trivial
  refine AW.seq (AW.r0 hC [3, 4, 5] [12, 16] ⟨[(3, .ref 12 1 0), (4, .ref 16 1 0), (5, .int .i64 (iTreeCost ((DrawTreeCost code).1) (JoinTree.mk (JoinTree.Leaf ((DrawTreeCost code).2)) (JoinTree.Kids ((DrawTreeCost code).2)))))], [(12, .box 1 [.data (.slice (.int .i64)) ((Graph.Rows ((DrawTreeCost code).1)) : List Int), .data (.slice (.named 0)) ((Graph.Edges ((DrawTreeCost code).1)) : List Edge)]), (16, .box 1 [.int .i64 (JoinTree.Leaf ((DrawTreeCost code).2)), .data (.slice (.named 3)) ((JoinTree.Kids ((DrawTreeCost code).2)) : List JoinTree)])]⟩ [(True)] ?_ ?_)
  ·
   refine ⟨?_, trivial⟩
   ·
    trivial
  refine AW.seq (AW.seq (AW.r0 hC [3, 4, 5, 35] [12, 16] ⟨[(3, .ref 12 1 0), (4, .ref 16 1 0), (5, .int .i64 (iTreeCost ((DrawTreeCost code).1) (JoinTree.mk (JoinTree.Leaf ((DrawTreeCost code).2)) (JoinTree.Kids ((DrawTreeCost code).2))))), (35, .bool (bif (bif ((iTreeCost ((DrawTreeCost code).1) (JoinTree.mk (JoinTree.Leaf ((DrawTreeCost code).2)) (JoinTree.Kids ((DrawTreeCost code).2)))) != (TreeCost ((DrawTreeCost code).1) (JoinTree.mk (JoinTree.Leaf ((DrawTreeCost code).2)) (JoinTree.Kids ((DrawTreeCost code).2))))) then true else (decide ((iTreeCost ((DrawTreeCost code).1) (JoinTree.mk (JoinTree.Leaf ((DrawTreeCost code).2)) (JoinTree.Kids ((DrawTreeCost code).2)))) < 0))) then true else (((List.length (JoinTree.Kids ((DrawTreeCost code).2)) : Nat) : Int) == 0)))], [(12, .box 1 [.data (.slice (.int .i64)) ((Graph.Rows ((DrawTreeCost code).1)) : List Int), .data (.slice (.named 0)) ((Graph.Edges ((DrawTreeCost code).1)) : List Edge)]), (16, .box 1 [.int .i64 (JoinTree.Leaf ((DrawTreeCost code).2)), .data (.slice (.named 3)) ((JoinTree.Kids ((DrawTreeCost code).2)) : List JoinTree)])]⟩ [(True), ((((iTreeCost ((DrawTreeCost code).1) (JoinTree.mk (JoinTree.Leaf ((DrawTreeCost code).2)) (JoinTree.Kids ((DrawTreeCost code).2)))) != (TreeCost ((DrawTreeCost code).1) (JoinTree.mk (JoinTree.Leaf ((DrawTreeCost code).2)) (JoinTree.Kids ((DrawTreeCost code).2))))) = false) → ((((iTreeCost ((DrawTreeCost code).1) (JoinTree.mk (JoinTree.Leaf ((DrawTreeCost code).2)) (JoinTree.Kids ((DrawTreeCost code).2)))) != (TreeCost ((DrawTreeCost code).1) (JoinTree.mk (JoinTree.Leaf ((DrawTreeCost code).2)) (JoinTree.Kids ((DrawTreeCost code).2))))) = false))), ((((iTreeCost ((DrawTreeCost code).1) (JoinTree.mk (JoinTree.Leaf ((DrawTreeCost code).2)) (JoinTree.Kids ((DrawTreeCost code).2)))) != (TreeCost ((DrawTreeCost code).1) (JoinTree.mk (JoinTree.Leaf ((DrawTreeCost code).2)) (JoinTree.Kids ((DrawTreeCost code).2))))) = false) → ((((iTreeCost ((DrawTreeCost code).1) (JoinTree.mk (JoinTree.Leaf ((DrawTreeCost code).2)) (JoinTree.Kids ((DrawTreeCost code).2)))) != (TreeCost ((DrawTreeCost code).1) (JoinTree.mk (JoinTree.Leaf ((DrawTreeCost code).2)) (JoinTree.Kids ((DrawTreeCost code).2))))) = false))), (((bif ((iTreeCost ((DrawTreeCost code).1) (JoinTree.mk (JoinTree.Leaf ((DrawTreeCost code).2)) (JoinTree.Kids ((DrawTreeCost code).2)))) != (TreeCost ((DrawTreeCost code).1) (JoinTree.mk (JoinTree.Leaf ((DrawTreeCost code).2)) (JoinTree.Kids ((DrawTreeCost code).2))))) then true else (decide ((iTreeCost ((DrawTreeCost code).1) (JoinTree.mk (JoinTree.Leaf ((DrawTreeCost code).2)) (JoinTree.Kids ((DrawTreeCost code).2)))) < 0))) = false) → (((bif ((iTreeCost ((DrawTreeCost code).1) (JoinTree.mk (JoinTree.Leaf ((DrawTreeCost code).2)) (JoinTree.Kids ((DrawTreeCost code).2)))) != (TreeCost ((DrawTreeCost code).1) (JoinTree.mk (JoinTree.Leaf ((DrawTreeCost code).2)) (JoinTree.Kids ((DrawTreeCost code).2))))) then true else (decide ((iTreeCost ((DrawTreeCost code).1) (JoinTree.mk (JoinTree.Leaf ((DrawTreeCost code).2)) (JoinTree.Kids ((DrawTreeCost code).2)))) < 0))) = false))), (((bif ((iTreeCost ((DrawTreeCost code).1) (JoinTree.mk (JoinTree.Leaf ((DrawTreeCost code).2)) (JoinTree.Kids ((DrawTreeCost code).2)))) != (TreeCost ((DrawTreeCost code).1) (JoinTree.mk (JoinTree.Leaf ((DrawTreeCost code).2)) (JoinTree.Kids ((DrawTreeCost code).2))))) then true else (decide ((iTreeCost ((DrawTreeCost code).1) (JoinTree.mk (JoinTree.Leaf ((DrawTreeCost code).2)) (JoinTree.Kids ((DrawTreeCost code).2)))) < 0))) = false) → (((bif ((iTreeCost ((DrawTreeCost code).1) (JoinTree.mk (JoinTree.Leaf ((DrawTreeCost code).2)) (JoinTree.Kids ((DrawTreeCost code).2)))) != (TreeCost ((DrawTreeCost code).1) (JoinTree.mk (JoinTree.Leaf ((DrawTreeCost code).2)) (JoinTree.Kids ((DrawTreeCost code).2))))) then true else (decide ((iTreeCost ((DrawTreeCost code).1) (JoinTree.mk (JoinTree.Leaf ((DrawTreeCost code).2)) (JoinTree.Kids ((DrawTreeCost code).2)))) < 0))) = false))), (((bif ((iTreeCost ((DrawTreeCost code).1) (JoinTree.mk (JoinTree.Leaf ((DrawTreeCost code).2)) (JoinTree.Kids ((DrawTreeCost code).2)))) != (TreeCost ((DrawTreeCost code).1) (JoinTree.mk (JoinTree.Leaf ((DrawTreeCost code).2)) (JoinTree.Kids ((DrawTreeCost code).2))))) then true else (decide ((iTreeCost ((DrawTreeCost code).1) (JoinTree.mk (JoinTree.Leaf ((DrawTreeCost code).2)) (JoinTree.Kids ((DrawTreeCost code).2)))) < 0))) = false) → (((bif ((iTreeCost ((DrawTreeCost code).1) (JoinTree.mk (JoinTree.Leaf ((DrawTreeCost code).2)) (JoinTree.Kids ((DrawTreeCost code).2)))) != (TreeCost ((DrawTreeCost code).1) (JoinTree.mk (JoinTree.Leaf ((DrawTreeCost code).2)) (JoinTree.Kids ((DrawTreeCost code).2))))) then true else (decide ((iTreeCost ((DrawTreeCost code).1) (JoinTree.mk (JoinTree.Leaf ((DrawTreeCost code).2)) (JoinTree.Kids ((DrawTreeCost code).2)))) < 0))) = false))), (((bif ((iTreeCost ((DrawTreeCost code).1) (JoinTree.mk (JoinTree.Leaf ((DrawTreeCost code).2)) (JoinTree.Kids ((DrawTreeCost code).2)))) != (TreeCost ((DrawTreeCost code).1) (JoinTree.mk (JoinTree.Leaf ((DrawTreeCost code).2)) (JoinTree.Kids ((DrawTreeCost code).2))))) then true else (decide ((iTreeCost ((DrawTreeCost code).1) (JoinTree.mk (JoinTree.Leaf ((DrawTreeCost code).2)) (JoinTree.Kids ((DrawTreeCost code).2)))) < 0))) = false) → (((bif ((iTreeCost ((DrawTreeCost code).1) (JoinTree.mk (JoinTree.Leaf ((DrawTreeCost code).2)) (JoinTree.Kids ((DrawTreeCost code).2)))) != (TreeCost ((DrawTreeCost code).1) (JoinTree.mk (JoinTree.Leaf ((DrawTreeCost code).2)) (JoinTree.Kids ((DrawTreeCost code).2))))) then true else (decide ((iTreeCost ((DrawTreeCost code).1) (JoinTree.mk (JoinTree.Leaf ((DrawTreeCost code).2)) (JoinTree.Kids ((DrawTreeCost code).2)))) < 0))) = false)))] ?_ ?_))
  ·
   refine ⟨?_, ?_, ?_, ?_, ?_, ?_, ?_, trivial⟩
   ·
    trivial
   ·
    intro g5
    have g5p0 : (iTreeCost ((DrawTreeCost code).1) (JoinTree.mk (JoinTree.Leaf ((DrawTreeCost code).2)) (JoinTree.Kids ((DrawTreeCost code).2)))) = (TreeCost ((DrawTreeCost code).1) (JoinTree.mk (JoinTree.Leaf ((DrawTreeCost code).2)) (JoinTree.Kids ((DrawTreeCost code).2)))) := (Go.Am.bne_neg g5)
    assumption
   ·
    intro g6
    have g6p0 : (iTreeCost ((DrawTreeCost code).1) (JoinTree.mk (JoinTree.Leaf ((DrawTreeCost code).2)) (JoinTree.Kids ((DrawTreeCost code).2)))) = (TreeCost ((DrawTreeCost code).1) (JoinTree.mk (JoinTree.Leaf ((DrawTreeCost code).2)) (JoinTree.Kids ((DrawTreeCost code).2)))) := (Go.Am.bne_neg g6)
    assumption
   ·
    intro g7
    have g7p0 : ((iTreeCost ((DrawTreeCost code).1) (JoinTree.mk (JoinTree.Leaf ((DrawTreeCost code).2)) (JoinTree.Kids ((DrawTreeCost code).2)))) = (TreeCost ((DrawTreeCost code).1) (JoinTree.mk (JoinTree.Leaf ((DrawTreeCost code).2)) (JoinTree.Kids ((DrawTreeCost code).2))))) ∧ (¬ ((iTreeCost ((DrawTreeCost code).1) (JoinTree.mk (JoinTree.Leaf ((DrawTreeCost code).2)) (JoinTree.Kids ((DrawTreeCost code).2)))) < 0)) := (And.imp (fun h => (Go.Am.bne_neg h)) (fun h => (of_decide_eq_false h)) (Go.Am.or_neg g7))
    assumption
   ·
    intro g8
    have g8p0 : ((iTreeCost ((DrawTreeCost code).1) (JoinTree.mk (JoinTree.Leaf ((DrawTreeCost code).2)) (JoinTree.Kids ((DrawTreeCost code).2)))) = (TreeCost ((DrawTreeCost code).1) (JoinTree.mk (JoinTree.Leaf ((DrawTreeCost code).2)) (JoinTree.Kids ((DrawTreeCost code).2))))) ∧ (¬ ((iTreeCost ((DrawTreeCost code).1) (JoinTree.mk (JoinTree.Leaf ((DrawTreeCost code).2)) (JoinTree.Kids ((DrawTreeCost code).2)))) < 0)) := (And.imp (fun h => (Go.Am.bne_neg h)) (fun h => (of_decide_eq_false h)) (Go.Am.or_neg g8))
    assumption
   ·
    intro g9
    have g9p0 : ((iTreeCost ((DrawTreeCost code).1) (JoinTree.mk (JoinTree.Leaf ((DrawTreeCost code).2)) (JoinTree.Kids ((DrawTreeCost code).2)))) = (TreeCost ((DrawTreeCost code).1) (JoinTree.mk (JoinTree.Leaf ((DrawTreeCost code).2)) (JoinTree.Kids ((DrawTreeCost code).2))))) ∧ (¬ ((iTreeCost ((DrawTreeCost code).1) (JoinTree.mk (JoinTree.Leaf ((DrawTreeCost code).2)) (JoinTree.Kids ((DrawTreeCost code).2)))) < 0)) := (And.imp (fun h => (Go.Am.bne_neg h)) (fun h => (of_decide_eq_false h)) (Go.Am.or_neg g9))
    assumption
   ·
    intro g10
    have g10p0 : ((iTreeCost ((DrawTreeCost code).1) (JoinTree.mk (JoinTree.Leaf ((DrawTreeCost code).2)) (JoinTree.Kids ((DrawTreeCost code).2)))) = (TreeCost ((DrawTreeCost code).1) (JoinTree.mk (JoinTree.Leaf ((DrawTreeCost code).2)) (JoinTree.Kids ((DrawTreeCost code).2))))) ∧ (¬ ((iTreeCost ((DrawTreeCost code).1) (JoinTree.mk (JoinTree.Leaf ((DrawTreeCost code).2)) (JoinTree.Kids ((DrawTreeCost code).2)))) < 0)) := (And.imp (fun h => (Go.Am.bne_neg h)) (fun h => (of_decide_eq_false h)) (Go.Am.or_neg g10))
    assumption
  refine AW.cd (bif (bif ((iTreeCost ((DrawTreeCost code).1) (JoinTree.mk (JoinTree.Leaf ((DrawTreeCost code).2)) (JoinTree.Kids ((DrawTreeCost code).2)))) != (TreeCost ((DrawTreeCost code).1) (JoinTree.mk (JoinTree.Leaf ((DrawTreeCost code).2)) (JoinTree.Kids ((DrawTreeCost code).2))))) then true else (decide ((iTreeCost ((DrawTreeCost code).1) (JoinTree.mk (JoinTree.Leaf ((DrawTreeCost code).2)) (JoinTree.Kids ((DrawTreeCost code).2)))) < 0))) then true else (((List.length (JoinTree.Kids ((DrawTreeCost code).2)) : Nat) : Int) == 0)) ?_ ?_
  ·
   intro h11
   have h11q : (((iTreeCost ((DrawTreeCost code).1) (JoinTree.mk (JoinTree.Leaf ((DrawTreeCost code).2)) (JoinTree.Kids ((DrawTreeCost code).2)))) ≠ (TreeCost ((DrawTreeCost code).1) (JoinTree.mk (JoinTree.Leaf ((DrawTreeCost code).2)) (JoinTree.Kids ((DrawTreeCost code).2))))) ∨ ((iTreeCost ((DrawTreeCost code).1) (JoinTree.mk (JoinTree.Leaf ((DrawTreeCost code).2)) (JoinTree.Kids ((DrawTreeCost code).2)))) < 0)) ∨ (((List.length (JoinTree.Kids ((DrawTreeCost code).2)) : Nat) : Int) = 0) := (Or.imp (fun h => (Or.imp (fun h => (Go.Am.bne_pos h)) (fun h => (of_decide_eq_true h)) (Go.Am.or_pos h))) (fun h => (Go.Am.beq_pos h)) (Go.Am.or_pos h11))
   have e12 := e4.trans (Go.Am.bif_t h11)
   refine AW.seq (AW.r0 hC [2] [] ⟨[(2, .bool (bif ((iTreeCost ((DrawTreeCost code).1) (JoinTree.mk (JoinTree.Leaf ((DrawTreeCost code).2)) (JoinTree.Kids ((DrawTreeCost code).2)))) == (TreeCost ((DrawTreeCost code).1) (JoinTree.mk (JoinTree.Leaf ((DrawTreeCost code).2)) (JoinTree.Kids ((DrawTreeCost code).2))))) then (bif (decide ((iTreeCost ((DrawTreeCost code).1) (JoinTree.mk (JoinTree.Leaf ((DrawTreeCost code).2)) (JoinTree.Kids ((DrawTreeCost code).2)))) ≤ 0)) then true else (decide (0 < ((List.length (JoinTree.Kids ((DrawTreeCost code).2)) : Nat) : Int)))) else false))], []⟩ [(True), ((((iTreeCost ((DrawTreeCost code).1) (JoinTree.mk (JoinTree.Leaf ((DrawTreeCost code).2)) (JoinTree.Kids ((DrawTreeCost code).2)))) == (TreeCost ((DrawTreeCost code).1) (JoinTree.mk (JoinTree.Leaf ((DrawTreeCost code).2)) (JoinTree.Kids ((DrawTreeCost code).2))))) = true) → ((((iTreeCost ((DrawTreeCost code).1) (JoinTree.mk (JoinTree.Leaf ((DrawTreeCost code).2)) (JoinTree.Kids ((DrawTreeCost code).2)))) == (TreeCost ((DrawTreeCost code).1) (JoinTree.mk (JoinTree.Leaf ((DrawTreeCost code).2)) (JoinTree.Kids ((DrawTreeCost code).2))))) = true))), ((((iTreeCost ((DrawTreeCost code).1) (JoinTree.mk (JoinTree.Leaf ((DrawTreeCost code).2)) (JoinTree.Kids ((DrawTreeCost code).2)))) == (TreeCost ((DrawTreeCost code).1) (JoinTree.mk (JoinTree.Leaf ((DrawTreeCost code).2)) (JoinTree.Kids ((DrawTreeCost code).2))))) = true) → ((((iTreeCost ((DrawTreeCost code).1) (JoinTree.mk (JoinTree.Leaf ((DrawTreeCost code).2)) (JoinTree.Kids ((DrawTreeCost code).2)))) == (TreeCost ((DrawTreeCost code).1) (JoinTree.mk (JoinTree.Leaf ((DrawTreeCost code).2)) (JoinTree.Kids ((DrawTreeCost code).2))))) = true))), (((((iTreeCost ((DrawTreeCost code).1) (JoinTree.mk (JoinTree.Leaf ((DrawTreeCost code).2)) (JoinTree.Kids ((DrawTreeCost code).2)))) == (TreeCost ((DrawTreeCost code).1) (JoinTree.mk (JoinTree.Leaf ((DrawTreeCost code).2)) (JoinTree.Kids ((DrawTreeCost code).2))))) = true) ∧ ((decide ((iTreeCost ((DrawTreeCost code).1) (JoinTree.mk (JoinTree.Leaf ((DrawTreeCost code).2)) (JoinTree.Kids ((DrawTreeCost code).2)))) ≤ 0)) = false)) → (((((iTreeCost ((DrawTreeCost code).1) (JoinTree.mk (JoinTree.Leaf ((DrawTreeCost code).2)) (JoinTree.Kids ((DrawTreeCost code).2)))) == (TreeCost ((DrawTreeCost code).1) (JoinTree.mk (JoinTree.Leaf ((DrawTreeCost code).2)) (JoinTree.Kids ((DrawTreeCost code).2))))) = true) ∧ ((decide ((iTreeCost ((DrawTreeCost code).1) (JoinTree.mk (JoinTree.Leaf ((DrawTreeCost code).2)) (JoinTree.Kids ((DrawTreeCost code).2)))) ≤ 0)) = false)))), (((((iTreeCost ((DrawTreeCost code).1) (JoinTree.mk (JoinTree.Leaf ((DrawTreeCost code).2)) (JoinTree.Kids ((DrawTreeCost code).2)))) == (TreeCost ((DrawTreeCost code).1) (JoinTree.mk (JoinTree.Leaf ((DrawTreeCost code).2)) (JoinTree.Kids ((DrawTreeCost code).2))))) = true) ∧ ((decide ((iTreeCost ((DrawTreeCost code).1) (JoinTree.mk (JoinTree.Leaf ((DrawTreeCost code).2)) (JoinTree.Kids ((DrawTreeCost code).2)))) ≤ 0)) = false)) → (((((iTreeCost ((DrawTreeCost code).1) (JoinTree.mk (JoinTree.Leaf ((DrawTreeCost code).2)) (JoinTree.Kids ((DrawTreeCost code).2)))) == (TreeCost ((DrawTreeCost code).1) (JoinTree.mk (JoinTree.Leaf ((DrawTreeCost code).2)) (JoinTree.Kids ((DrawTreeCost code).2))))) = true) ∧ ((decide ((iTreeCost ((DrawTreeCost code).1) (JoinTree.mk (JoinTree.Leaf ((DrawTreeCost code).2)) (JoinTree.Kids ((DrawTreeCost code).2)))) ≤ 0)) = false)))), (((((iTreeCost ((DrawTreeCost code).1) (JoinTree.mk (JoinTree.Leaf ((DrawTreeCost code).2)) (JoinTree.Kids ((DrawTreeCost code).2)))) == (TreeCost ((DrawTreeCost code).1) (JoinTree.mk (JoinTree.Leaf ((DrawTreeCost code).2)) (JoinTree.Kids ((DrawTreeCost code).2))))) = true) ∧ ((decide ((iTreeCost ((DrawTreeCost code).1) (JoinTree.mk (JoinTree.Leaf ((DrawTreeCost code).2)) (JoinTree.Kids ((DrawTreeCost code).2)))) ≤ 0)) = false)) → (((((iTreeCost ((DrawTreeCost code).1) (JoinTree.mk (JoinTree.Leaf ((DrawTreeCost code).2)) (JoinTree.Kids ((DrawTreeCost code).2)))) == (TreeCost ((DrawTreeCost code).1) (JoinTree.mk (JoinTree.Leaf ((DrawTreeCost code).2)) (JoinTree.Kids ((DrawTreeCost code).2))))) = true) ∧ ((decide ((iTreeCost ((DrawTreeCost code).1) (JoinTree.mk (JoinTree.Leaf ((DrawTreeCost code).2)) (JoinTree.Kids ((DrawTreeCost code).2)))) ≤ 0)) = false)))), ((((iTreeCost ((DrawTreeCost code).1) (JoinTree.mk (JoinTree.Leaf ((DrawTreeCost code).2)) (JoinTree.Kids ((DrawTreeCost code).2)))) == (TreeCost ((DrawTreeCost code).1) (JoinTree.mk (JoinTree.Leaf ((DrawTreeCost code).2)) (JoinTree.Kids ((DrawTreeCost code).2))))) = true) → ((((iTreeCost ((DrawTreeCost code).1) (JoinTree.mk (JoinTree.Leaf ((DrawTreeCost code).2)) (JoinTree.Kids ((DrawTreeCost code).2)))) == (TreeCost ((DrawTreeCost code).1) (JoinTree.mk (JoinTree.Leaf ((DrawTreeCost code).2)) (JoinTree.Kids ((DrawTreeCost code).2))))) = true))), ((((iTreeCost ((DrawTreeCost code).1) (JoinTree.mk (JoinTree.Leaf ((DrawTreeCost code).2)) (JoinTree.Kids ((DrawTreeCost code).2)))) == (TreeCost ((DrawTreeCost code).1) (JoinTree.mk (JoinTree.Leaf ((DrawTreeCost code).2)) (JoinTree.Kids ((DrawTreeCost code).2))))) = true) → (((decide ((iTreeCost ((DrawTreeCost code).1) (JoinTree.mk (JoinTree.Leaf ((DrawTreeCost code).2)) (JoinTree.Kids ((DrawTreeCost code).2)))) ≤ 0)) = false) → (((((iTreeCost ((DrawTreeCost code).1) (JoinTree.mk (JoinTree.Leaf ((DrawTreeCost code).2)) (JoinTree.Kids ((DrawTreeCost code).2)))) == (TreeCost ((DrawTreeCost code).1) (JoinTree.mk (JoinTree.Leaf ((DrawTreeCost code).2)) (JoinTree.Kids ((DrawTreeCost code).2))))) = true) ∧ ((decide ((iTreeCost ((DrawTreeCost code).1) (JoinTree.mk (JoinTree.Leaf ((DrawTreeCost code).2)) (JoinTree.Kids ((DrawTreeCost code).2)))) ≤ 0)) = false))))), ((((iTreeCost ((DrawTreeCost code).1) (JoinTree.mk (JoinTree.Leaf ((DrawTreeCost code).2)) (JoinTree.Kids ((DrawTreeCost code).2)))) == (TreeCost ((DrawTreeCost code).1) (JoinTree.mk (JoinTree.Leaf ((DrawTreeCost code).2)) (JoinTree.Kids ((DrawTreeCost code).2))))) = true) → ((((iTreeCost ((DrawTreeCost code).1) (JoinTree.mk (JoinTree.Leaf ((DrawTreeCost code).2)) (JoinTree.Kids ((DrawTreeCost code).2)))) == (TreeCost ((DrawTreeCost code).1) (JoinTree.mk (JoinTree.Leaf ((DrawTreeCost code).2)) (JoinTree.Kids ((DrawTreeCost code).2))))) = true)))] ?_ ?_)
   ·
    refine ⟨?_, ?_, ?_, ?_, ?_, ?_, ?_, ?_, ?_, trivial⟩
    ·
     trivial
    ·
     intro g13
     have g13p0 : (iTreeCost ((DrawTreeCost code).1) (JoinTree.mk (JoinTree.Leaf ((DrawTreeCost code).2)) (JoinTree.Kids ((DrawTreeCost code).2)))) = (TreeCost ((DrawTreeCost code).1) (JoinTree.mk (JoinTree.Leaf ((DrawTreeCost code).2)) (JoinTree.Kids ((DrawTreeCost code).2)))) := (Go.Am.beq_pos g13)
     assumption
    ·
     intro g14
     have g14p0 : (iTreeCost ((DrawTreeCost code).1) (JoinTree.mk (JoinTree.Leaf ((DrawTreeCost code).2)) (JoinTree.Kids ((DrawTreeCost code).2)))) = (TreeCost ((DrawTreeCost code).1) (JoinTree.mk (JoinTree.Leaf ((DrawTreeCost code).2)) (JoinTree.Kids ((DrawTreeCost code).2)))) := (Go.Am.beq_pos g14)
     assumption
    ·
     intro g15
     have g15p0 : (iTreeCost ((DrawTreeCost code).1) (JoinTree.mk (JoinTree.Leaf ((DrawTreeCost code).2)) (JoinTree.Kids ((DrawTreeCost code).2)))) = (TreeCost ((DrawTreeCost code).1) (JoinTree.mk (JoinTree.Leaf ((DrawTreeCost code).2)) (JoinTree.Kids ((DrawTreeCost code).2)))) := (Go.Am.beq_pos (g15).1)
     have g15p1 : ¬ ((iTreeCost ((DrawTreeCost code).1) (JoinTree.mk (JoinTree.Leaf ((DrawTreeCost code).2)) (JoinTree.Kids ((DrawTreeCost code).2)))) ≤ 0) := (of_decide_eq_false (g15).2)
     assumption
    ·
     intro g16
     have g16p0 : (iTreeCost ((DrawTreeCost code).1) (JoinTree.mk (JoinTree.Leaf ((DrawTreeCost code).2)) (JoinTree.Kids ((DrawTreeCost code).2)))) = (TreeCost ((DrawTreeCost code).1) (JoinTree.mk (JoinTree.Leaf ((DrawTreeCost code).2)) (JoinTree.Kids ((DrawTreeCost code).2)))) := (Go.Am.beq_pos (g16).1)
     have g16p1 : ¬ ((iTreeCost ((DrawTreeCost code).1) (JoinTree.mk (JoinTree.Leaf ((DrawTreeCost code).2)) (JoinTree.Kids ((DrawTreeCost code).2)))) ≤ 0) := (of_decide_eq_false (g16).2)
     assumption
    ·
     intro g17
     have g17p0 : (iTreeCost ((DrawTreeCost code).1) (JoinTree.mk (JoinTree.Leaf ((DrawTreeCost code).2)) (JoinTree.Kids ((DrawTreeCost code).2)))) = (TreeCost ((DrawTreeCost code).1) (JoinTree.mk (JoinTree.Leaf ((DrawTreeCost code).2)) (JoinTree.Kids ((DrawTreeCost code).2)))) := (Go.Am.beq_pos (g17).1)
     have g17p1 : ¬ ((iTreeCost ((DrawTreeCost code).1) (JoinTree.mk (JoinTree.Leaf ((DrawTreeCost code).2)) (JoinTree.Kids ((DrawTreeCost code).2)))) ≤ 0) := (of_decide_eq_false (g17).2)
     assumption
    ·
     intro g18
     have g18p0 : (iTreeCost ((DrawTreeCost code).1) (JoinTree.mk (JoinTree.Leaf ((DrawTreeCost code).2)) (JoinTree.Kids ((DrawTreeCost code).2)))) = (TreeCost ((DrawTreeCost code).1) (JoinTree.mk (JoinTree.Leaf ((DrawTreeCost code).2)) (JoinTree.Kids ((DrawTreeCost code).2)))) := (Go.Am.beq_pos g18)
     assumption
    ·
     intro g19
     have g19p0 : (iTreeCost ((DrawTreeCost code).1) (JoinTree.mk (JoinTree.Leaf ((DrawTreeCost code).2)) (JoinTree.Kids ((DrawTreeCost code).2)))) = (TreeCost ((DrawTreeCost code).1) (JoinTree.mk (JoinTree.Leaf ((DrawTreeCost code).2)) (JoinTree.Kids ((DrawTreeCost code).2)))) := (Go.Am.beq_pos g19)
     intro g20
     have g20p0 : ¬ ((iTreeCost ((DrawTreeCost code).1) (JoinTree.mk (JoinTree.Leaf ((DrawTreeCost code).2)) (JoinTree.Kids ((DrawTreeCost code).2)))) ≤ 0) := (of_decide_eq_false g20)
     exact ⟨by assumption, by assumption⟩
    ·
     intro g21
     have g21p0 : (iTreeCost ((DrawTreeCost code).1) (JoinTree.mk (JoinTree.Leaf ((DrawTreeCost code).2)) (JoinTree.Kids ((DrawTreeCost code).2)))) = (TreeCost ((DrawTreeCost code).1) (JoinTree.mk (JoinTree.Leaf ((DrawTreeCost code).2)) (JoinTree.Kids ((DrawTreeCost code).2)))) := (Go.Am.beq_pos g21)
     assumption
   exact AW.ret (AW.retE (β := Bool) (fun v => [⟨.bool, v⟩]) (fun v => []) (v := (bif ((iTreeCost ((DrawTreeCost code).1) (JoinTree.mk (JoinTree.Leaf ((DrawTreeCost code).2)) (JoinTree.Kids ((DrawTreeCost code).2)))) == (TreeCost ((DrawTreeCost code).1) (JoinTree.mk (JoinTree.Leaf ((DrawTreeCost code).2)) (JoinTree.Kids ((DrawTreeCost code).2))))) then (bif (decide ((iTreeCost ((DrawTreeCost code).1) (JoinTree.mk (JoinTree.Leaf ((DrawTreeCost code).2)) (JoinTree.Kids ((DrawTreeCost code).2)))) ≤ 0)) then true else (decide (0 < ((List.length (JoinTree.Kids ((DrawTreeCost code).2)) : Nat) : Int)))) else false)) e12 (by kernel_rfl) rfl rfl)
  ·
   intro h22
   have h22q : (((iTreeCost ((DrawTreeCost code).1) (JoinTree.mk (JoinTree.Leaf ((DrawTreeCost code).2)) (JoinTree.Kids ((DrawTreeCost code).2)))) = (TreeCost ((DrawTreeCost code).1) (JoinTree.mk (JoinTree.Leaf ((DrawTreeCost code).2)) (JoinTree.Kids ((DrawTreeCost code).2))))) ∧ (¬ ((iTreeCost ((DrawTreeCost code).1) (JoinTree.mk (JoinTree.Leaf ((DrawTreeCost code).2)) (JoinTree.Kids ((DrawTreeCost code).2)))) < 0))) ∧ (((List.length (JoinTree.Kids ((DrawTreeCost code).2)) : Nat) : Int) ≠ 0) := (And.imp (fun h => (And.imp (fun h => (Go.Am.bne_neg h)) (fun h => (of_decide_eq_false h)) (Go.Am.or_neg h))) (fun h => (Go.Am.beq_neg h)) (Go.Am.or_neg h22))
   have e23 := e4.trans (Go.Am.bif_f h22)
   refine AW.kp [3, 4, 5] [12, 16] ⟨[(3, .ref 12 1 0), (4, .ref 16 1 0), (5, .int .i64 (iTreeCost ((DrawTreeCost code).1) (JoinTree.mk (JoinTree.Leaf ((DrawTreeCost code).2)) (JoinTree.Kids ((DrawTreeCost code).2)))))], [(12, .box 1 [.data (.slice (.int .i64)) ((Graph.Rows ((DrawTreeCost code).1)) : List Int), .data (.slice (.named 0)) ((Graph.Edges ((DrawTreeCost code).1)) : List Edge)]), (16, .box 1 [.int .i64 (JoinTree.Leaf ((DrawTreeCost code).2)), .data (.slice (.named 3)) ((JoinTree.Kids ((DrawTreeCost code).2)) : List JoinTree)])]⟩ ?_
   refine AW.skip (AW.seq (AW.r1 hC [3, 4, 5, 6] [12, 16] ⟨[(3, .ref 12 1 0), (4, .ref 16 1 0), (5, .int .i64 (iTreeCost ((DrawTreeCost code).1) (JoinTree.mk (JoinTree.Leaf ((DrawTreeCost code).2)) (JoinTree.Kids ((DrawTreeCost code).2))))), (6, .int .i64 0)], [(12, .box 1 [.data (.slice (.int .i64)) ((Graph.Rows ((DrawTreeCost code).1)) : List Int), .data (.slice (.named 0)) ((Graph.Edges ((DrawTreeCost code).1)) : List Edge)]), (16, .box 1 [.int .i64 (JoinTree.Leaf ((DrawTreeCost code).2)), .data (.slice (.named 3)) ((JoinTree.Kids ((DrawTreeCost code).2)) : List JoinTree)])]⟩ ?_))
   refine AW.seq (AW.r0 hC [3, 4, 5, 6, 7] [12, 16, 212] ⟨[(3, .ref 12 1 0), (4, .ref 16 1 0), (5, .int .i64 (iTreeCost ((DrawTreeCost code).1) (JoinTree.mk (JoinTree.Leaf ((DrawTreeCost code).2)) (JoinTree.Kids ((DrawTreeCost code).2))))), (6, .int .i64 0), (7, .arr 212 1)], [(12, .box 1 [.data (.slice (.int .i64)) ((Graph.Rows ((DrawTreeCost code).1)) : List Int), .data (.slice (.named 0)) ((Graph.Edges ((DrawTreeCost code).1)) : List Edge)]), (16, .box 1 [.int .i64 (JoinTree.Leaf ((DrawTreeCost code).2)), .data (.slice (.named 3)) ((JoinTree.Kids ((DrawTreeCost code).2)) : List JoinTree)]), (212, .arr 1 (.int .i64) ((LeavesOf ((DrawTreeCost code).1) (JoinTree.mk (JoinTree.Leaf ((DrawTreeCost code).2)) (JoinTree.Kids ((DrawTreeCost code).2)))) : List Int))]⟩ [(True)] ?_ ?_)
   ·
    refine ⟨?_, trivial⟩
    ·
     trivial
   refine AW.seq (AW.seq (AW.r1 hC [3, 4, 5, 6, 7, 8] [12, 16, 212] ⟨[(3, .ref 12 1 0), (4, .ref 16 1 0), (5, .int .i64 (iTreeCost ((DrawTreeCost code).1) (JoinTree.mk (JoinTree.Leaf ((DrawTreeCost code).2)) (JoinTree.Kids ((DrawTreeCost code).2))))), (6, .int .i64 0), (7, .arr 212 1), (8, .int .i64 0)], [(12, .box 1 [.data (.slice (.int .i64)) ((Graph.Rows ((DrawTreeCost code).1)) : List Int), .data (.slice (.named 0)) ((Graph.Edges ((DrawTreeCost code).1)) : List Edge)]), (16, .box 1 [.int .i64 (JoinTree.Leaf ((DrawTreeCost code).2)), .data (.slice (.named 3)) ((JoinTree.Kids ((DrawTreeCost code).2)) : List JoinTree)]), (212, .arr 1 (.int .i64) ((LeavesOf ((DrawTreeCost code).1) (JoinTree.mk (JoinTree.Leaf ((DrawTreeCost code).2)) (JoinTree.Kids ((DrawTreeCost code).2)))) : List Int))]⟩ ?_))
   refine AW.cutQ (α := Int) (fun x => ⟨[(3, .ref 12 1 0), (4, .ref 16 1 0), (5, .int .i64 (iTreeCost ((DrawTreeCost code).1) (JoinTree.mk (JoinTree.Leaf ((DrawTreeCost code).2)) (JoinTree.Kids ((DrawTreeCost code).2))))), (6, .int .i64 x)], [(12, .box 1 [.data (.slice (.int .i64)) ((Graph.Rows ((DrawTreeCost code).1)) : List Int), .data (.slice (.named 0)) ((Graph.Edges ((DrawTreeCost code).1)) : List Edge)]), (16, .box 1 [.int .i64 (JoinTree.Leaf ((DrawTreeCost code).2)), .data (.slice (.named 3)) ((JoinTree.Kids ((DrawTreeCost code).2)) : List JoinTree)])]⟩) (fun x => (0 ≤ x ∧ x < 32) ∧ (FnTreeCost_l0 code ((List.length (LeavesOf ((DrawTreeCost code).1) (JoinTree.mk (JoinTree.Leaf ((DrawTreeCost code).2)) (JoinTree.Kids ((DrawTreeCost code).2))))) - 0 + 1) 0 0) = x) ?_ ?_
   ·
    skip
    refine AW.block (AW.loop (α := Int × Nat) (fun x => ⟨[(3, .ref 12 1 0), (4, .ref 16 1 0), (5, .int .i64 (iTreeCost ((DrawTreeCost code).1) (JoinTree.mk (JoinTree.Leaf ((DrawTreeCost code).2)) (JoinTree.Kids ((DrawTreeCost code).2))))), (6, .int .i64 x.1), (7, .arr 212 1), (8, .int .i64 ((x.2 : Nat) : Int))], [(12, .box 1 [.data (.slice (.int .i64)) ((Graph.Rows ((DrawTreeCost code).1)) : List Int), .data (.slice (.named 0)) ((Graph.Edges ((DrawTreeCost code).1)) : List Edge)]), (16, .box 1 [.int .i64 (JoinTree.Leaf ((DrawTreeCost code).2)), .data (.slice (.named 3)) ((JoinTree.Kids ((DrawTreeCost code).2)) : List JoinTree)]), (212, .arr 1 (.int .i64) ((LeavesOf ((DrawTreeCost code).1) (JoinTree.mk (JoinTree.Leaf ((DrawTreeCost code).2)) (JoinTree.Kids ((DrawTreeCost code).2)))) : List Int))]⟩) (fun x => (0 ≤ x.1 ∧ x.1 < 32) ∧ ∃ k, (List.length (LeavesOf ((DrawTreeCost code).1) (JoinTree.mk (JoinTree.Leaf ((DrawTreeCost code).2)) (JoinTree.Kids ((DrawTreeCost code).2))))) - x.2 < k ∧ (FnTreeCost_l0 code ((List.length (LeavesOf ((DrawTreeCost code).1) (JoinTree.mk (JoinTree.Leaf ((DrawTreeCost code).2)) (JoinTree.Kids ((DrawTreeCost code).2))))) - 0 + 1) 0 0) = FnTreeCost_l0 code k x.1 x.2) (fun x => (List.length (LeavesOf ((DrawTreeCost code).1) (JoinTree.mk (JoinTree.Leaf ((DrawTreeCost code).2)) (JoinTree.Kids ((DrawTreeCost code).2))))) - x.2) (0, 0) (by kernel_rfl) ⟨?_, _, Nat.lt_succ_self _, rfl⟩ ?_)
    ·
     show 0 ≤ 0 ∧ 0 < 32
     omega
    ·
     intro x hR
     obtain ⟨mask1, i⟩ := x
     obtain ⟨hI0, k42, hk40, e41⟩ := hR
     replace hI0 : 0 ≤ mask1 ∧ mask1 < 32 := hI0
     replace hk40 : (List.length (LeavesOf ((DrawTreeCost code).1) (JoinTree.mk (JoinTree.Leaf ((DrawTreeCost code).2)) (JoinTree.Kids ((DrawTreeCost code).2))))) - i < k42 := hk40
     obtain ⟨k42q, rfl⟩ : ∃ k, k42 = k + 1 := ⟨k42 - 1, by omega⟩
     have hlb := (hLB (by omega)).1
     have hli := (hLB (by omega)).2 i
     have hpw := lt32 hli.1 (by omega)
     refine AW.seq (AW.seq (AW.r1 hC [3, 4, 5, 6, 7, 8, 57] [12, 16, 212] ⟨[(3, .ref 12 1 0), (4, .ref 16 1 0), (5, .int .i64 (iTreeCost ((DrawTreeCost code).1) (JoinTree.mk (JoinTree.Leaf ((DrawTreeCost code).2)) (JoinTree.Kids ((DrawTreeCost code).2))))), (6, .int .i64 mask1), (7, .arr 212 1), (8, .int .i64 ((i : Nat) : Int)), (57, .bool (decide (((i : Nat) : Int) < ((List.length (LeavesOf ((DrawTreeCost code).1) (JoinTree.mk (JoinTree.Leaf ((DrawTreeCost code).2)) (JoinTree.Kids ((DrawTreeCost code).2)))) : Nat) : Int))))], [(12, .box 1 [.data (.slice (.int .i64)) ((Graph.Rows ((DrawTreeCost code).1)) : List Int), .data (.slice (.named 0)) ((Graph.Edges ((DrawTreeCost code).1)) : List Edge)]), (16, .box 1 [.int .i64 (JoinTree.Leaf ((DrawTreeCost code).2)), .data (.slice (.named 3)) ((JoinTree.Kids ((DrawTreeCost code).2)) : List JoinTree)]), (212, .arr 1 (.int .i64) ((LeavesOf ((DrawTreeCost code).1) (JoinTree.mk (JoinTree.Leaf ((DrawTreeCost code).2)) (JoinTree.Kids ((DrawTreeCost code).2)))) : List Int))]⟩ ?_))
     refine AW.cd (decide (((i : Nat) : Int) < ((List.length (LeavesOf ((DrawTreeCost code).1) (JoinTree.mk (JoinTree.Leaf ((DrawTreeCost code).2)) (JoinTree.Kids ((DrawTreeCost code).2)))) : Nat) : Int))) ?_ ?_
     ·
      intro h43
      have h43q : ((i : Nat) : Int) < ((List.length (LeavesOf ((DrawTreeCost code).1) (JoinTree.mk (JoinTree.Leaf ((DrawTreeCost code).2)) (JoinTree.Kids ((DrawTreeCost code).2)))) : Nat) : Int) := (of_decide_eq_true h43)
      have e44 := e41.trans (Go.Am.bif_t h43)
      refine AW.kp [3, 4, 5, 6, 7, 8] [12, 16, 212] ⟨[(3, .ref 12 1 0), (4, .ref 16 1 0), (5, .int .i64 (iTreeCost ((DrawTreeCost code).1) (JoinTree.mk (JoinTree.Leaf ((DrawTreeCost code).2)) (JoinTree.Kids ((DrawTreeCost code).2))))), (6, .int .i64 mask1), (7, .arr 212 1), (8, .int .i64 ((i : Nat) : Int))], [(12, .box 1 [.data (.slice (.int .i64)) ((Graph.Rows ((DrawTreeCost code).1)) : List Int), .data (.slice (.named 0)) ((Graph.Edges ((DrawTreeCost code).1)) : List Edge)]), (16, .box 1 [.int .i64 (JoinTree.Leaf ((DrawTreeCost code).2)), .data (.slice (.named 3)) ((JoinTree.Kids ((DrawTreeCost code).2)) : List JoinTree)]), (212, .arr 1 (.int .i64) ((LeavesOf ((DrawTreeCost code).1) (JoinTree.mk (JoinTree.Leaf ((DrawTreeCost code).2)) (JoinTree.Kids ((DrawTreeCost code).2)))) : List Int))]⟩ ?_
      refine AW.skip (AW.seq (AW.block (AW.r0 hC [3, 4, 5, 6, 7, 8] [12, 16, 212] ⟨[(3, .ref 12 1 0), (4, .ref 16 1 0), (5, .int .i64 (iTreeCost ((DrawTreeCost code).1) (JoinTree.mk (JoinTree.Leaf ((DrawTreeCost code).2)) (JoinTree.Kids ((DrawTreeCost code).2))))), (6, .int .i64 (bits .or .i64 mask1 ((1 : Int) * 2 ^ (Int.toNat (List.getD (LeavesOf ((DrawTreeCost code).1) (JoinTree.mk (JoinTree.Leaf ((DrawTreeCost code).2)) (JoinTree.Kids ((DrawTreeCost code).2)))) i 0))))), (7, .arr 212 1), (8, .int .i64 ((i : Nat) : Int))], [(12, .box 1 [.data (.slice (.int .i64)) ((Graph.Rows ((DrawTreeCost code).1)) : List Int), .data (.slice (.named 0)) ((Graph.Edges ((DrawTreeCost code).1)) : List Edge)]), (16, .box 1 [.int .i64 (JoinTree.Leaf ((DrawTreeCost code).2)), .data (.slice (.named 3)) ((JoinTree.Kids ((DrawTreeCost code).2)) : List JoinTree)]), (212, .arr 1 (.int .i64) ((LeavesOf ((DrawTreeCost code).1) (JoinTree.mk (JoinTree.Leaf ((DrawTreeCost code).2)) (JoinTree.Kids ((DrawTreeCost code).2)))) : List Int))]⟩ [(0 ≤ ((i : Nat) : Int) ∧ ((i : Nat) : Int) < ((List.length (LeavesOf ((DrawTreeCost code).1) (JoinTree.mk (JoinTree.Leaf ((DrawTreeCost code).2)) (JoinTree.Kids ((DrawTreeCost code).2)))) : Nat) : Int)), (0 ≤ (List.getD (LeavesOf ((DrawTreeCost code).1) (JoinTree.mk (JoinTree.Leaf ((DrawTreeCost code).2)) (JoinTree.Kids ((DrawTreeCost code).2)))) i 0) ∧ (List.getD (LeavesOf ((DrawTreeCost code).1) (JoinTree.mk (JoinTree.Leaf ((DrawTreeCost code).2)) (JoinTree.Kids ((DrawTreeCost code).2)))) i 0) ≤ 64), (-9223372036854775808 ≤ ((1 : Int) * 2 ^ (Int.toNat (List.getD (LeavesOf ((DrawTreeCost code).1) (JoinTree.mk (JoinTree.Leaf ((DrawTreeCost code).2)) (JoinTree.Kids ((DrawTreeCost code).2)))) i 0))) ∧ ((1 : Int) * 2 ^ (Int.toNat (List.getD (LeavesOf ((DrawTreeCost code).1) (JoinTree.mk (JoinTree.Leaf ((DrawTreeCost code).2)) (JoinTree.Kids ((DrawTreeCost code).2)))) i 0))) ≤ 9223372036854775807)] ?_ ?_)))
      ·
       refine ⟨?_, ?_, ?_, trivial⟩
       ·
        have hk2 : (DrawTreeCost code).2.Kids.length = 2 := hTK2 (by omega) (by show (DrawTreeCost code).2.Kids.length ≠ 0; omega)
        omega
       ·
        have hk2 : (DrawTreeCost code).2.Kids.length = 2 := hTK2 (by omega) (by show (DrawTreeCost code).2.Kids.length ≠ 0; omega)
        omega
       ·
        have hk2 : (DrawTreeCost code).2.Kids.length = 2 := hTK2 (by omega) (by show (DrawTreeCost code).2.Kids.length ≠ 0; omega)
        omega
      refine AW.r0 hC [3, 4, 5, 6, 7, 8] [12, 16, 212] ⟨[(3, .ref 12 1 0), (4, .ref 16 1 0), (5, .int .i64 (iTreeCost ((DrawTreeCost code).1) (JoinTree.mk (JoinTree.Leaf ((DrawTreeCost code).2)) (JoinTree.Kids ((DrawTreeCost code).2))))), (6, .int .i64 (bits .or .i64 mask1 ((1 : Int) * 2 ^ (Int.toNat (List.getD (LeavesOf ((DrawTreeCost code).1) (JoinTree.mk (JoinTree.Leaf ((DrawTreeCost code).2)) (JoinTree.Kids ((DrawTreeCost code).2)))) i 0))))), (7, .arr 212 1), (8, .int .i64 ((i + 1 : Nat) : Int))], [(12, .box 1 [.data (.slice (.int .i64)) ((Graph.Rows ((DrawTreeCost code).1)) : List Int), .data (.slice (.named 0)) ((Graph.Edges ((DrawTreeCost code).1)) : List Edge)]), (16, .box 1 [.int .i64 (JoinTree.Leaf ((DrawTreeCost code).2)), .data (.slice (.named 3)) ((JoinTree.Kids ((DrawTreeCost code).2)) : List JoinTree)]), (212, .arr 1 (.int .i64) ((LeavesOf ((DrawTreeCost code).1) (JoinTree.mk (JoinTree.Leaf ((DrawTreeCost code).2)) (JoinTree.Kids ((DrawTreeCost code).2)))) : List Int))]⟩ [(-9223372036854775808 ≤ ((i + 1 : Nat) : Int) ∧ ((i + 1 : Nat) : Int) ≤ 9223372036854775807)] ?_ ?_
      ·
       refine ⟨?_, trivial⟩
       ·
        omega
      refine AW.back (x := (mask1, i)) ((bits .or .i64 mask1 ((1 : Int) * 2 ^ (Int.toNat (List.getD (LeavesOf ((DrawTreeCost code).1) (JoinTree.mk (JoinTree.Leaf ((DrawTreeCost code).2)) (JoinTree.Kids ((DrawTreeCost code).2)))) i 0)))), i + 1) (by kernel_rfl) ⟨?_, k42q, ?_, e44⟩ ?_
      ·
       show 0 ≤ (bits .or .i64 mask1 ((1 : Int) * 2 ^ (Int.toNat (List.getD (LeavesOf ((DrawTreeCost code).1) (JoinTree.mk (JoinTree.Leaf ((DrawTreeCost code).2)) (JoinTree.Kids ((DrawTreeCost code).2)))) i 0)))) ∧ (bits .or .i64 mask1 ((1 : Int) * 2 ^ (Int.toNat (List.getD (LeavesOf ((DrawTreeCost code).1) (JoinTree.mk (JoinTree.Leaf ((DrawTreeCost code).2)) (JoinTree.Kids ((DrawTreeCost code).2)))) i 0)))) < 32
       exact or32b hI0 ⟨by omega, hpw.2⟩
      ·
       show (List.length (LeavesOf ((DrawTreeCost code).1) (JoinTree.mk (JoinTree.Leaf ((DrawTreeCost code).2)) (JoinTree.Kids ((DrawTreeCost code).2))))) - (i + 1) < k42q
       omega
      ·
       show (List.length (LeavesOf ((DrawTreeCost code).1) (JoinTree.mk (JoinTree.Leaf ((DrawTreeCost code).2)) (JoinTree.Kids ((DrawTreeCost code).2))))) - (i + 1) < (List.length (LeavesOf ((DrawTreeCost code).1) (JoinTree.mk (JoinTree.Leaf ((DrawTreeCost code).2)) (JoinTree.Kids ((DrawTreeCost code).2))))) - i
       omega
     ·
      intro h45
      have h45q : ¬ (((i : Nat) : Int) < ((List.length (LeavesOf ((DrawTreeCost code).1) (JoinTree.mk (JoinTree.Leaf ((DrawTreeCost code).2)) (JoinTree.Kids ((DrawTreeCost code).2)))) : Nat) : Int)) := (of_decide_eq_false h45)
      have e46 := e41.trans (Go.Am.bif_f h45)
      refine AW.kp [3, 4, 5, 6] [12, 16] ⟨[(3, .ref 12 1 0), (4, .ref 16 1 0), (5, .int .i64 (iTreeCost ((DrawTreeCost code).1) (JoinTree.mk (JoinTree.Leaf ((DrawTreeCost code).2)) (JoinTree.Kids ((DrawTreeCost code).2))))), (6, .int .i64 mask1)], [(12, .box 1 [.data (.slice (.int .i64)) ((Graph.Rows ((DrawTreeCost code).1)) : List Int), .data (.slice (.named 0)) ((Graph.Edges ((DrawTreeCost code).1)) : List Edge)]), (16, .box 1 [.int .i64 (JoinTree.Leaf ((DrawTreeCost code).2)), .data (.slice (.named 3)) ((JoinTree.Kids ((DrawTreeCost code).2)) : List JoinTree)])]⟩ ?_
      refine AW.exit ?_
      refine AW.meet mask1 (by kernel_rfl) ⟨?_, e46⟩
      show 0 ≤ mask1 ∧ mask1 < 32
      exact hI0
   ·
    intro mask1 hR
    obtain ⟨hJ0, e47⟩ := hR
    replace hJ0 : 0 ≤ mask1 ∧ mask1 < 32 := hJ0
    have e48 := e23.trans (Go.Am.then_eq e47)
    refine AW.seq (AW.d0 hC hM [3, 4, 5, 6, 9] [12, 16, 36, 300] ⟨[(3, .ref 12 1 0), (4, .ref 16 1 0), (5, .int .i64 (iTreeCost ((DrawTreeCost code).1) (JoinTree.mk (JoinTree.Leaf ((DrawTreeCost code).2)) (JoinTree.Kids ((DrawTreeCost code).2))))), (6, .int .i64 mask1), (9, .ref 36 1 0)], [(12, .box 1 [.data (.slice (.int .i64)) ((Graph.Rows ((DrawTreeCost code).1)) : List Int), .data (.slice (.named 0)) ((Graph.Edges ((DrawTreeCost code).1)) : List Edge)]), (16, .box 1 [.int .i64 (JoinTree.Leaf ((DrawTreeCost code).2)), .data (.slice (.named 3)) ((JoinTree.Kids ((DrawTreeCost code).2)) : List JoinTree)]), (36, .box 1 [.int .i64 0, .arr 300 1]), (300, .arr 1 (.named 3) (([(List.getD (JoinTree.Kids ((DrawTreeCost code).2)) 1 JoinTree.zero), (List.getD (JoinTree.Kids ((DrawTreeCost code).2)) 0 JoinTree.zero)] : List JoinTree) : List JoinTree))]⟩ [(0 ≤ (1 : Int) ∧ (1 : Int) < ((List.length (JoinTree.Kids ((DrawTreeCost code).2)) : Nat) : Int)), (0 ≤ (0 : Int) ∧ (0 : Int) < ((List.length (JoinTree.Kids ((DrawTreeCost code).2)) : Nat) : Int))] ?_ ?_)
    ·
     refine ⟨?_, ?_, trivial⟩
     ·
      have hk2 : (DrawTreeCost code).2.Kids.length = 2 := hTK2 (by omega) (by show (DrawTreeCost code).2.Kids.length ≠ 0; omega)
      omega
     ·
      have hk2 : (DrawTreeCost code).2.Kids.length = 2 := hTK2 (by omega) (by show (DrawTreeCost code).2.Kids.length ≠ 0; omega)
      omega
    refine AW.seq (AW.d0 hC hM [2] [] ⟨[(2, .bool (bif ((iTreeCost ((DrawTreeCost code).1) (JoinTree.mk (JoinTree.Leaf ((DrawTreeCost code).2)) (JoinTree.Kids ((DrawTreeCost code).2)))) == (((iSubsetSize ((DrawTreeCost code).1) mask1) + (iTreeCost ((DrawTreeCost code).1) (List.getD (JoinTree.Kids ((DrawTreeCost code).2)) 0 JoinTree.zero))) + (iTreeCost ((DrawTreeCost code).1) (List.getD (JoinTree.Kids ((DrawTreeCost code).2)) 1 JoinTree.zero)))) then ((iTreeCost ((DrawTreeCost code).1) (JoinTree.mk 0 ([(List.getD (JoinTree.Kids ((DrawTreeCost code).2)) 1 JoinTree.zero), (List.getD (JoinTree.Kids ((DrawTreeCost code).2)) 0 JoinTree.zero)] : List JoinTree))) == (iTreeCost ((DrawTreeCost code).1) (JoinTree.mk (JoinTree.Leaf ((DrawTreeCost code).2)) (JoinTree.Kids ((DrawTreeCost code).2))))) else false))], []⟩ [(True), (0 ≤ (0 : Int) ∧ (0 : Int) < ((List.length (JoinTree.Kids ((DrawTreeCost code).2)) : Nat) : Int)), (True), (-9223372036854775808 ≤ ((iSubsetSize ((DrawTreeCost code).1) mask1) + (iTreeCost ((DrawTreeCost code).1) (List.getD (JoinTree.Kids ((DrawTreeCost code).2)) 0 JoinTree.zero))) ∧ ((iSubsetSize ((DrawTreeCost code).1) mask1) + (iTreeCost ((DrawTreeCost code).1) (List.getD (JoinTree.Kids ((DrawTreeCost code).2)) 0 JoinTree.zero))) ≤ 9223372036854775807), (0 ≤ (1 : Int) ∧ (1 : Int) < ((List.length (JoinTree.Kids ((DrawTreeCost code).2)) : Nat) : Int)), (True), (-9223372036854775808 ≤ (((iSubsetSize ((DrawTreeCost code).1) mask1) + (iTreeCost ((DrawTreeCost code).1) (List.getD (JoinTree.Kids ((DrawTreeCost code).2)) 0 JoinTree.zero))) + (iTreeCost ((DrawTreeCost code).1) (List.getD (JoinTree.Kids ((DrawTreeCost code).2)) 1 JoinTree.zero))) ∧ (((iSubsetSize ((DrawTreeCost code).1) mask1) + (iTreeCost ((DrawTreeCost code).1) (List.getD (JoinTree.Kids ((DrawTreeCost code).2)) 0 JoinTree.zero))) + (iTreeCost ((DrawTreeCost code).1) (List.getD (JoinTree.Kids ((DrawTreeCost code).2)) 1 JoinTree.zero))) ≤ 9223372036854775807), ((((iTreeCost ((DrawTreeCost code).1) (JoinTree.mk (JoinTree.Leaf ((DrawTreeCost code).2)) (JoinTree.Kids ((DrawTreeCost code).2)))) == (((iSubsetSize ((DrawTreeCost code).1) mask1) + (iTreeCost ((DrawTreeCost code).1) (List.getD (JoinTree.Kids ((DrawTreeCost code).2)) 0 JoinTree.zero))) + (iTreeCost ((DrawTreeCost code).1) (List.getD (JoinTree.Kids ((DrawTreeCost code).2)) 1 JoinTree.zero)))) = true) → ((((iTreeCost ((DrawTreeCost code).1) (JoinTree.mk (JoinTree.Leaf ((DrawTreeCost code).2)) (JoinTree.Kids ((DrawTreeCost code).2)))) == (((iSubsetSize ((DrawTreeCost code).1) mask1) + (iTreeCost ((DrawTreeCost code).1) (List.getD (JoinTree.Kids ((DrawTreeCost code).2)) 0 JoinTree.zero))) + (iTreeCost ((DrawTreeCost code).1) (List.getD (JoinTree.Kids ((DrawTreeCost code).2)) 1 JoinTree.zero)))) = true))), ((((iTreeCost ((DrawTreeCost code).1) (JoinTree.mk (JoinTree.Leaf ((DrawTreeCost code).2)) (JoinTree.Kids ((DrawTreeCost code).2)))) == (((iSubsetSize ((DrawTreeCost code).1) mask1) + (iTreeCost ((DrawTreeCost code).1) (List.getD (JoinTree.Kids ((DrawTreeCost code).2)) 0 JoinTree.zero))) + (iTreeCost ((DrawTreeCost code).1) (List.getD (JoinTree.Kids ((DrawTreeCost code).2)) 1 JoinTree.zero)))) = true) → ((((iTreeCost ((DrawTreeCost code).1) (JoinTree.mk (JoinTree.Leaf ((DrawTreeCost code).2)) (JoinTree.Kids ((DrawTreeCost code).2)))) == (((iSubsetSize ((DrawTreeCost code).1) mask1) + (iTreeCost ((DrawTreeCost code).1) (List.getD (JoinTree.Kids ((DrawTreeCost code).2)) 0 JoinTree.zero))) + (iTreeCost ((DrawTreeCost code).1) (List.getD (JoinTree.Kids ((DrawTreeCost code).2)) 1 JoinTree.zero)))) = true))), ((((iTreeCost ((DrawTreeCost code).1) (JoinTree.mk (JoinTree.Leaf ((DrawTreeCost code).2)) (JoinTree.Kids ((DrawTreeCost code).2)))) == (((iSubsetSize ((DrawTreeCost code).1) mask1) + (iTreeCost ((DrawTreeCost code).1) (List.getD (JoinTree.Kids ((DrawTreeCost code).2)) 0 JoinTree.zero))) + (iTreeCost ((DrawTreeCost code).1) (List.getD (JoinTree.Kids ((DrawTreeCost code).2)) 1 JoinTree.zero)))) = true) → (True)), ((((iTreeCost ((DrawTreeCost code).1) (JoinTree.mk (JoinTree.Leaf ((DrawTreeCost code).2)) (JoinTree.Kids ((DrawTreeCost code).2)))) == (((iSubsetSize ((DrawTreeCost code).1) mask1) + (iTreeCost ((DrawTreeCost code).1) (List.getD (JoinTree.Kids ((DrawTreeCost code).2)) 0 JoinTree.zero))) + (iTreeCost ((DrawTreeCost code).1) (List.getD (JoinTree.Kids ((DrawTreeCost code).2)) 1 JoinTree.zero)))) = true) → ((((iTreeCost ((DrawTreeCost code).1) (JoinTree.mk (JoinTree.Leaf ((DrawTreeCost code).2)) (JoinTree.Kids ((DrawTreeCost code).2)))) == (((iSubsetSize ((DrawTreeCost code).1) mask1) + (iTreeCost ((DrawTreeCost code).1) (List.getD (JoinTree.Kids ((DrawTreeCost code).2)) 0 JoinTree.zero))) + (iTreeCost ((DrawTreeCost code).1) (List.getD (JoinTree.Kids ((DrawTreeCost code).2)) 1 JoinTree.zero)))) = true))), ((((iTreeCost ((DrawTreeCost code).1) (JoinTree.mk (JoinTree.Leaf ((DrawTreeCost code).2)) (JoinTree.Kids ((DrawTreeCost code).2)))) == (((iSubsetSize ((DrawTreeCost code).1) mask1) + (iTreeCost ((DrawTreeCost code).1) (List.getD (JoinTree.Kids ((DrawTreeCost code).2)) 0 JoinTree.zero))) + (iTreeCost ((DrawTreeCost code).1) (List.getD (JoinTree.Kids ((DrawTreeCost code).2)) 1 JoinTree.zero)))) = true) → ((((iTreeCost ((DrawTreeCost code).1) (JoinTree.mk (JoinTree.Leaf ((DrawTreeCost code).2)) (JoinTree.Kids ((DrawTreeCost code).2)))) == (((iSubsetSize ((DrawTreeCost code).1) mask1) + (iTreeCost ((DrawTreeCost code).1) (List.getD (JoinTree.Kids ((DrawTreeCost code).2)) 0 JoinTree.zero))) + (iTreeCost ((DrawTreeCost code).1) (List.getD (JoinTree.Kids ((DrawTreeCost code).2)) 1 JoinTree.zero)))) = true))), ((((iTreeCost ((DrawTreeCost code).1) (JoinTree.mk (JoinTree.Leaf ((DrawTreeCost code).2)) (JoinTree.Kids ((DrawTreeCost code).2)))) == (((iSubsetSize ((DrawTreeCost code).1) mask1) + (iTreeCost ((DrawTreeCost code).1) (List.getD (JoinTree.Kids ((DrawTreeCost code).2)) 0 JoinTree.zero))) + (iTreeCost ((DrawTreeCost code).1) (List.getD (JoinTree.Kids ((DrawTreeCost code).2)) 1 JoinTree.zero)))) = true) → ((((iTreeCost ((DrawTreeCost code).1) (JoinTree.mk (JoinTree.Leaf ((DrawTreeCost code).2)) (JoinTree.Kids ((DrawTreeCost code).2)))) == (((iSubsetSize ((DrawTreeCost code).1) mask1) + (iTreeCost ((DrawTreeCost code).1) (List.getD (JoinTree.Kids ((DrawTreeCost code).2)) 0 JoinTree.zero))) + (iTreeCost ((DrawTreeCost code).1) (List.getD (JoinTree.Kids ((DrawTreeCost code).2)) 1 JoinTree.zero)))) = true)))] ?_ ?_)
    ·
     refine ⟨?_, ?_, ?_, ?_, ?_, ?_, ?_, ?_, ?_, ?_, ?_, ?_, ?_, trivial⟩
     ·
      trivial
     ·
      have hk2 : (DrawTreeCost code).2.Kids.length = 2 := hTK2 (by omega) (by show (DrawTreeCost code).2.Kids.length ≠ 0; omega)
      omega
     ·
      trivial
     ·
      have b1 := hB2 mask1
      have b2 := hB1 (List.getD (JoinTree.Kids (DrawTreeCost code).2) 0 JoinTree.zero)
      have b3 := hB1 (List.getD (JoinTree.Kids (DrawTreeCost code).2) 1 JoinTree.zero)
      omega
     ·
      have hk2 : (DrawTreeCost code).2.Kids.length = 2 := hTK2 (by omega) (by show (DrawTreeCost code).2.Kids.length ≠ 0; omega)
      omega
     ·
      trivial
     ·
      have b1 := hB2 mask1
      have b2 := hB1 (List.getD (JoinTree.Kids (DrawTreeCost code).2) 0 JoinTree.zero)
      have b3 := hB1 (List.getD (JoinTree.Kids (DrawTreeCost code).2) 1 JoinTree.zero)
      omega
     ·
      intro g49
      have g49p0 : (iTreeCost ((DrawTreeCost code).1) (JoinTree.mk (JoinTree.Leaf ((DrawTreeCost code).2)) (JoinTree.Kids ((DrawTreeCost code).2)))) = (((iSubsetSize ((DrawTreeCost code).1) mask1) + (iTreeCost ((DrawTreeCost code).1) (List.getD (JoinTree.Kids ((DrawTreeCost code).2)) 0 JoinTree.zero))) + (iTreeCost ((DrawTreeCost code).1) (List.getD (JoinTree.Kids ((DrawTreeCost code).2)) 1 JoinTree.zero))) := (Go.Am.beq_pos g49)
      assumption
     ·
      intro g50
      have g50p0 : (iTreeCost ((DrawTreeCost code).1) (JoinTree.mk (JoinTree.Leaf ((DrawTreeCost code).2)) (JoinTree.Kids ((DrawTreeCost code).2)))) = (((iSubsetSize ((DrawTreeCost code).1) mask1) + (iTreeCost ((DrawTreeCost code).1) (List.getD (JoinTree.Kids ((DrawTreeCost code).2)) 0 JoinTree.zero))) + (iTreeCost ((DrawTreeCost code).1) (List.getD (JoinTree.Kids ((DrawTreeCost code).2)) 1 JoinTree.zero))) := (Go.Am.beq_pos g50)
      assumption
     ·
      intro g51
      have g51p0 : (iTreeCost ((DrawTreeCost code).1) (JoinTree.mk (JoinTree.Leaf ((DrawTreeCost code).2)) (JoinTree.Kids ((DrawTreeCost code).2)))) = (((iSubsetSize ((DrawTreeCost code).1) mask1) + (iTreeCost ((DrawTreeCost code).1) (List.getD (JoinTree.Kids ((DrawTreeCost code).2)) 0 JoinTree.zero))) + (iTreeCost ((DrawTreeCost code).1) (List.getD (JoinTree.Kids ((DrawTreeCost code).2)) 1 JoinTree.zero))) := (Go.Am.beq_pos g51)
      trivial
     ·
      intro g52
      have g52p0 : (iTreeCost ((DrawTreeCost code).1) (JoinTree.mk (JoinTree.Leaf ((DrawTreeCost code).2)) (JoinTree.Kids ((DrawTreeCost code).2)))) = (((iSubsetSize ((DrawTreeCost code).1) mask1) + (iTreeCost ((DrawTreeCost code).1) (List.getD (JoinTree.Kids ((DrawTreeCost code).2)) 0 JoinTree.zero))) + (iTreeCost ((DrawTreeCost code).1) (List.getD (JoinTree.Kids ((DrawTreeCost code).2)) 1 JoinTree.zero))) := (Go.Am.beq_pos g52)
      assumption
     ·
      intro g53
      have g53p0 : (iTreeCost ((DrawTreeCost code).1) (JoinTree.mk (JoinTree.Leaf ((DrawTreeCost code).2)) (JoinTree.Kids ((DrawTreeCost code).2)))) = (((iSubsetSize ((DrawTreeCost code).1) mask1) + (iTreeCost ((DrawTreeCost code).1) (List.getD (JoinTree.Kids ((DrawTreeCost code).2)) 0 JoinTree.zero))) + (iTreeCost ((DrawTreeCost code).1) (List.getD (JoinTree.Kids ((DrawTreeCost code).2)) 1 JoinTree.zero))) := (Go.Am.beq_pos g53)
      assumption
     ·
      intro g54
      have g54p0 : (iTreeCost ((DrawTreeCost code).1) (JoinTree.mk (JoinTree.Leaf ((DrawTreeCost code).2)) (JoinTree.Kids ((DrawTreeCost code).2)))) = (((iSubsetSize ((DrawTreeCost code).1) mask1) + (iTreeCost ((DrawTreeCost code).1) (List.getD (JoinTree.Kids ((DrawTreeCost code).2)) 0 JoinTree.zero))) + (iTreeCost ((DrawTreeCost code).1) (List.getD (JoinTree.Kids ((DrawTreeCost code).2)) 1 JoinTree.zero))) := (Go.Am.beq_pos g54)
      assumption
    exact AW.ret (AW.retE (β := Bool) (fun v => [⟨.bool, v⟩]) (fun v => []) (v := (bif ((iTreeCost ((DrawTreeCost code).1) (JoinTree.mk (JoinTree.Leaf ((DrawTreeCost code).2)) (JoinTree.Kids ((DrawTreeCost code).2)))) == (((iSubsetSize ((DrawTreeCost code).1) mask1) + (iTreeCost ((DrawTreeCost code).1) (List.getD (JoinTree.Kids ((DrawTreeCost code).2)) 0 JoinTree.zero))) + (iTreeCost ((DrawTreeCost code).1) (List.getD (JoinTree.Kids ((DrawTreeCost code).2)) 1 JoinTree.zero)))) then ((iTreeCost ((DrawTreeCost code).1) (JoinTree.mk 0 ([(List.getD (JoinTree.Kids ((DrawTreeCost code).2)) 1 JoinTree.zero), (List.getD (JoinTree.Kids ((DrawTreeCost code).2)) 0 JoinTree.zero)] : List JoinTree))) == (iTreeCost ((DrawTreeCost code).1) (JoinTree.mk (JoinTree.Leaf ((DrawTreeCost code).2)) (JoinTree.Kids ((DrawTreeCost code).2))))) else false)) e48 (by kernel_rfl) rfl rfl)

end
end Go.Proofs.Ytpoohhjlpepmfaa
