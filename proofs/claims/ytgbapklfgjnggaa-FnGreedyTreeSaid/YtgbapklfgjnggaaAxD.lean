/-
  A part of the proof of this claim (AxD): what functions of the program compute, and plain facts of that. No conditions.
-/
import Derived.Test.YtgbapklfgjnggaaAxM
import Derived.Test.YtgbapklfgjnggaaAnG
set_option linter.all false
namespace Go.Proofs.Ytgbapklfgjnggaa
open Go Go.Am
noncomputable section

structure Nd (n : Int) (d : Nat) (t : JoinTree) : Prop where
 ne : treeMask t n ≠ 0
 pc : pc (treeMask t n).toNat ≤ d

theorem Nd.join {n : Int} (hn : n ≤ 5) {d : Nat} {t : JoinTree} (h : Nd n d t) (hk : t.Kids.length ≠ 0) : t.Kids.length = 2 ∧ 2 ≤ d ∧ Nd n (d - 1) (List.getD t.Kids 0 JoinTree.zero) ∧ Nd n (d - 1) (List.getD t.Kids 1 JoinTree.zero) := by
 have j := join2 hk h.ne
 have p := pc_join hn j
 have := h.pc
 exact ⟨j.two, by omega, ⟨j.ne0, by omega⟩, ⟨j.ne1, by omega⟩⟩

theorem Nd.le2 {n : Int} (hn : n ≤ 5) {d : Nat} {t : JoinTree} (h : Nd n d t) : t.Kids.length ≤ 2 := by
 by_cases hk : t.Kids.length = 0
 ·
  omega
 ·
  have := (h.join hn hk).1
  omega

theorem Nd.kid {n : Int} (hn : n ≤ 5) {d : Nat} {t : JoinTree} (h : Nd n (d + 1) t) {i : Nat} (hi : i < t.Kids.length) : Nd n d (List.getD t.Kids i JoinTree.zero) := by
 obtain ⟨h1, _, h2, h3⟩ := h.join hn (by omega)
 match i, hi with
 | 0, _ => exact h2
 | 1, _ => exact h3
 | i + 2, hi => omega

theorem Nd.last {n : Int} (hn : n ≤ 5) {t : JoinTree} (h : Nd n 1 t) : t.Kids.length = 0 := by
 by_cases hk : t.Kids.length = 0
 ·
  exact hk
 ·
  have := (h.join hn hk).2.1
  omega

theorem cost_top {g : Graph} {t : JoinTree} (h : ¬ iTreeCost g t = -1) : VG g ∧ Nd (List.length g.Rows : Int) 5 t := by
 rw [treeCost_same] at h
 unfold TreeCost at h
 rw [JoinTree.eta] at h
 cases hv : validGraph g with
 | false => rw [hv] at h; exact absurd rfl h
 | true =>
  have hV := validGraph_iff.1 hv
  have h5 := hV.n5
  cases hm : (treeMask t (List.length g.Rows : Int)) == 0 with
  | true => rw [hv, hm] at h; exact absurd rfl h
  | false =>
   have hr := mask_range (n := (List.length g.Rows : Int)) (by omega) t
   exact ⟨hV, beq_neg hm, (pc_one ⟨(treeMask t (List.length g.Rows : Int)).toNat, by omega⟩).2⟩

def LeavesOf_l3 (t : JoinTree) (v24 : Nat) (v241 : Nat) (v242 : Nat) : Nat → Nat → (List Int) → (List Int)
 | 0, v243, list3 => list3
 | k + 1, v243, list3 => (bif (decide (((v243 : Nat) : Int) < ((List.length (JoinTree.Kids (List.getD (JoinTree.Kids (List.getD (JoinTree.Kids (List.getD (JoinTree.Kids t) v24 JoinTree.zero)) v241 JoinTree.zero)) v242 JoinTree.zero)) : Nat) : Int))) then (LeavesOf_l3 t v24 v241 v242 k (v243 + 1) (list3 ++ ([(JoinTree.Leaf (List.getD (JoinTree.Kids (List.getD (JoinTree.Kids (List.getD (JoinTree.Kids (List.getD (JoinTree.Kids t) v24 JoinTree.zero)) v241 JoinTree.zero)) v242 JoinTree.zero)) v243 JoinTree.zero))] : List Int))) else list3)

def LeavesOf_c0 (t : JoinTree) (v24 : Nat) (v241 : Nat) (v242 : Nat) (list2 : List Int) : (List Int) :=
 (bif (((List.length (JoinTree.Kids (List.getD (JoinTree.Kids (List.getD (JoinTree.Kids (List.getD (JoinTree.Kids t) v24 JoinTree.zero)) v241 JoinTree.zero)) v242 JoinTree.zero)) : Nat) : Int) == 0) then (list2 ++ ([(JoinTree.Leaf (List.getD (JoinTree.Kids (List.getD (JoinTree.Kids (List.getD (JoinTree.Kids t) v24 JoinTree.zero)) v241 JoinTree.zero)) v242 JoinTree.zero))] : List Int)) else (Go.Am.andThen (LeavesOf_l3 t v24 v241 v242 ((List.length (JoinTree.Kids (List.getD (JoinTree.Kids (List.getD (JoinTree.Kids (List.getD (JoinTree.Kids t) v24 JoinTree.zero)) v241 JoinTree.zero)) v242 JoinTree.zero))) - 0 + 1) 0 list2) (fun z => (fun (list3 : List Int) => list3) z)))

def LeavesOf_l2 (t : JoinTree) (v24 : Nat) (v241 : Nat) : Nat → Nat → (List Int) → (List Int)
 | 0, v242, list2 => list2
 | k + 1, v242, list2 => (bif (decide (((v242 : Nat) : Int) < ((List.length (JoinTree.Kids (List.getD (JoinTree.Kids (List.getD (JoinTree.Kids t) v24 JoinTree.zero)) v241 JoinTree.zero)) : Nat) : Int))) then (Go.Am.andThen (LeavesOf_c0 t v24 v241 v242 list2) (fun z => (fun (v34 : List Int) => (LeavesOf_l2 t v24 v241 k (v242 + 1) v34)) z)) else list2)

def LeavesOf_c1 (t : JoinTree) (v24 : Nat) (v241 : Nat) (list1 : List Int) : (List Int) :=
 (bif (((List.length (JoinTree.Kids (List.getD (JoinTree.Kids (List.getD (JoinTree.Kids t) v24 JoinTree.zero)) v241 JoinTree.zero)) : Nat) : Int) == 0) then (list1 ++ ([(JoinTree.Leaf (List.getD (JoinTree.Kids (List.getD (JoinTree.Kids t) v24 JoinTree.zero)) v241 JoinTree.zero))] : List Int)) else (Go.Am.andThen (LeavesOf_l2 t v24 v241 ((List.length (JoinTree.Kids (List.getD (JoinTree.Kids (List.getD (JoinTree.Kids t) v24 JoinTree.zero)) v241 JoinTree.zero))) - 0 + 1) 0 list1) (fun z => (fun (list2 : List Int) => list2) z)))

def LeavesOf_l1 (t : JoinTree) (v24 : Nat) : Nat → Nat → (List Int) → (List Int)
 | 0, v241, list1 => list1
 | k + 1, v241, list1 => (bif (decide (((v241 : Nat) : Int) < ((List.length (JoinTree.Kids (List.getD (JoinTree.Kids t) v24 JoinTree.zero)) : Nat) : Int))) then (Go.Am.andThen (LeavesOf_c1 t v24 v241 list1) (fun z => (fun (v34 : List Int) => (LeavesOf_l1 t v24 k (v241 + 1) v34)) z)) else list1)

def LeavesOf_c2 (t : JoinTree) (v24 : Nat) (list : List Int) : (List Int) :=
 (bif (((List.length (JoinTree.Kids (List.getD (JoinTree.Kids t) v24 JoinTree.zero)) : Nat) : Int) == 0) then (list ++ ([(JoinTree.Leaf (List.getD (JoinTree.Kids t) v24 JoinTree.zero))] : List Int)) else (Go.Am.andThen (LeavesOf_l1 t v24 ((List.length (JoinTree.Kids (List.getD (JoinTree.Kids t) v24 JoinTree.zero))) - 0 + 1) 0 list) (fun z => (fun (list1 : List Int) => list1) z)))

def LeavesOf_l0 (t : JoinTree) : Nat → Nat → (List Int) → (List Int)
 | 0, v24, list => list
 | k + 1, v24, list => (bif (decide (((v24 : Nat) : Int) < ((List.length (JoinTree.Kids t) : Nat) : Int))) then (Go.Am.andThen (LeavesOf_c2 t v24 list) (fun z => (fun (v34 : List Int) => (LeavesOf_l0 t k (v24 + 1) v34)) z)) else list)

def LeavesOf_c3 (t : JoinTree) : (List Int) :=
 (bif (((List.length (JoinTree.Kids t) : Nat) : Int) == 0) then (([] : List Int) ++ ([(JoinTree.Leaf t)] : List Int)) else (Go.Am.andThen (LeavesOf_l0 t ((List.length (JoinTree.Kids t)) - 0 + 1) 0 ([] : List Int)) (fun z => (fun (list : List Int) => list) z)))

def LeavesOf (g : Graph) (t : JoinTree) : (List Int) := (bif ((iTreeCost g (JoinTree.mk (JoinTree.Leaf t) (JoinTree.Kids t))) == (-1)) then ([] : List Int) else (Go.Am.andThen (LeavesOf_c3 t) (fun z => (fun (v9 : List Int) => v9) z)))

def LeavesOf_sp : FnSpec := mkSpec [.val (.named 1), .val (.named 3)] [.own (.int .i64)] (fun (g : Graph) (t : JoinTree) => True) (fun (g : Graph) (t : JoinTree) => [⟨(.slice (.int .i64)), (LeavesOf g t)⟩])

theorem LeavesOf_ok : FnOK Try.prog 34 LeavesOf_sp := by
 have hC : CtxOK Try.prog (mkCtx tyL [(32, iTreeCost_sp)]) := CtxOK.cons iTreeCost_ok (CtxOK.nil tyOK)
 have hC1 := hC.rebase 1000
 have hC2 := hC.rebase 2000
 have hC3 := hC.rebase 3000
 have hC4 := hC.rebase 4000
 have hC5 := hC.rebase 5000
 refine FnOK.of_body Try.func34 (by kernel_rfl) rfl (C := (mkCtx tyL [(32, iTreeCost_sp)])) hC.ty (by kernel_rfl) ?_
 intro (g : Graph) (t : JoinTree) hwf hpre E
 have hpre : True := hpre
 have hw_g : Wf ⟨(.named 1), (g : Graph)⟩ := hwf _ (List.Mem.head _)
 have hl_g_Rows : ((List.length (Graph.Rows g) : Nat) : Int) ≤ 9223372036854775807 := (hw_g.field (tv := ⟨(.slice (.int .i64)), Graph.Rows g⟩) (List.Mem.head _)).len
 have hl_g_Edges : ((List.length (Graph.Edges g) : Nat) : Int) ≤ 9223372036854775807 := (hw_g.field (tv := ⟨(.slice (.named 0)), Graph.Edges g⟩) (List.Mem.tail _ (List.Mem.head _))).len
 have hw_t : Wf ⟨(.named 3), (t : JoinTree)⟩ := hwf _ (List.Mem.tail _ (List.Mem.head _))
 have hr_t_Leaf : -9223372036854775808 ≤ JoinTree.Leaf t ∧ JoinTree.Leaf t ≤ 9223372036854775807 := (hw_t.field (tv := ⟨(.int .i64), JoinTree.Leaf t⟩) (List.Mem.head _)).int_inv
 have hl_t_Kids : ((List.length (JoinTree.Kids t) : Nat) : Int) ≤ 9223372036854775807 := (hw_t.field (tv := ⟨(.slice (.named 3)), JoinTree.Kids t⟩) (List.Mem.tail _ (List.Mem.head _))).len
 have e0 : LeavesOf g t = LeavesOf g t := rfl
 refine AW.seq (AW.r1 hC [2, 3] [8, 12] ⟨[(2, .ref 8 1 0), (3, .ref 12 1 0)], [(8, .box 1 [.data (.slice (.int .i64)) ((Graph.Rows g) : List Int), .data (.slice (.named 0)) ((Graph.Edges g) : List Edge)]), (12, .box 1 [.int .i64 (JoinTree.Leaf t), .data (.slice (.named 3)) ((JoinTree.Kids t) : List JoinTree)])]⟩ ?_)
 refine AW.seq (AW.seq (AW.r0U hC [3, 8] [12] [(8, .bool ((iTreeCost g (JoinTree.mk (JoinTree.Leaf t) (JoinTree.Kids t))) == (-1)))] [] [(True)] ?_ ?_))
 ·
  refine ⟨?_, trivial⟩
  ·
   trivial
 refine AW.cd ((iTreeCost g (JoinTree.mk (JoinTree.Leaf t) (JoinTree.Kids t))) == (-1)) ?_ ?_
 ·
  intro h1
  have h1q : (iTreeCost g (JoinTree.mk (JoinTree.Leaf t) (JoinTree.Kids t))) = (-1) := (Go.Am.beq_pos h1)
  have e2 := e0.trans (Go.Am.bif_t h1)
  refine AW.seq (AW.r1 hC [4] [] ⟨[(4, .nilsl)], []⟩ ?_)
  exact AW.ret (AW.retE (β := (List Int)) (fun v => [⟨(.slice (.int .i64)), v⟩]) (fun v => []) (v := ([] : List Int)) e2 (by kernel_rfl) rfl rfl)
 ·
  intro h3
  have h3q : (iTreeCost g (JoinTree.mk (JoinTree.Leaf t) (JoinTree.Kids t))) ≠ (-1) := (Go.Am.beq_neg h3)
  have e4 := e0.trans (Go.Am.bif_f h3)
  refine AW.kpU [3] [12] [] [] ?_
  refine AW.skip (AW.seq ?_)
  have hT := cost_top (g := g) (t := t) (by rw [JoinTree.eta] at h3q; exact h3q)
  have hn5 : (List.length g.Rows : Int) ≤ 5 := by have := hT.1.n5; omega
  have hL0 := hT.2.le2 hn5
  refine AW.regionO [0, 1] (by rfl) ?_
  refine AWO.callJ hC.ty [9] [7] (α := (List Int)) (fun x => ⟨[(9, .arr 7 1)], [(7, .arr 1 (.int .i64) (x : List Int))]⟩) (fun x => (List.length x ≤ 16) ∧ (LeavesOf_c3 t) = x) (vs := [.ref 12 1 0, .nilsl]) (caps := []) (by rfl) rfl (.inl rfl) (by decide) (by kernel_rfl) (by kernel_rfl) Try.func70 (by kernel_rfl) rfl (by kernel_rfl) ?_ ?_
  ·
   intro o1 ho1
   have e614 : (LeavesOf_c3 t) = (LeavesOf_c3 t) := rfl
   refine AW.kpU [0, 1] [12] [] [] ?_
   refine AW.adopt 1 7 (.int .i64) (by kernel_rfl) (by kernel_rfl) ?_
   refine AW.kp [0, 1] [7, 12] ⟨[(0, .ref 12 1 0), (1, .arr 7 1)], [(7, .arr 1 (.int .i64) (([] : List Int) : List Int)), (12, .box 1 [.int .i64 (JoinTree.Leaf t), .data (.slice (.named 3)) ((JoinTree.Kids t) : List JoinTree)])]⟩ ?_
   refine AW.seq (AW.r1U hC1 [0, 1] [7, 12] [] [] ?_)
   refine AW.seq (AW.seq (AW.r1U hC1 [0, 1, 11] [7, 12] [(11, .bool (((List.length (JoinTree.Kids t) : Nat) : Int) == 0))] [] ?_))
   refine AW.cd (((List.length (JoinTree.Kids t) : Nat) : Int) == 0) ?_ ?_
   ·
    intro h615
    have h615q : ((List.length (JoinTree.Kids t) : Nat) : Int) = 0 := (Go.Am.beq_pos h615)
    have e616 := e614.trans (Go.Am.bif_t h615)
    refine AW.seq (AW.r0 hC1 [4] [7] ⟨[(4, .arr 7 1)], [(7, .arr 1 (.int .i64) ((([] : List Int) ++ ([(JoinTree.Leaf t)] : List Int)) : List Int))]⟩ [(0 + ((List.length ([(JoinTree.Leaf t)] : List Int) : Nat) : Int) ≤ 4294967296)] ?_ ?_)
    ·
     refine ⟨?_, trivial⟩
     ·
      simp only [lens] at *; omega
    refine AW.ret ?_
    refine ⟨(([] : List Int) ++ ([(JoinTree.Leaf t)] : List Int)), [.arr 7 1], by kernel_rfl, by kernel_rfl, ?_, e616⟩
    show List.length (([] : List Int) ++ ([(JoinTree.Leaf t)] : List Int)) ≤ 16
    (try simp only [List.length_append, List.length_cons, List.length_nil])
    omega
   ·
    intro h617
    have h617q : ((List.length (JoinTree.Kids t) : Nat) : Int) ≠ 0 := (Go.Am.beq_neg h617)
    have e618 := e614.trans (Go.Am.bif_f h617)
    refine AW.kpU [0, 1] [7, 12] [] [] ?_
    refine AW.skip (AW.seq (AW.seq (AW.r1U hC1 [0, 1, 23, 24] [7, 12] [(23, .int .i64 ((List.length (JoinTree.Kids t) : Nat) : Int)), (24, .int .i64 0)] [] ?_)))
    refine AW.cutQ (α := (List Int)) (fun x => ⟨[(1, .arr 7 1)], [(7, .arr 1 (.int .i64) (x : List Int))]⟩) (fun x => (List.length x ≤ 16) ∧ (LeavesOf_l0 t ((List.length (JoinTree.Kids t)) - 0 + 1) 0 ([] : List Int)) = x) ?_ ?_
    ·
     skip
     refine AW.block (AW.loop (α := Nat × (List Int)) (fun x => ⟨[(0, .ref 12 1 0), (1, .arr 7 1), (23, .int .i64 ((List.length (JoinTree.Kids t) : Nat) : Int)), (24, .int .i64 ((x.1 : Nat) : Int))], [(7, .arr 1 (.int .i64) (x.2 : List Int)), (12, .box 1 [.int .i64 (JoinTree.Leaf t), .data (.slice (.named 3)) ((JoinTree.Kids t) : List JoinTree)])]⟩) (fun x => (List.length x.2 ≤ 8 * x.1 ∧ x.1 ≤ 2) ∧ ∃ k, (List.length (JoinTree.Kids t)) - x.1 < k ∧ (LeavesOf_l0 t ((List.length (JoinTree.Kids t)) - 0 + 1) 0 ([] : List Int)) = LeavesOf_l0 t k x.1 x.2) (fun x => (List.length (JoinTree.Kids t)) - x.1) (0, ([] : List Int)) (by kernel_rfl) ⟨?_, _, Nat.lt_succ_self _, rfl⟩ ?_)
     ·
      show List.length ([] : List Int) ≤ 8 * 0 ∧ 0 ≤ 2
      exact ⟨by first | exact Nat.le_refl _ | omega, by omega⟩
     ·
      intro x hR
      obtain ⟨v24, list⟩ := x
      obtain ⟨hI0, k621, hk619, e620⟩ := hR
      replace hI0 : List.length list ≤ 8 * v24 ∧ v24 ≤ 2 := hI0
      replace hk619 : (List.length (JoinTree.Kids t)) - v24 < k621 := hk619
      obtain ⟨k621q, rfl⟩ : ∃ k, k621 = k + 1 := ⟨k621 - 1, by omega⟩
      have hK0 := fun (h : v24 < t.Kids.length) => hT.2.kid hn5 h
      refine AW.seq (AW.r1U hC1 [0, 1, 23, 24, 25] [7, 12] [(25, .bool (decide (((v24 : Nat) : Int) < ((List.length (JoinTree.Kids t) : Nat) : Int))))] [] ?_)
      refine AW.seq (AW.cd (decide (((v24 : Nat) : Int) < ((List.length (JoinTree.Kids t) : Nat) : Int))) ?_ ?_)
      ·
       intro h622
       have h622q : ((v24 : Nat) : Int) < ((List.length (JoinTree.Kids t) : Nat) : Int) := (of_decide_eq_true h622)
       have e623 := e620.trans (Go.Am.bif_t h622)
       refine AW.kpU [0, 1, 23, 24] [7, 12] [] [] ?_
       refine AW.skip (AW.seq (AW.block (AW.seq (AW.r1U hC1 [0, 1, 5, 23, 24] [7, 12] [(5, .int .i64 ((v24 : Nat) : Int))] [] ?_))))
       refine AW.regionO [0, 1, 2, 3, 4, 5, 6, 7, 8] (by rfl) ?_
       refine AWO.runU hC1 false [] [0, 1, 2, 3, 4, 5, 6] [7, 8] [0, 23, 24, 32, 33] [7, 12]
        [(32, .dref (.named 3) ((List.getD (JoinTree.Kids t) v24 JoinTree.zero) : JoinTree)), (33, .arr 7 1)] []
        [(0 ≤ ((v24 : Nat) : Int) ∧ ((v24 : Nat) : Int) < ((List.length (JoinTree.Kids t) : Nat) : Int))] (by rfl) (by kernel_rfl) ?_ ?_
       ·
        refine ⟨?_, trivial⟩
        ·
         omega
       refine AWO.callJ hC1.ty [0, 23, 24, 34] [7, 12] (α := (List Int)) (fun x => ⟨[(0, .ref 12 1 0), (23, .int .i64 ((List.length (JoinTree.Kids t) : Nat) : Int)), (24, .int .i64 ((v24 : Nat) : Int)), (34, .arr 7 1)], [(7, .arr 1 (.int .i64) (x : List Int)), (12, .box 1 [.int .i64 (JoinTree.Leaf t), .data (.slice (.named 3)) ((JoinTree.Kids t) : List JoinTree)])]⟩) (fun x => (List.length x ≤ 8 * v24 + 8) ∧ (LeavesOf_c2 t v24 list) = x) (vs := [.dref (.named 3) ((List.getD (JoinTree.Kids t) v24 JoinTree.zero) : JoinTree), .arr 7 1]) (caps := []) (by rfl) rfl (.inl rfl) (by decide) (by kernel_rfl) (by kernel_rfl) Try.func70 (by kernel_rfl) rfl (by kernel_rfl) ?_ ?_
       ·
        intro o2 ho2
        have e624 : (LeavesOf_c2 t v24 list) = (LeavesOf_c2 t v24 list) := rfl
        refine AW.kpU [0, 1, 1000, 1023, 1024] [7, 12] [] [] ?_
        refine AW.seq (AW.r1U hC2 [0, 1, 1000, 1023, 1024] [7, 12] [] [] ?_)
        refine AW.seq (AW.seq (AW.r1U hC2 [0, 1, 11, 1000, 1023, 1024] [7, 12] [(11, .bool (((List.length (JoinTree.Kids (List.getD (JoinTree.Kids t) v24 JoinTree.zero)) : Nat) : Int) == 0))] [] ?_))
        refine AW.cd (((List.length (JoinTree.Kids (List.getD (JoinTree.Kids t) v24 JoinTree.zero)) : Nat) : Int) == 0) ?_ ?_
        ·
         intro h625
         have h625q : ((List.length (JoinTree.Kids (List.getD (JoinTree.Kids t) v24 JoinTree.zero)) : Nat) : Int) = 0 := (Go.Am.beq_pos h625)
         have e626 := e624.trans (Go.Am.bif_t h625)
         refine AW.seq (AW.r0U hC2 [4, 1000, 1023, 1024] [7, 12] [(4, .arr 7 1)] [(7, .arr 1 (.int .i64) ((list ++ ([(JoinTree.Leaf (List.getD (JoinTree.Kids t) v24 JoinTree.zero))] : List Int)) : List Int))] [(((List.length list : Nat) : Int) + ((List.length ([(JoinTree.Leaf (List.getD (JoinTree.Kids t) v24 JoinTree.zero))] : List Int) : Nat) : Int) ≤ 4294967296)] ?_ ?_)
         ·
          refine ⟨?_, trivial⟩
          ·
           simp only [lens] at *; omega
         refine AW.ret ?_
         refine ⟨(list ++ ([(JoinTree.Leaf (List.getD (JoinTree.Kids t) v24 JoinTree.zero))] : List Int)), [.arr 7 1], by kernel_rfl, by kernel_rfl, ?_, e626⟩
         show List.length (list ++ ([(JoinTree.Leaf (List.getD (JoinTree.Kids t) v24 JoinTree.zero))] : List Int)) ≤ 8 * v24 + 8
         (try simp only [List.length_append, List.length_cons, List.length_nil])
         omega
        ·
         intro h627
         have h627q : ((List.length (JoinTree.Kids (List.getD (JoinTree.Kids t) v24 JoinTree.zero)) : Nat) : Int) ≠ 0 := (Go.Am.beq_neg h627)
         have e628 := e624.trans (Go.Am.bif_f h627)
         refine AW.kpU [0, 1, 1000, 1023, 1024] [7, 12] [] [] ?_
         refine AW.skip (AW.seq (AW.seq (AW.r1U hC2 [0, 1, 23, 24, 1000, 1023, 1024] [7, 12] [(23, .int .i64 ((List.length (JoinTree.Kids (List.getD (JoinTree.Kids t) v24 JoinTree.zero)) : Nat) : Int)), (24, .int .i64 0)] [] ?_)))
         refine AW.cutQ (α := (List Int)) (fun x => ⟨[(1, .arr 7 1), (1000, .ref 12 1 0), (1023, .int .i64 ((List.length (JoinTree.Kids t) : Nat) : Int)), (1024, .int .i64 ((v24 : Nat) : Int))], [(7, .arr 1 (.int .i64) (x : List Int)), (12, .box 1 [.int .i64 (JoinTree.Leaf t), .data (.slice (.named 3)) ((JoinTree.Kids t) : List JoinTree)])]⟩) (fun x => (List.length x ≤ 8 * v24 + 8) ∧ (LeavesOf_l1 t v24 ((List.length (JoinTree.Kids (List.getD (JoinTree.Kids t) v24 JoinTree.zero))) - 0 + 1) 0 list) = x) ?_ ?_
         ·
          skip
          refine AW.block (AW.loop (α := Nat × (List Int)) (fun x => ⟨[(0, .dref (.named 3) ((List.getD (JoinTree.Kids t) v24 JoinTree.zero) : JoinTree)), (1, .arr 7 1), (23, .int .i64 ((List.length (JoinTree.Kids (List.getD (JoinTree.Kids t) v24 JoinTree.zero)) : Nat) : Int)), (24, .int .i64 ((x.1 : Nat) : Int)), (1000, .ref 12 1 0), (1023, .int .i64 ((List.length (JoinTree.Kids t) : Nat) : Int)), (1024, .int .i64 ((v24 : Nat) : Int))], [(7, .arr 1 (.int .i64) (x.2 : List Int)), (12, .box 1 [.int .i64 (JoinTree.Leaf t), .data (.slice (.named 3)) ((JoinTree.Kids t) : List JoinTree)])]⟩) (fun x => (List.length x.2 ≤ 8 * v24 + 4 * x.1 ∧ x.1 ≤ 2) ∧ ∃ k, (List.length (JoinTree.Kids (List.getD (JoinTree.Kids t) v24 JoinTree.zero))) - x.1 < k ∧ (LeavesOf_l1 t v24 ((List.length (JoinTree.Kids (List.getD (JoinTree.Kids t) v24 JoinTree.zero))) - 0 + 1) 0 list) = LeavesOf_l1 t v24 k x.1 x.2) (fun x => (List.length (JoinTree.Kids (List.getD (JoinTree.Kids t) v24 JoinTree.zero))) - x.1) (0, list) (by kernel_rfl) ⟨?_, _, Nat.lt_succ_self _, rfl⟩ ?_)
          ·
           show List.length list ≤ 8 * v24 + 4 * 0 ∧ 0 ≤ 2
           exact ⟨by first | exact Nat.le_refl _ | omega, by omega⟩
          ·
           intro x hR
           obtain ⟨v241, list1⟩ := x
           obtain ⟨hI1, k631, hk629, e630⟩ := hR
           replace hI1 : List.length list1 ≤ 8 * v24 + 4 * v241 ∧ v241 ≤ 2 := hI1
           replace hk629 : (List.length (JoinTree.Kids (List.getD (JoinTree.Kids t) v24 JoinTree.zero))) - v241 < k631 := hk629
           obtain ⟨k631q, rfl⟩ : ∃ k, k631 = k + 1 := ⟨k631 - 1, by omega⟩
           have hN1 := hK0 (by omega)
           have hL1 := hN1.le2 hn5
           have hK1 := fun (h : v241 < (List.getD t.Kids v24 JoinTree.zero).Kids.length) => hN1.kid hn5 h
           refine AW.seq (AW.r1U hC2 [0, 1, 23, 24, 25, 1000, 1023, 1024] [7, 12] [(25, .bool (decide (((v241 : Nat) : Int) < ((List.length (JoinTree.Kids (List.getD (JoinTree.Kids t) v24 JoinTree.zero)) : Nat) : Int))))] [] ?_)
           refine AW.seq (AW.cd (decide (((v241 : Nat) : Int) < ((List.length (JoinTree.Kids (List.getD (JoinTree.Kids t) v24 JoinTree.zero)) : Nat) : Int))) ?_ ?_)
           ·
            intro h632
            have h632q : ((v241 : Nat) : Int) < ((List.length (JoinTree.Kids (List.getD (JoinTree.Kids t) v24 JoinTree.zero)) : Nat) : Int) := (of_decide_eq_true h632)
            have e633 := e630.trans (Go.Am.bif_t h632)
            refine AW.kpU [0, 1, 23, 24, 1000, 1023, 1024] [7, 12] [] [] ?_
            refine AW.skip (AW.seq (AW.block (AW.seq (AW.r1U hC2 [0, 1, 5, 23, 24, 1000, 1023, 1024] [7, 12] [(5, .int .i64 ((v241 : Nat) : Int))] [] ?_))))
            refine AW.regionO [0, 1, 2, 3, 4, 5, 6, 7, 8] (by rfl) ?_
            refine AWO.runU hC2 false [] [0, 1, 2, 3, 4, 5, 6] [7, 8] [0, 23, 24, 32, 33, 1000, 1023, 1024] [7, 12]
             [(32, .dref (.named 3) ((List.getD (JoinTree.Kids (List.getD (JoinTree.Kids t) v24 JoinTree.zero)) v241 JoinTree.zero) : JoinTree)), (33, .arr 7 1)] []
             [(0 ≤ ((v241 : Nat) : Int) ∧ ((v241 : Nat) : Int) < ((List.length (JoinTree.Kids (List.getD (JoinTree.Kids t) v24 JoinTree.zero)) : Nat) : Int))] (by rfl) (by kernel_rfl) ?_ ?_
            ·
             refine ⟨?_, trivial⟩
             ·
              omega
            refine AWO.callJ hC2.ty [0, 23, 24, 34, 1000, 1023, 1024] [7, 12] (α := (List Int)) (fun x => ⟨[(0, .dref (.named 3) ((List.getD (JoinTree.Kids t) v24 JoinTree.zero) : JoinTree)), (23, .int .i64 ((List.length (JoinTree.Kids (List.getD (JoinTree.Kids t) v24 JoinTree.zero)) : Nat) : Int)), (24, .int .i64 ((v241 : Nat) : Int)), (34, .arr 7 1), (1000, .ref 12 1 0), (1023, .int .i64 ((List.length (JoinTree.Kids t) : Nat) : Int)), (1024, .int .i64 ((v24 : Nat) : Int))], [(7, .arr 1 (.int .i64) (x : List Int)), (12, .box 1 [.int .i64 (JoinTree.Leaf t), .data (.slice (.named 3)) ((JoinTree.Kids t) : List JoinTree)])]⟩) (fun x => (List.length x ≤ 8 * v24 + 4 * v241 + 4) ∧ (LeavesOf_c1 t v24 v241 list1) = x) (vs := [.dref (.named 3) ((List.getD (JoinTree.Kids (List.getD (JoinTree.Kids t) v24 JoinTree.zero)) v241 JoinTree.zero) : JoinTree), .arr 7 1]) (caps := []) (by rfl) rfl (.inl rfl) (by decide) (by kernel_rfl) (by kernel_rfl) Try.func70 (by kernel_rfl) rfl (by kernel_rfl) ?_ ?_
            ·
             intro o3 ho3
             have e634 : (LeavesOf_c1 t v24 v241 list1) = (LeavesOf_c1 t v24 v241 list1) := rfl
             refine AW.kpU [0, 1, 1000, 1023, 1024, 2000, 2023, 2024] [7, 12] [] [] ?_
             refine AW.seq (AW.r1U hC3 [0, 1, 1000, 1023, 1024, 2000, 2023, 2024] [7, 12] [] [] ?_)
             refine AW.seq (AW.seq (AW.r1U hC3 [0, 1, 11, 1000, 1023, 1024, 2000, 2023, 2024] [7, 12] [(11, .bool (((List.length (JoinTree.Kids (List.getD (JoinTree.Kids (List.getD (JoinTree.Kids t) v24 JoinTree.zero)) v241 JoinTree.zero)) : Nat) : Int) == 0))] [] ?_))
             refine AW.cd (((List.length (JoinTree.Kids (List.getD (JoinTree.Kids (List.getD (JoinTree.Kids t) v24 JoinTree.zero)) v241 JoinTree.zero)) : Nat) : Int) == 0) ?_ ?_
             ·
              intro h635
              have h635q : ((List.length (JoinTree.Kids (List.getD (JoinTree.Kids (List.getD (JoinTree.Kids t) v24 JoinTree.zero)) v241 JoinTree.zero)) : Nat) : Int) = 0 := (Go.Am.beq_pos h635)
              have e636 := e634.trans (Go.Am.bif_t h635)
              refine AW.seq (AW.r0U hC3 [4, 1000, 1023, 1024, 2000, 2023, 2024] [7, 12] [(4, .arr 7 1)] [(7, .arr 1 (.int .i64) ((list1 ++ ([(JoinTree.Leaf (List.getD (JoinTree.Kids (List.getD (JoinTree.Kids t) v24 JoinTree.zero)) v241 JoinTree.zero))] : List Int)) : List Int))] [(((List.length list1 : Nat) : Int) + ((List.length ([(JoinTree.Leaf (List.getD (JoinTree.Kids (List.getD (JoinTree.Kids t) v24 JoinTree.zero)) v241 JoinTree.zero))] : List Int) : Nat) : Int) ≤ 4294967296)] ?_ ?_)
              ·
               refine ⟨?_, trivial⟩
               ·
                simp only [lens] at *; omega
              refine AW.ret ?_
              refine ⟨(list1 ++ ([(JoinTree.Leaf (List.getD (JoinTree.Kids (List.getD (JoinTree.Kids t) v24 JoinTree.zero)) v241 JoinTree.zero))] : List Int)), [.arr 7 1], by kernel_rfl, by kernel_rfl, ?_, e636⟩
              show List.length (list1 ++ ([(JoinTree.Leaf (List.getD (JoinTree.Kids (List.getD (JoinTree.Kids t) v24 JoinTree.zero)) v241 JoinTree.zero))] : List Int)) ≤ 8 * v24 + 4 * v241 + 4
              (try simp only [List.length_append, List.length_cons, List.length_nil])
              omega
             ·
              intro h637
              have h637q : ((List.length (JoinTree.Kids (List.getD (JoinTree.Kids (List.getD (JoinTree.Kids t) v24 JoinTree.zero)) v241 JoinTree.zero)) : Nat) : Int) ≠ 0 := (Go.Am.beq_neg h637)
              have e638 := e634.trans (Go.Am.bif_f h637)
              refine AW.kpU [0, 1, 1000, 1023, 1024, 2000, 2023, 2024] [7, 12] [] [] ?_
              refine AW.skip (AW.seq (AW.seq (AW.r1U hC3 [0, 1, 23, 24, 1000, 1023, 1024, 2000, 2023, 2024] [7, 12] [(23, .int .i64 ((List.length (JoinTree.Kids (List.getD (JoinTree.Kids (List.getD (JoinTree.Kids t) v24 JoinTree.zero)) v241 JoinTree.zero)) : Nat) : Int)), (24, .int .i64 0)] [] ?_)))
              refine AW.cutQ (α := (List Int)) (fun x => ⟨[(1, .arr 7 1), (1000, .dref (.named 3) ((List.getD (JoinTree.Kids t) v24 JoinTree.zero) : JoinTree)), (1023, .int .i64 ((List.length (JoinTree.Kids (List.getD (JoinTree.Kids t) v24 JoinTree.zero)) : Nat) : Int)), (1024, .int .i64 ((v241 : Nat) : Int)), (2000, .ref 12 1 0), (2023, .int .i64 ((List.length (JoinTree.Kids t) : Nat) : Int)), (2024, .int .i64 ((v24 : Nat) : Int))], [(7, .arr 1 (.int .i64) (x : List Int)), (12, .box 1 [.int .i64 (JoinTree.Leaf t), .data (.slice (.named 3)) ((JoinTree.Kids t) : List JoinTree)])]⟩) (fun x => (List.length x ≤ 8 * v24 + 4 * v241 + 4) ∧ (LeavesOf_l2 t v24 v241 ((List.length (JoinTree.Kids (List.getD (JoinTree.Kids (List.getD (JoinTree.Kids t) v24 JoinTree.zero)) v241 JoinTree.zero))) - 0 + 1) 0 list1) = x) ?_ ?_
              ·
               skip
               refine AW.block (AW.loop (α := Nat × (List Int)) (fun x => ⟨[(0, .dref (.named 3) ((List.getD (JoinTree.Kids (List.getD (JoinTree.Kids t) v24 JoinTree.zero)) v241 JoinTree.zero) : JoinTree)), (1, .arr 7 1), (23, .int .i64 ((List.length (JoinTree.Kids (List.getD (JoinTree.Kids (List.getD (JoinTree.Kids t) v24 JoinTree.zero)) v241 JoinTree.zero)) : Nat) : Int)), (24, .int .i64 ((x.1 : Nat) : Int)), (1000, .dref (.named 3) ((List.getD (JoinTree.Kids t) v24 JoinTree.zero) : JoinTree)), (1023, .int .i64 ((List.length (JoinTree.Kids (List.getD (JoinTree.Kids t) v24 JoinTree.zero)) : Nat) : Int)), (1024, .int .i64 ((v241 : Nat) : Int)), (2000, .ref 12 1 0), (2023, .int .i64 ((List.length (JoinTree.Kids t) : Nat) : Int)), (2024, .int .i64 ((v24 : Nat) : Int))], [(7, .arr 1 (.int .i64) (x.2 : List Int)), (12, .box 1 [.int .i64 (JoinTree.Leaf t), .data (.slice (.named 3)) ((JoinTree.Kids t) : List JoinTree)])]⟩) (fun x => (List.length x.2 ≤ 8 * v24 + 4 * v241 + 2 * x.1 ∧ x.1 ≤ 2) ∧ ∃ k, (List.length (JoinTree.Kids (List.getD (JoinTree.Kids (List.getD (JoinTree.Kids t) v24 JoinTree.zero)) v241 JoinTree.zero))) - x.1 < k ∧ (LeavesOf_l2 t v24 v241 ((List.length (JoinTree.Kids (List.getD (JoinTree.Kids (List.getD (JoinTree.Kids t) v24 JoinTree.zero)) v241 JoinTree.zero))) - 0 + 1) 0 list1) = LeavesOf_l2 t v24 v241 k x.1 x.2) (fun x => (List.length (JoinTree.Kids (List.getD (JoinTree.Kids (List.getD (JoinTree.Kids t) v24 JoinTree.zero)) v241 JoinTree.zero))) - x.1) (0, list1) (by kernel_rfl) ⟨?_, _, Nat.lt_succ_self _, rfl⟩ ?_)
               ·
                show List.length list1 ≤ 8 * v24 + 4 * v241 + 2 * 0 ∧ 0 ≤ 2
                exact ⟨by first | exact Nat.le_refl _ | omega, by omega⟩
               ·
                intro x hR
                obtain ⟨v242, list2⟩ := x
                obtain ⟨hI2, k641, hk639, e640⟩ := hR
                replace hI2 : List.length list2 ≤ 8 * v24 + 4 * v241 + 2 * v242 ∧ v242 ≤ 2 := hI2
                replace hk639 : (List.length (JoinTree.Kids (List.getD (JoinTree.Kids (List.getD (JoinTree.Kids t) v24 JoinTree.zero)) v241 JoinTree.zero))) - v242 < k641 := hk639
                obtain ⟨k641q, rfl⟩ : ∃ k, k641 = k + 1 := ⟨k641 - 1, by omega⟩
                have hN2 := hK1 (by omega)
                have hL2 := hN2.le2 hn5
                have hK2 := fun (h : v242 < (List.getD (List.getD t.Kids v24 JoinTree.zero).Kids v241 JoinTree.zero).Kids.length) => hN2.kid hn5 h
                refine AW.seq (AW.r1U hC3 [0, 1, 23, 24, 25, 1000, 1023, 1024, 2000, 2023, 2024] [7, 12] [(25, .bool (decide (((v242 : Nat) : Int) < ((List.length (JoinTree.Kids (List.getD (JoinTree.Kids (List.getD (JoinTree.Kids t) v24 JoinTree.zero)) v241 JoinTree.zero)) : Nat) : Int))))] [] ?_)
                refine AW.seq (AW.cd (decide (((v242 : Nat) : Int) < ((List.length (JoinTree.Kids (List.getD (JoinTree.Kids (List.getD (JoinTree.Kids t) v24 JoinTree.zero)) v241 JoinTree.zero)) : Nat) : Int))) ?_ ?_)
                ·
                 intro h642
                 have h642q : ((v242 : Nat) : Int) < ((List.length (JoinTree.Kids (List.getD (JoinTree.Kids (List.getD (JoinTree.Kids t) v24 JoinTree.zero)) v241 JoinTree.zero)) : Nat) : Int) := (of_decide_eq_true h642)
                 have e643 := e640.trans (Go.Am.bif_t h642)
                 refine AW.kpU [0, 1, 23, 24, 1000, 1023, 1024, 2000, 2023, 2024] [7, 12] [] [] ?_
                 refine AW.skip (AW.seq (AW.block (AW.seq (AW.r1U hC3 [0, 1, 5, 23, 24, 1000, 1023, 1024, 2000, 2023, 2024] [7, 12] [(5, .int .i64 ((v242 : Nat) : Int))] [] ?_))))
                 refine AW.regionO [0, 1, 2, 3, 4, 5, 6, 7, 8] (by rfl) ?_
                 refine AWO.runU hC3 false [] [0, 1, 2, 3, 4, 5, 6] [7, 8] [0, 23, 24, 32, 33, 1000, 1023, 1024, 2000, 2023, 2024] [7, 12]
                  [(32, .dref (.named 3) ((List.getD (JoinTree.Kids (List.getD (JoinTree.Kids (List.getD (JoinTree.Kids t) v24 JoinTree.zero)) v241 JoinTree.zero)) v242 JoinTree.zero) : JoinTree)), (33, .arr 7 1)] []
                  [(0 ≤ ((v242 : Nat) : Int) ∧ ((v242 : Nat) : Int) < ((List.length (JoinTree.Kids (List.getD (JoinTree.Kids (List.getD (JoinTree.Kids t) v24 JoinTree.zero)) v241 JoinTree.zero)) : Nat) : Int))] (by rfl) (by kernel_rfl) ?_ ?_
                 ·
                  refine ⟨?_, trivial⟩
                  ·
                   omega
                 refine AWO.callJ hC3.ty [0, 23, 24, 34, 1000, 1023, 1024, 2000, 2023, 2024] [7, 12] (α := (List Int)) (fun x => ⟨[(0, .dref (.named 3) ((List.getD (JoinTree.Kids (List.getD (JoinTree.Kids t) v24 JoinTree.zero)) v241 JoinTree.zero) : JoinTree)), (23, .int .i64 ((List.length (JoinTree.Kids (List.getD (JoinTree.Kids (List.getD (JoinTree.Kids t) v24 JoinTree.zero)) v241 JoinTree.zero)) : Nat) : Int)), (24, .int .i64 ((v242 : Nat) : Int)), (34, .arr 7 1), (1000, .dref (.named 3) ((List.getD (JoinTree.Kids t) v24 JoinTree.zero) : JoinTree)), (1023, .int .i64 ((List.length (JoinTree.Kids (List.getD (JoinTree.Kids t) v24 JoinTree.zero)) : Nat) : Int)), (1024, .int .i64 ((v241 : Nat) : Int)), (2000, .ref 12 1 0), (2023, .int .i64 ((List.length (JoinTree.Kids t) : Nat) : Int)), (2024, .int .i64 ((v24 : Nat) : Int))], [(7, .arr 1 (.int .i64) (x : List Int)), (12, .box 1 [.int .i64 (JoinTree.Leaf t), .data (.slice (.named 3)) ((JoinTree.Kids t) : List JoinTree)])]⟩) (fun x => (List.length x ≤ 8 * v24 + 4 * v241 + 2 * v242 + 2) ∧ (LeavesOf_c0 t v24 v241 v242 list2) = x) (vs := [.dref (.named 3) ((List.getD (JoinTree.Kids (List.getD (JoinTree.Kids (List.getD (JoinTree.Kids t) v24 JoinTree.zero)) v241 JoinTree.zero)) v242 JoinTree.zero) : JoinTree), .arr 7 1]) (caps := []) (by rfl) rfl (.inl rfl) (by decide) (by kernel_rfl) (by kernel_rfl) Try.func70 (by kernel_rfl) rfl (by kernel_rfl) ?_ ?_
                 ·
                  intro o4 ho4
                  have e644 : (LeavesOf_c0 t v24 v241 v242 list2) = (LeavesOf_c0 t v24 v241 v242 list2) := rfl
                  refine AW.kpU [0, 1, 1000, 1023, 1024, 2000, 2023, 2024, 3000, 3023, 3024] [7, 12] [] [] ?_
                  refine AW.seq (AW.r1U hC4 [0, 1, 1000, 1023, 1024, 2000, 2023, 2024, 3000, 3023, 3024] [7, 12] [] [] ?_)
                  refine AW.seq (AW.seq (AW.r1U hC4 [0, 1, 11, 1000, 1023, 1024, 2000, 2023, 2024, 3000, 3023, 3024] [7, 12] [(11, .bool (((List.length (JoinTree.Kids (List.getD (JoinTree.Kids (List.getD (JoinTree.Kids (List.getD (JoinTree.Kids t) v24 JoinTree.zero)) v241 JoinTree.zero)) v242 JoinTree.zero)) : Nat) : Int) == 0))] [] ?_))
                  refine AW.cd (((List.length (JoinTree.Kids (List.getD (JoinTree.Kids (List.getD (JoinTree.Kids (List.getD (JoinTree.Kids t) v24 JoinTree.zero)) v241 JoinTree.zero)) v242 JoinTree.zero)) : Nat) : Int) == 0) ?_ ?_
                  ·
                   intro h645
                   have h645q : ((List.length (JoinTree.Kids (List.getD (JoinTree.Kids (List.getD (JoinTree.Kids (List.getD (JoinTree.Kids t) v24 JoinTree.zero)) v241 JoinTree.zero)) v242 JoinTree.zero)) : Nat) : Int) = 0 := (Go.Am.beq_pos h645)
                   have e646 := e644.trans (Go.Am.bif_t h645)
                   refine AW.seq (AW.r0U hC4 [4, 1000, 1023, 1024, 2000, 2023, 2024, 3000, 3023, 3024] [7, 12] [(4, .arr 7 1)] [(7, .arr 1 (.int .i64) ((list2 ++ ([(JoinTree.Leaf (List.getD (JoinTree.Kids (List.getD (JoinTree.Kids (List.getD (JoinTree.Kids t) v24 JoinTree.zero)) v241 JoinTree.zero)) v242 JoinTree.zero))] : List Int)) : List Int))] [(((List.length list2 : Nat) : Int) + ((List.length ([(JoinTree.Leaf (List.getD (JoinTree.Kids (List.getD (JoinTree.Kids (List.getD (JoinTree.Kids t) v24 JoinTree.zero)) v241 JoinTree.zero)) v242 JoinTree.zero))] : List Int) : Nat) : Int) ≤ 4294967296)] ?_ ?_)
                   ·
                    refine ⟨?_, trivial⟩
                    ·
                     simp only [lens] at *; omega
                   refine AW.ret ?_
                   refine ⟨(list2 ++ ([(JoinTree.Leaf (List.getD (JoinTree.Kids (List.getD (JoinTree.Kids (List.getD (JoinTree.Kids t) v24 JoinTree.zero)) v241 JoinTree.zero)) v242 JoinTree.zero))] : List Int)), [.arr 7 1], by kernel_rfl, by kernel_rfl, ?_, e646⟩
                   show List.length (list2 ++ ([(JoinTree.Leaf (List.getD (JoinTree.Kids (List.getD (JoinTree.Kids (List.getD (JoinTree.Kids t) v24 JoinTree.zero)) v241 JoinTree.zero)) v242 JoinTree.zero))] : List Int)) ≤ 8 * v24 + 4 * v241 + 2 * v242 + 2
                   (try simp only [List.length_append, List.length_cons, List.length_nil])
                   omega
                  ·
                   intro h647
                   have h647q : ((List.length (JoinTree.Kids (List.getD (JoinTree.Kids (List.getD (JoinTree.Kids (List.getD (JoinTree.Kids t) v24 JoinTree.zero)) v241 JoinTree.zero)) v242 JoinTree.zero)) : Nat) : Int) ≠ 0 := (Go.Am.beq_neg h647)
                   have e648 := e644.trans (Go.Am.bif_f h647)
                   refine AW.kpU [0, 1, 1000, 1023, 1024, 2000, 2023, 2024, 3000, 3023, 3024] [7, 12] [] [] ?_
                   refine AW.skip (AW.seq (AW.seq (AW.r1U hC4 [0, 1, 23, 24, 1000, 1023, 1024, 2000, 2023, 2024, 3000, 3023, 3024] [7, 12] [(23, .int .i64 ((List.length (JoinTree.Kids (List.getD (JoinTree.Kids (List.getD (JoinTree.Kids (List.getD (JoinTree.Kids t) v24 JoinTree.zero)) v241 JoinTree.zero)) v242 JoinTree.zero)) : Nat) : Int)), (24, .int .i64 0)] [] ?_)))
                   refine AW.cutQ (α := (List Int)) (fun x => ⟨[(1, .arr 7 1), (1000, .dref (.named 3) ((List.getD (JoinTree.Kids (List.getD (JoinTree.Kids t) v24 JoinTree.zero)) v241 JoinTree.zero) : JoinTree)), (1023, .int .i64 ((List.length (JoinTree.Kids (List.getD (JoinTree.Kids (List.getD (JoinTree.Kids t) v24 JoinTree.zero)) v241 JoinTree.zero)) : Nat) : Int)), (1024, .int .i64 ((v242 : Nat) : Int)), (2000, .dref (.named 3) ((List.getD (JoinTree.Kids t) v24 JoinTree.zero) : JoinTree)), (2023, .int .i64 ((List.length (JoinTree.Kids (List.getD (JoinTree.Kids t) v24 JoinTree.zero)) : Nat) : Int)), (2024, .int .i64 ((v241 : Nat) : Int)), (3000, .ref 12 1 0), (3023, .int .i64 ((List.length (JoinTree.Kids t) : Nat) : Int)), (3024, .int .i64 ((v24 : Nat) : Int))], [(7, .arr 1 (.int .i64) (x : List Int)), (12, .box 1 [.int .i64 (JoinTree.Leaf t), .data (.slice (.named 3)) ((JoinTree.Kids t) : List JoinTree)])]⟩) (fun x => (List.length x ≤ 8 * v24 + 4 * v241 + 2 * v242 + 2) ∧ (LeavesOf_l3 t v24 v241 v242 ((List.length (JoinTree.Kids (List.getD (JoinTree.Kids (List.getD (JoinTree.Kids (List.getD (JoinTree.Kids t) v24 JoinTree.zero)) v241 JoinTree.zero)) v242 JoinTree.zero))) - 0 + 1) 0 list2) = x) ?_ ?_
                   ·
                    skip
                    refine AW.block (AW.loop (α := Nat × (List Int)) (fun x => ⟨[(0, .dref (.named 3) ((List.getD (JoinTree.Kids (List.getD (JoinTree.Kids (List.getD (JoinTree.Kids t) v24 JoinTree.zero)) v241 JoinTree.zero)) v242 JoinTree.zero) : JoinTree)), (1, .arr 7 1), (23, .int .i64 ((List.length (JoinTree.Kids (List.getD (JoinTree.Kids (List.getD (JoinTree.Kids (List.getD (JoinTree.Kids t) v24 JoinTree.zero)) v241 JoinTree.zero)) v242 JoinTree.zero)) : Nat) : Int)), (24, .int .i64 ((x.1 : Nat) : Int)), (1000, .dref (.named 3) ((List.getD (JoinTree.Kids (List.getD (JoinTree.Kids t) v24 JoinTree.zero)) v241 JoinTree.zero) : JoinTree)), (1023, .int .i64 ((List.length (JoinTree.Kids (List.getD (JoinTree.Kids (List.getD (JoinTree.Kids t) v24 JoinTree.zero)) v241 JoinTree.zero)) : Nat) : Int)), (1024, .int .i64 ((v242 : Nat) : Int)), (2000, .dref (.named 3) ((List.getD (JoinTree.Kids t) v24 JoinTree.zero) : JoinTree)), (2023, .int .i64 ((List.length (JoinTree.Kids (List.getD (JoinTree.Kids t) v24 JoinTree.zero)) : Nat) : Int)), (2024, .int .i64 ((v241 : Nat) : Int)), (3000, .ref 12 1 0), (3023, .int .i64 ((List.length (JoinTree.Kids t) : Nat) : Int)), (3024, .int .i64 ((v24 : Nat) : Int))], [(7, .arr 1 (.int .i64) (x.2 : List Int)), (12, .box 1 [.int .i64 (JoinTree.Leaf t), .data (.slice (.named 3)) ((JoinTree.Kids t) : List JoinTree)])]⟩) (fun x => (List.length x.2 ≤ 8 * v24 + 4 * v241 + 2 * v242 + x.1 ∧ x.1 ≤ 2) ∧ ∃ k, (List.length (JoinTree.Kids (List.getD (JoinTree.Kids (List.getD (JoinTree.Kids (List.getD (JoinTree.Kids t) v24 JoinTree.zero)) v241 JoinTree.zero)) v242 JoinTree.zero))) - x.1 < k ∧ (LeavesOf_l3 t v24 v241 v242 ((List.length (JoinTree.Kids (List.getD (JoinTree.Kids (List.getD (JoinTree.Kids (List.getD (JoinTree.Kids t) v24 JoinTree.zero)) v241 JoinTree.zero)) v242 JoinTree.zero))) - 0 + 1) 0 list2) = LeavesOf_l3 t v24 v241 v242 k x.1 x.2) (fun x => (List.length (JoinTree.Kids (List.getD (JoinTree.Kids (List.getD (JoinTree.Kids (List.getD (JoinTree.Kids t) v24 JoinTree.zero)) v241 JoinTree.zero)) v242 JoinTree.zero))) - x.1) (0, list2) (by kernel_rfl) ⟨?_, _, Nat.lt_succ_self _, rfl⟩ ?_)
                    ·
                     show List.length list2 ≤ 8 * v24 + 4 * v241 + 2 * v242 + 0 ∧ 0 ≤ 2
                     exact ⟨by first | exact Nat.le_refl _ | omega, by omega⟩
                    ·
                     intro x hR
                     obtain ⟨v243, list3⟩ := x
                     obtain ⟨hI3, k651, hk649, e650⟩ := hR
                     replace hI3 : List.length list3 ≤ 8 * v24 + 4 * v241 + 2 * v242 + v243 ∧ v243 ≤ 2 := hI3
                     replace hk649 : (List.length (JoinTree.Kids (List.getD (JoinTree.Kids (List.getD (JoinTree.Kids (List.getD (JoinTree.Kids t) v24 JoinTree.zero)) v241 JoinTree.zero)) v242 JoinTree.zero))) - v243 < k651 := hk649
                     obtain ⟨k651q, rfl⟩ : ∃ k, k651 = k + 1 := ⟨k651 - 1, by omega⟩
                     have hN3 := hK2 (by omega)
                     have hL3 := hN3.le2 hn5
                     have hK3 := fun (h : v243 < (List.getD (List.getD (List.getD t.Kids v24 JoinTree.zero).Kids v241 JoinTree.zero).Kids v242 JoinTree.zero).Kids.length) => hN3.kid hn5 h
                     refine AW.seq (AW.r1U hC4 [0, 1, 23, 24, 25, 1000, 1023, 1024, 2000, 2023, 2024, 3000, 3023, 3024] [7, 12] [(25, .bool (decide (((v243 : Nat) : Int) < ((List.length (JoinTree.Kids (List.getD (JoinTree.Kids (List.getD (JoinTree.Kids (List.getD (JoinTree.Kids t) v24 JoinTree.zero)) v241 JoinTree.zero)) v242 JoinTree.zero)) : Nat) : Int))))] [] ?_)
                     refine AW.seq (AW.cd (decide (((v243 : Nat) : Int) < ((List.length (JoinTree.Kids (List.getD (JoinTree.Kids (List.getD (JoinTree.Kids (List.getD (JoinTree.Kids t) v24 JoinTree.zero)) v241 JoinTree.zero)) v242 JoinTree.zero)) : Nat) : Int))) ?_ ?_)
                     ·
                      intro h652
                      have h652q : ((v243 : Nat) : Int) < ((List.length (JoinTree.Kids (List.getD (JoinTree.Kids (List.getD (JoinTree.Kids (List.getD (JoinTree.Kids t) v24 JoinTree.zero)) v241 JoinTree.zero)) v242 JoinTree.zero)) : Nat) : Int) := (of_decide_eq_true h652)
                      have e653 := e650.trans (Go.Am.bif_t h652)
                      refine AW.kpU [0, 1, 23, 24, 1000, 1023, 1024, 2000, 2023, 2024, 3000, 3023, 3024] [7, 12] [] [] ?_
                      refine AW.skip (AW.seq (AW.block (AW.seq (AW.r1U hC4 [0, 1, 5, 23, 24, 1000, 1023, 1024, 2000, 2023, 2024, 3000, 3023, 3024] [7, 12] [(5, .int .i64 ((v243 : Nat) : Int))] [] ?_))))
                      refine AW.regionO [0, 1, 2, 3, 4, 5, 6, 7, 8] (by rfl) ?_
                      refine AWO.runU hC4 false [] [0, 1, 2, 3, 4, 5, 6] [7, 8] [0, 23, 24, 32, 33, 1000, 1023, 1024, 2000, 2023, 2024, 3000, 3023, 3024] [7, 12]
                       [(32, .dref (.named 3) ((List.getD (JoinTree.Kids (List.getD (JoinTree.Kids (List.getD (JoinTree.Kids (List.getD (JoinTree.Kids t) v24 JoinTree.zero)) v241 JoinTree.zero)) v242 JoinTree.zero)) v243 JoinTree.zero) : JoinTree)), (33, .arr 7 1)] []
                       [(0 ≤ ((v243 : Nat) : Int) ∧ ((v243 : Nat) : Int) < ((List.length (JoinTree.Kids (List.getD (JoinTree.Kids (List.getD (JoinTree.Kids (List.getD (JoinTree.Kids t) v24 JoinTree.zero)) v241 JoinTree.zero)) v242 JoinTree.zero)) : Nat) : Int))] (by rfl) (by kernel_rfl) ?_ ?_
                      ·
                       refine ⟨?_, trivial⟩
                       ·
                        omega
                      refine AWO.call hC4.ty (vs := [.dref (.named 3) ((List.getD (JoinTree.Kids (List.getD (JoinTree.Kids (List.getD (JoinTree.Kids (List.getD (JoinTree.Kids t) v24 JoinTree.zero)) v241 JoinTree.zero)) v242 JoinTree.zero)) v243 JoinTree.zero) : JoinTree), .arr 7 1]) (caps := []) (by rfl) rfl (.inl rfl) (by decide) (by kernel_rfl) (by kernel_rfl) Try.func70 (by kernel_rfl) rfl (by kernel_rfl) ?_
                      intro o5 ho5
                      refine AW.kpU [0, 1, 1000, 1023, 1024, 2000, 2023, 2024, 3000, 3023, 3024, 4000, 4023, 4024] [7, 12] [] [] ?_
                      refine AW.seq (AW.r1U hC5 [0, 1, 1000, 1023, 1024, 2000, 2023, 2024, 3000, 3023, 3024, 4000, 4023, 4024] [7, 12] [] [] ?_)
                      refine AW.seq (AW.seq (AW.r1U hC5 [0, 1, 11, 1000, 1023, 1024, 2000, 2023, 2024, 3000, 3023, 3024, 4000, 4023, 4024] [7, 12] [(11, .bool (((List.length (JoinTree.Kids (List.getD (JoinTree.Kids (List.getD (JoinTree.Kids (List.getD (JoinTree.Kids (List.getD (JoinTree.Kids t) v24 JoinTree.zero)) v241 JoinTree.zero)) v242 JoinTree.zero)) v243 JoinTree.zero)) : Nat) : Int) == 0))] [] ?_))
                      refine AW.cd (((List.length (JoinTree.Kids (List.getD (JoinTree.Kids (List.getD (JoinTree.Kids (List.getD (JoinTree.Kids (List.getD (JoinTree.Kids t) v24 JoinTree.zero)) v241 JoinTree.zero)) v242 JoinTree.zero)) v243 JoinTree.zero)) : Nat) : Int) == 0) ?_ ?_
                      ·
                       intro h656
                       have h656q : ((List.length (JoinTree.Kids (List.getD (JoinTree.Kids (List.getD (JoinTree.Kids (List.getD (JoinTree.Kids (List.getD (JoinTree.Kids t) v24 JoinTree.zero)) v241 JoinTree.zero)) v242 JoinTree.zero)) v243 JoinTree.zero)) : Nat) : Int) = 0 := (Go.Am.beq_pos h656)
                       refine AW.seq (AW.r0U hC5 [4, 1000, 1023, 1024, 2000, 2023, 2024, 3000, 3023, 3024, 4000, 4023, 4024] [7, 12] [(4, .arr 7 1)] [(7, .arr 1 (.int .i64) ((list3 ++ ([(JoinTree.Leaf (List.getD (JoinTree.Kids (List.getD (JoinTree.Kids (List.getD (JoinTree.Kids (List.getD (JoinTree.Kids t) v24 JoinTree.zero)) v241 JoinTree.zero)) v242 JoinTree.zero)) v243 JoinTree.zero))] : List Int)) : List Int))] [(((List.length list3 : Nat) : Int) + ((List.length ([(JoinTree.Leaf (List.getD (JoinTree.Kids (List.getD (JoinTree.Kids (List.getD (JoinTree.Kids (List.getD (JoinTree.Kids t) v24 JoinTree.zero)) v241 JoinTree.zero)) v242 JoinTree.zero)) v243 JoinTree.zero))] : List Int) : Nat) : Int) ≤ 4294967296)] ?_ ?_)
                       ·
                        refine ⟨?_, trivial⟩
                        ·
                         simp only [lens] at *; omega
                       refine AW.ret ?_
                       refine ⟨[.arr 7 1], by kernel_rfl, ?_⟩
                       refine AWO.keep [0, 23, 24, 34, 1000, 1023, 1024, 2000, 2023, 2024, 3000, 3023, 3024] [7, 12] ⟨[(0, .dref (.named 3) ((List.getD (JoinTree.Kids (List.getD (JoinTree.Kids (List.getD (JoinTree.Kids t) v24 JoinTree.zero)) v241 JoinTree.zero)) v242 JoinTree.zero) : JoinTree)), (23, .int .i64 ((List.length (JoinTree.Kids (List.getD (JoinTree.Kids (List.getD (JoinTree.Kids (List.getD (JoinTree.Kids t) v24 JoinTree.zero)) v241 JoinTree.zero)) v242 JoinTree.zero)) : Nat) : Int)), (24, .int .i64 ((v243 : Nat) : Int)), (34, .arr 7 1), (1000, .dref (.named 3) ((List.getD (JoinTree.Kids (List.getD (JoinTree.Kids t) v24 JoinTree.zero)) v241 JoinTree.zero) : JoinTree)), (1023, .int .i64 ((List.length (JoinTree.Kids (List.getD (JoinTree.Kids (List.getD (JoinTree.Kids t) v24 JoinTree.zero)) v241 JoinTree.zero)) : Nat) : Int)), (1024, .int .i64 ((v242 : Nat) : Int)), (2000, .dref (.named 3) ((List.getD (JoinTree.Kids t) v24 JoinTree.zero) : JoinTree)), (2023, .int .i64 ((List.length (JoinTree.Kids (List.getD (JoinTree.Kids t) v24 JoinTree.zero)) : Nat) : Int)), (2024, .int .i64 ((v241 : Nat) : Int)), (3000, .ref 12 1 0), (3023, .int .i64 ((List.length (JoinTree.Kids t) : Nat) : Int)), (3024, .int .i64 ((v24 : Nat) : Int))], [(7, .arr 1 (.int .i64) ((list3 ++ ([(JoinTree.Leaf (List.getD (JoinTree.Kids (List.getD (JoinTree.Kids (List.getD (JoinTree.Kids (List.getD (JoinTree.Kids t) v24 JoinTree.zero)) v241 JoinTree.zero)) v242 JoinTree.zero)) v243 JoinTree.zero))] : List Int)) : List Int)), (12, .box 1 [.int .i64 (JoinTree.Leaf t), .data (.slice (.named 3)) ((JoinTree.Kids t) : List JoinTree)])]⟩ (by kernel_rfl) ?_
                       refine AWO.runU hC4 false [] [8] [] [0, 1, 23, 24, 1000, 1023, 1024, 2000, 2023, 2024, 3000, 3023, 3024] [7, 12]
                        [(1, .arr 7 1)] []
                        [] (by rfl) (by kernel_rfl) ?_ ?_
                       ·
                        exact trivial
                       refine AWO.nil ?_
                       refine AW.r0U hC4 [0, 1, 23, 24, 1000, 1023, 1024, 2000, 2023, 2024, 3000, 3023, 3024] [7, 12] [(24, .int .i64 ((v243 + 1 : Nat) : Int))] [] [(-9223372036854775808 ≤ ((v243 + 1 : Nat) : Int) ∧ ((v243 + 1 : Nat) : Int) ≤ 9223372036854775807)] ?_ ?_
                       ·
                        refine ⟨?_, trivial⟩
                        ·
                         omega
                       refine AW.back (x := (v243, list3)) (v243 + 1, (list3 ++ ([(JoinTree.Leaf (List.getD (JoinTree.Kids (List.getD (JoinTree.Kids (List.getD (JoinTree.Kids (List.getD (JoinTree.Kids t) v24 JoinTree.zero)) v241 JoinTree.zero)) v242 JoinTree.zero)) v243 JoinTree.zero))] : List Int))) (by kernel_rfl) ⟨?_, k651q, ?_, e653⟩ ?_
                       ·
                        show List.length (list3 ++ ([(JoinTree.Leaf (List.getD (JoinTree.Kids (List.getD (JoinTree.Kids (List.getD (JoinTree.Kids (List.getD (JoinTree.Kids t) v24 JoinTree.zero)) v241 JoinTree.zero)) v242 JoinTree.zero)) v243 JoinTree.zero))] : List Int)) ≤ 8 * v24 + 4 * v241 + 2 * v242 + (v243 + 1) ∧ (v243 + 1) ≤ 2
                        (try simp only [List.length_append, List.length_cons, List.length_nil])
                        omega
                       ·
                        show (List.length (JoinTree.Kids (List.getD (JoinTree.Kids (List.getD (JoinTree.Kids (List.getD (JoinTree.Kids t) v24 JoinTree.zero)) v241 JoinTree.zero)) v242 JoinTree.zero))) - (v243 + 1) < k651q
                        omega
                       ·
                        show (List.length (JoinTree.Kids (List.getD (JoinTree.Kids (List.getD (JoinTree.Kids (List.getD (JoinTree.Kids t) v24 JoinTree.zero)) v241 JoinTree.zero)) v242 JoinTree.zero))) - (v243 + 1) < (List.length (JoinTree.Kids (List.getD (JoinTree.Kids (List.getD (JoinTree.Kids (List.getD (JoinTree.Kids t) v24 JoinTree.zero)) v241 JoinTree.zero)) v242 JoinTree.zero))) - v243
                        omega
                      ·
                       intro h657
                       have h657q : ((List.length (JoinTree.Kids (List.getD (JoinTree.Kids (List.getD (JoinTree.Kids (List.getD (JoinTree.Kids (List.getD (JoinTree.Kids t) v24 JoinTree.zero)) v241 JoinTree.zero)) v242 JoinTree.zero)) v243 JoinTree.zero)) : Nat) : Int) ≠ 0 := (Go.Am.beq_neg h657)
                       exfalso
                       have hz := (hK3 (by omega)).last hn5
                       omega
                     ·
                      intro h658
                      have h658q : ¬ (((v243 : Nat) : Int) < ((List.length (JoinTree.Kids (List.getD (JoinTree.Kids (List.getD (JoinTree.Kids (List.getD (JoinTree.Kids t) v24 JoinTree.zero)) v241 JoinTree.zero)) v242 JoinTree.zero)) : Nat) : Int)) := (of_decide_eq_false h658)
                      have e659 := e650.trans (Go.Am.bif_f h658)
                      refine AW.kpU [1, 1000, 1023, 1024, 2000, 2023, 2024, 3000, 3023, 3024] [7, 12] [] [] ?_
                      refine AW.exit ?_
                      refine AW.meet list3 (by kernel_rfl) ⟨?_, e659⟩
                      show List.length list3 ≤ 8 * v24 + 4 * v241 + 2 * v242 + 2
                      omega
                   ·
                    intro list3 hR
                    obtain ⟨hJ3, e660⟩ := hR
                    replace hJ3 : List.length list3 ≤ 8 * v24 + 4 * v241 + 2 * v242 + 2 := hJ3
                    have e661 := e648.trans (Go.Am.then_eq e660)
                    refine AW.seq (AW.r1U hC4 [4, 1000, 1023, 1024, 2000, 2023, 2024, 3000, 3023, 3024] [7, 12] [(4, .arr 7 1)] [] ?_)
                    refine AW.ret ?_
                    refine ⟨list3, [.arr 7 1], by kernel_rfl, by kernel_rfl, ?_, e661⟩
                    show List.length list3 ≤ 8 * v24 + 4 * v241 + 2 * v242 + 2
                    (try simp only [List.length_append, List.length_cons, List.length_nil])
                    omega
                 ·
                  intro v34 hR
                  obtain ⟨hK0, e662⟩ := hR
                  replace hK0 : List.length v34 ≤ 8 * v24 + 4 * v241 + 2 * v242 + 2 := hK0
                  have e663 := e643.trans (Go.Am.then_eq e662)
                  refine AWO.runU hC3 false [] [8] [] [0, 1, 23, 24, 1000, 1023, 1024, 2000, 2023, 2024] [7, 12]
                   [(1, .arr 7 1)] []
                   [] (by rfl) (by kernel_rfl) ?_ ?_
                  ·
                   exact trivial
                  refine AWO.nil ?_
                  refine AW.r0U hC3 [0, 1, 23, 24, 1000, 1023, 1024, 2000, 2023, 2024] [7, 12] [(24, .int .i64 ((v242 + 1 : Nat) : Int))] [] [(-9223372036854775808 ≤ ((v242 + 1 : Nat) : Int) ∧ ((v242 + 1 : Nat) : Int) ≤ 9223372036854775807)] ?_ ?_
                  ·
                   refine ⟨?_, trivial⟩
                   ·
                    omega
                  refine AW.back (x := (v242, list2)) (v242 + 1, v34) (by kernel_rfl) ⟨?_, k641q, ?_, e663⟩ ?_
                  ·
                   show List.length v34 ≤ 8 * v24 + 4 * v241 + 2 * (v242 + 1) ∧ (v242 + 1) ≤ 2
                   (try simp only [List.length_append, List.length_cons, List.length_nil])
                   omega
                  ·
                   show (List.length (JoinTree.Kids (List.getD (JoinTree.Kids (List.getD (JoinTree.Kids t) v24 JoinTree.zero)) v241 JoinTree.zero))) - (v242 + 1) < k641q
                   omega
                  ·
                   show (List.length (JoinTree.Kids (List.getD (JoinTree.Kids (List.getD (JoinTree.Kids t) v24 JoinTree.zero)) v241 JoinTree.zero))) - (v242 + 1) < (List.length (JoinTree.Kids (List.getD (JoinTree.Kids (List.getD (JoinTree.Kids t) v24 JoinTree.zero)) v241 JoinTree.zero))) - v242
                   omega
                ·
                 intro h664
                 have h664q : ¬ (((v242 : Nat) : Int) < ((List.length (JoinTree.Kids (List.getD (JoinTree.Kids (List.getD (JoinTree.Kids t) v24 JoinTree.zero)) v241 JoinTree.zero)) : Nat) : Int)) := (of_decide_eq_false h664)
                 have e665 := e640.trans (Go.Am.bif_f h664)
                 refine AW.kpU [1, 1000, 1023, 1024, 2000, 2023, 2024] [7, 12] [] [] ?_
                 refine AW.exit ?_
                 refine AW.meet list2 (by kernel_rfl) ⟨?_, e665⟩
                 show List.length list2 ≤ 8 * v24 + 4 * v241 + 4
                 omega
              ·
               intro list2 hR
               obtain ⟨hJ2, e666⟩ := hR
               replace hJ2 : List.length list2 ≤ 8 * v24 + 4 * v241 + 4 := hJ2
               have e667 := e638.trans (Go.Am.then_eq e666)
               refine AW.seq (AW.r1U hC3 [4, 1000, 1023, 1024, 2000, 2023, 2024] [7, 12] [(4, .arr 7 1)] [] ?_)
               refine AW.ret ?_
               refine ⟨list2, [.arr 7 1], by kernel_rfl, by kernel_rfl, ?_, e667⟩
               show List.length list2 ≤ 8 * v24 + 4 * v241 + 4
               (try simp only [List.length_append, List.length_cons, List.length_nil])
               omega
            ·
             intro v34 hR
             obtain ⟨hK1, e668⟩ := hR
             replace hK1 : List.length v34 ≤ 8 * v24 + 4 * v241 + 4 := hK1
             have e669 := e633.trans (Go.Am.then_eq e668)
             refine AWO.runU hC2 false [] [8] [] [0, 1, 23, 24, 1000, 1023, 1024] [7, 12]
              [(1, .arr 7 1)] []
              [] (by rfl) (by kernel_rfl) ?_ ?_
             ·
              exact trivial
             refine AWO.nil ?_
             refine AW.r0U hC2 [0, 1, 23, 24, 1000, 1023, 1024] [7, 12] [(24, .int .i64 ((v241 + 1 : Nat) : Int))] [] [(-9223372036854775808 ≤ ((v241 + 1 : Nat) : Int) ∧ ((v241 + 1 : Nat) : Int) ≤ 9223372036854775807)] ?_ ?_
             ·
              refine ⟨?_, trivial⟩
              ·
               omega
             refine AW.back (x := (v241, list1)) (v241 + 1, v34) (by kernel_rfl) ⟨?_, k631q, ?_, e669⟩ ?_
             ·
              show List.length v34 ≤ 8 * v24 + 4 * (v241 + 1) ∧ (v241 + 1) ≤ 2
              (try simp only [List.length_append, List.length_cons, List.length_nil])
              omega
             ·
              show (List.length (JoinTree.Kids (List.getD (JoinTree.Kids t) v24 JoinTree.zero))) - (v241 + 1) < k631q
              omega
             ·
              show (List.length (JoinTree.Kids (List.getD (JoinTree.Kids t) v24 JoinTree.zero))) - (v241 + 1) < (List.length (JoinTree.Kids (List.getD (JoinTree.Kids t) v24 JoinTree.zero))) - v241
              omega
           ·
            intro h670
            have h670q : ¬ (((v241 : Nat) : Int) < ((List.length (JoinTree.Kids (List.getD (JoinTree.Kids t) v24 JoinTree.zero)) : Nat) : Int)) := (of_decide_eq_false h670)
            have e671 := e630.trans (Go.Am.bif_f h670)
            refine AW.kpU [1, 1000, 1023, 1024] [7, 12] [] [] ?_
            refine AW.exit ?_
            refine AW.meet list1 (by kernel_rfl) ⟨?_, e671⟩
            show List.length list1 ≤ 8 * v24 + 8
            omega
         ·
          intro list1 hR
          obtain ⟨hJ1, e672⟩ := hR
          replace hJ1 : List.length list1 ≤ 8 * v24 + 8 := hJ1
          have e673 := e628.trans (Go.Am.then_eq e672)
          refine AW.seq (AW.r1U hC2 [4, 1000, 1023, 1024] [7, 12] [(4, .arr 7 1)] [] ?_)
          refine AW.ret ?_
          refine ⟨list1, [.arr 7 1], by kernel_rfl, by kernel_rfl, ?_, e673⟩
          show List.length list1 ≤ 8 * v24 + 8
          (try simp only [List.length_append, List.length_cons, List.length_nil])
          omega
       ·
        intro v34 hR
        obtain ⟨hK2, e674⟩ := hR
        replace hK2 : List.length v34 ≤ 8 * v24 + 8 := hK2
        have e675 := e623.trans (Go.Am.then_eq e674)
        refine AWO.runU hC1 false [] [8] [] [0, 1, 23, 24] [7, 12]
         [(1, .arr 7 1)] []
         [] (by rfl) (by kernel_rfl) ?_ ?_
        ·
         exact trivial
        refine AWO.nil ?_
        refine AW.r0U hC1 [0, 1, 23, 24] [7, 12] [(24, .int .i64 ((v24 + 1 : Nat) : Int))] [] [(-9223372036854775808 ≤ ((v24 + 1 : Nat) : Int) ∧ ((v24 + 1 : Nat) : Int) ≤ 9223372036854775807)] ?_ ?_
        ·
         refine ⟨?_, trivial⟩
         ·
          omega
        refine AW.back (x := (v24, list)) (v24 + 1, v34) (by kernel_rfl) ⟨?_, k621q, ?_, e675⟩ ?_
        ·
         show List.length v34 ≤ 8 * (v24 + 1) ∧ (v24 + 1) ≤ 2
         (try simp only [List.length_append, List.length_cons, List.length_nil])
         omega
        ·
         show (List.length (JoinTree.Kids t)) - (v24 + 1) < k621q
         omega
        ·
         show (List.length (JoinTree.Kids t)) - (v24 + 1) < (List.length (JoinTree.Kids t)) - v24
         omega
      ·
       intro h676
       have h676q : ¬ (((v24 : Nat) : Int) < ((List.length (JoinTree.Kids t) : Nat) : Int)) := (of_decide_eq_false h676)
       have e677 := e620.trans (Go.Am.bif_f h676)
       refine AW.kpU [1] [7] [] [] ?_
       refine AW.exit ?_
       refine AW.meet list (by kernel_rfl) ⟨?_, e677⟩
       show List.length list ≤ 16
       omega
    ·
     intro list hR
     obtain ⟨hJ0, e678⟩ := hR
     replace hJ0 : List.length list ≤ 16 := hJ0
     have e679 := e618.trans (Go.Am.then_eq e678)
     refine AW.seq (AW.r1U hC1 [4] [7] [(4, .arr 7 1)] [] ?_)
     refine AW.ret ?_
     refine ⟨list, [.arr 7 1], by kernel_rfl, by kernel_rfl, ?_, e679⟩
     show List.length list ≤ 16
     (try simp only [List.length_append, List.length_cons, List.length_nil])
     omega
  ·
   intro v9 hR
   obtain ⟨hK3, e680⟩ := hR
   replace hK3 : List.length v9 ≤ 16 := hK3
   have e681 := e4.trans (Go.Am.then_eq e680)
   refine AWO.runU hC false [] [1] [] [4] [7]
    [(4, .arr 7 1)] []
    [] (by rfl) (by kernel_rfl) ?_ ?_
   ·
    exact trivial
   refine AWO.nil ?_
   exact AW.ret (AW.retE (β := (List Int)) (fun v => [⟨(.slice (.int .i64)), v⟩]) (fun v => []) (v := v9) e681 (by kernel_rfl) rfl rfl)

end
end Go.Proofs.Ytgbapklfgjnggaa
