/-
  A part of the proof of this claim (Ad9): what functions of the program compute, and plain facts of that. No conditions.
-/
import Derived.Test.YtmijmkbnmcmgcaaAd4
import Derived.Test.YtmijmkbnmcmgcaaAdC
import Derived.Test.YtmijmkbnmcmgcaaAnG
set_option linter.all false
namespace Go.Proofs.Ytmijmkbnmcmgcaa
open Go Go.Am
noncomputable section

def concat_l0 (slices : List (List Dep)) : Nat → Nat → Nat → Nat
 | 0, size, v11 => size
 | k + 1, size, v11 => (bif (decide (((v11 : Nat) : Int) < ((List.length slices : Nat) : Int))) then (concat_l0 slices k (size + (List.length (List.getD slices v11 []))) (v11 + 1)) else size)

def concat_l1 (slices : List (List Dep)) : Nat → Nat → (List Dep) → (List Dep)
 | 0, v27, newslice => newslice
 | k + 1, v27, newslice => (bif (decide (((v27 : Nat) : Int) < ((List.length slices : Nat) : Int))) then (concat_l1 slices k (v27 + 1) (newslice ++ (List.getD slices v27 []))) else newslice)

def concat (slices : List (List Dep)) : (List Dep) := (Go.Am.andThen (concat_l0 slices ((List.length slices) - 0 + 1) 0 0) (fun z => (fun (size : Nat) => (bif (decide (0 < (((size : Nat) : Int) - ((0 : Int) - 0)))) then (Go.Am.andThen (concat_l1 slices ((List.length slices) - 0 + 1) 0 (List.take 0 (List.replicate (Int.toNat (((size : Nat) : Int) - ((0 : Int) - 0))) Dep.zero : List Dep))) (fun z => (fun (newslice : List Dep) => newslice) z)) else (Go.Am.andThen (concat_l1 slices ((List.length slices) - 0 + 1) 0 ([] : List Dep)) (fun z => (fun (newslice : List Dep) => newslice) z)))) z))

def concat_sp : FnSpec := mkSpec [.val (.slice (.slice (.named 0)))] [.own (.named 0)] (fun (slices : List (List Dep)) => (List.length slices : Int) ≤ 1000 ∧ (∀ jj : Nat, jj < slices.length → ((List.length (List.getD slices jj []) : Nat) : Int) ≤ 1000000)) (fun (slices : List (List Dep)) => [⟨(.slice (.named 0)), (concat slices)⟩])

theorem concat_ok : FnOK Try.prog 54 concat_sp := by
 have hC : CtxOK Try.prog (mkCtx tyL []) := CtxOK.nil tyOK
 have hC1 := hC.rebase 1000
 refine FnOK.of_body Try.func54 (by kernel_rfl) rfl (C := (mkCtx tyL [])) hC.ty (by kernel_rfl) ?_
 intro (slices : List (List Dep)) hwf hpre E
 have hpre : (List.length slices : Int) ≤ 1000 ∧ (∀ jj : Nat, jj < slices.length → ((List.length (List.getD slices jj []) : Nat) : Int) ≤ 1000000) := hpre
 have hw_slices : Wf ⟨(.slice (.slice (.named 0))), (slices : List (List Dep))⟩ := hwf _ (List.Mem.head _)
 have hl_slices : ((List.length slices : Nat) : Int) ≤ 9223372036854775807 := hw_slices.len
 have e0 : concat slices = concat slices := rfl
 refine AW.seq (AW.r1U hC [0] [] [] [] ?_)
 refine AW.seq (AW.r1U hC [0, 3] [] [(3, .int .i64 0)] [] ?_)
 refine AW.seq (AW.seq (AW.r1U hC [0, 3, 9, 10, 11] [] [(9, .data (.slice (.slice (.named 0))) (slices : List (List Dep))), (10, .int .i64 ((List.length slices : Nat) : Int)), (11, .int .i64 0)] [] ?_))
 refine AW.cutQ (α := Nat) (fun x => ⟨[(0, .data (.slice (.slice (.named 0))) (slices : List (List Dep))), (3, .int .i64 ((x : Nat) : Int))], []⟩) (fun x => ((x : Int) ≤ 1000000000) ∧ (concat_l0 slices ((List.length slices) - 0 + 1) 0 0) = x) ?_ ?_
 ·
  skip
  refine AW.block (AW.loop (α := Nat × Nat) (fun x => ⟨[(0, .data (.slice (.slice (.named 0))) (slices : List (List Dep))), (3, .int .i64 ((x.1 : Nat) : Int)), (9, .data (.slice (.slice (.named 0))) (slices : List (List Dep))), (10, .int .i64 ((List.length slices : Nat) : Int)), (11, .int .i64 ((x.2 : Nat) : Int))], []⟩) (fun x => ((x.1 : Int) ≤ 1000000 * x.2 ∧ x.2 ≤ List.length slices) ∧ ∃ k, (List.length slices) - x.2 < k ∧ (concat_l0 slices ((List.length slices) - 0 + 1) 0 0) = concat_l0 slices k x.1 x.2) (fun x => (List.length slices) - x.2) (0, 0) (by kernel_rfl) ⟨?_, _, Nat.lt_succ_self _, rfl⟩ ?_)
  ·
   show (0 : Int) ≤ 1000000 * 0 ∧ 0 ≤ List.length slices
   refine ⟨?_, ?_⟩ <;> first | omega | simp
  ·
   intro x hR
   obtain ⟨size, v11⟩ := x
   obtain ⟨hI0, k21, hk19, e20⟩ := hR
   replace hI0 : (size : Int) ≤ 1000000 * v11 ∧ v11 ≤ List.length slices := hI0
   replace hk19 : (List.length slices) - v11 < k21 := hk19
   obtain ⟨k21q, rfl⟩ : ∃ k, k21 = k + 1 := ⟨k21 - 1, by omega⟩
   have hl := hpre.2 v11
   refine AW.seq (AW.r1U hC [0, 3, 9, 10, 11, 12] [] [(12, .bool (decide (((v11 : Nat) : Int) < ((List.length slices : Nat) : Int))))] [] ?_)
   refine AW.seq (AW.cd (decide (((v11 : Nat) : Int) < ((List.length slices : Nat) : Int))) ?_ ?_)
   ·
    intro h22
    have h22q : ((v11 : Nat) : Int) < ((List.length slices : Nat) : Int) := (of_decide_eq_true h22)
    have e23 := e20.trans (Go.Am.bif_t h22)
    refine AW.kpU [0, 3, 9, 10, 11] [] [] [] ?_
    refine AW.skip (AW.seq (AW.block (AW.seq (AW.r0U hC [0, 3, 5, 9, 10, 11] [] [(5, .data (.slice (.named 0)) ((List.getD slices v11 []) : List Dep))] [] [(0 ≤ ((v11 : Nat) : Int) ∧ ((v11 : Nat) : Int) < ((List.length slices : Nat) : Int))] ?_ ?_))))
    ·
     refine ⟨?_, trivial⟩
     ·
      omega
    refine AW.seq (AW.r0U hC [0, 3, 9, 10, 11] [] [(3, .int .i64 ((size + (List.length (List.getD slices v11 [])) : Nat) : Int))] [] [(-9223372036854775808 ≤ ((size + (List.length (List.getD slices v11 [])) : Nat) : Int) ∧ ((size + (List.length (List.getD slices v11 [])) : Nat) : Int) ≤ 9223372036854775807)] ?_ ?_)
    ·
     refine ⟨?_, trivial⟩
     ·
      omega
    refine AW.seq (AW.r1U hC [0, 3, 9, 10, 11, 20] [] [(20, .bool (decide (((size + (List.length (List.getD slices v11 [])) : Nat) : Int) < 0)))] [] ?_)
    refine AW.cd (decide (((size + (List.length (List.getD slices v11 [])) : Nat) : Int) < 0)) ?_ ?_
    ·
     intro h24
     have h24q : ((size + (List.length (List.getD slices v11 [])) : Nat) : Int) < 0 := (of_decide_eq_true h24)
     exfalso
     omega
    ·
     intro h25
     have h25q : ¬ (((size + (List.length (List.getD slices v11 [])) : Nat) : Int) < 0) := (of_decide_eq_false h25)
     refine AW.kpU [0, 3, 9, 10, 11] [] [] [] ?_
     refine AW.skip (AW.r0U hC [0, 3, 9, 10, 11] [] [(11, .int .i64 ((v11 + 1 : Nat) : Int))] [] [(-9223372036854775808 ≤ ((v11 + 1 : Nat) : Int) ∧ ((v11 + 1 : Nat) : Int) ≤ 9223372036854775807)] ?_ ?_)
     ·
      refine ⟨?_, trivial⟩
      ·
       omega
     refine AW.back (x := (size, v11)) (size + (List.length (List.getD slices v11 [])), v11 + 1) (by kernel_rfl) ⟨?_, k21q, ?_, e23⟩ ?_
     ·
      show ((size + (List.length (List.getD slices v11 []))) : Int) ≤ 1000000 * (v11 + 1) ∧ (v11 + 1) ≤ List.length slices
      refine ⟨?_, ?_⟩ <;> first | omega | (simp only [lens] at *; omega)
     ·
      show (List.length slices) - (v11 + 1) < k21q
      omega
     ·
      show (List.length slices) - (v11 + 1) < (List.length slices) - v11
      omega
   ·
    intro h26
    have h26q : ¬ (((v11 : Nat) : Int) < ((List.length slices : Nat) : Int)) := (of_decide_eq_false h26)
    have e27 := e20.trans (Go.Am.bif_f h26)
    refine AW.kpU [0, 3] [] [] [] ?_
    refine AW.exit ?_
    refine AW.meet size (by kernel_rfl) ⟨?_, e27⟩
    show (size : Int) ≤ 1000000000
    omega
 ·
  intro size hR
  obtain ⟨hJ0, e28⟩ := hR
  replace hJ0 : (size : Int) ≤ 1000000000 := hJ0
  have e29 := e0.trans (Go.Am.then_eq e28)
  refine AW.seq (AW.regionO [0, 1, 2] (by rfl) ?_)
  refine AWO.runU hC false [] [0] [1, 2] [0, 23] []
   [(23, .int .i64 ((size : Nat) : Int))] []
   [] (by rfl) (by kernel_rfl) ?_ ?_
  ·
   exact trivial
  refine AWO.call hC.ty (vs := [.nilsl, .int .i64 ((size : Nat) : Int)]) (caps := []) (by rfl) rfl (.inl rfl) (by decide) (by kernel_rfl) (by kernel_rfl) Try.func61 (by kernel_rfl) rfl (by kernel_rfl) ?_
  intro o1 ho1
  refine AW.kpU [0, 1, 1000] [] [] [] ?_
  refine AW.seq (AW.r1U hC1 [0, 1, 1000] [] [] [] ?_)
  refine AW.seq (AW.seq (AW.r1U hC1 [0, 1, 6, 1000] [] [(6, .bool (decide (((size : Nat) : Int) < 0)))] [] ?_))
  refine AW.cd (decide (((size : Nat) : Int) < 0)) ?_ ?_
  ·
   intro h36
   have h36q : ((size : Nat) : Int) < 0 := (of_decide_eq_true h36)
   exfalso
   omega
  ·
   intro h37
   have h37q : ¬ (((size : Nat) : Int) < 0) := (of_decide_eq_false h37)
   refine AW.kpU [0, 1, 1000] [] [] [] ?_
   refine AW.skip (AW.seq (AW.seq (AW.r0U hC1 [0, 1, 1000] [] [(1, .int .i64 (((size : Nat) : Int) - ((0 : Int) - 0)))] [] [(-9223372036854775808 ≤ ((0 : Int) - 0) ∧ ((0 : Int) - 0) ≤ 9223372036854775807), (-9223372036854775808 ≤ (((size : Nat) : Int) - ((0 : Int) - 0)) ∧ (((size : Nat) : Int) - ((0 : Int) - 0)) ≤ 9223372036854775807)] ?_ ?_)))
   ·
    refine ⟨?_, ?_, trivial⟩
    ·
     omega
    ·
     omega
   refine AW.seq (AW.r1U hC1 [0, 1, 16, 1000] [] [(16, .bool (decide (0 < (((size : Nat) : Int) - ((0 : Int) - 0)))))] [] ?_)
   refine AW.cd (decide (0 < (((size : Nat) : Int) - ((0 : Int) - 0)))) ?_ ?_
   ·
    intro h38
    have h38q : 0 < (((size : Nat) : Int) - ((0 : Int) - 0)) := (of_decide_eq_true h38)
    have e39 := e29.trans (Go.Am.bif_t h38)
    refine AW.r0U hC1 [0, 1000] [4088] [(0, .sub 4088 1 0 0)] [(4088, .arr 1 (.named 0) ((List.replicate (Int.toNat (((size : Nat) : Int) - ((0 : Int) - 0))) Dep.zero : List Dep) : List Dep))] [((0 : Int) = 0), (0 < (((size : Nat) : Int) - ((0 : Int) - 0)) ∧ (((size : Nat) : Int) - ((0 : Int) - 0)) ≤ 4294967296), (0 ≤ (0 : Int) ∧ (0 : Int) ≤ ((List.length (List.replicate (Int.toNat (((size : Nat) : Int) - ((0 : Int) - 0))) Dep.zero : List Dep) : Nat) : Int))] ?_ ?_
    ·
     refine ⟨?_, ?_, ?_, trivial⟩
     ·
      omega
     ·
      omega
     ·
      omega
    refine AW.seq (AW.r1U hC1 [4, 1000] [4088] [(4, .sub 4088 1 0 0)] [] ?_)
    refine AW.ret ?_
    refine ⟨[.sub 4088 1 0 0], by kernel_rfl, ?_⟩
    refine AWO.keep [0, 24] [4088] ⟨[(0, .data (.slice (.slice (.named 0))) (slices : List (List Dep))), (24, .sub 4088 1 0 0)], [(4088, .arr 1 (.named 0) ((List.replicate (Int.toNat (((size : Nat) : Int) - ((0 : Int) - 0))) Dep.zero : List Dep) : List Dep))]⟩ (by kernel_rfl) ?_
    refine AWO.runU hC false [] [2] [] [0, 6] [4088]
     [(6, .sub 4088 1 0 0)] []
     [] (by rfl) (by kernel_rfl) ?_ ?_
    ·
     exact trivial
    refine AWO.nil ?_
    refine AW.seq (AW.seq (AW.r1U hC [6, 25, 26, 27] [4088] [(25, .data (.slice (.slice (.named 0))) (slices : List (List Dep))), (26, .int .i64 ((List.length slices : Nat) : Int)), (27, .int .i64 0)] [] ?_))
    refine AW.trunc 6 4088 1 0 (.named 0) ((List.replicate (Int.toNat (((size : Nat) : Int) - ((0 : Int) - 0))) Dep.zero : List Dep) : List Dep) (by kernel_rfl) (by kernel_rfl) ?_
    refine AW.kpU [6, 25, 26, 27] [4088] [(6, .arr 4088 1)] [(4088, .arr 1 (.named 0) ((List.take 0 (List.replicate (Int.toNat (((size : Nat) : Int) - ((0 : Int) - 0))) Dep.zero : List Dep)) : List Dep))] ?_
    refine AW.cutQ (α := (List Dep)) (fun x => ⟨[(6, .arr 4088 1)], [(4088, .arr 1 (.named 0) (x : List Dep))]⟩) (fun x => (True) ∧ (concat_l1 slices ((List.length slices) - 0 + 1) 0 (List.take 0 (List.replicate (Int.toNat (((size : Nat) : Int) - ((0 : Int) - 0))) Dep.zero : List Dep))) = x) ?_ ?_
    ·
     skip
     refine AW.block (AW.loop (α := Nat × (List Dep)) (fun x => ⟨[(6, .arr 4088 1), (25, .data (.slice (.slice (.named 0))) (slices : List (List Dep))), (26, .int .i64 ((List.length slices : Nat) : Int)), (27, .int .i64 ((x.1 : Nat) : Int))], [(4088, .arr 1 (.named 0) (x.2 : List Dep))]⟩) (fun x => (((List.length x.2 : Nat) : Int) ≤ 1000000 * x.1) ∧ ∃ k, (List.length slices) - x.1 < k ∧ (concat_l1 slices ((List.length slices) - 0 + 1) 0 (List.take 0 (List.replicate (Int.toNat (((size : Nat) : Int) - ((0 : Int) - 0))) Dep.zero : List Dep))) = concat_l1 slices k x.1 x.2) (fun x => (List.length slices) - x.1) (0, (List.take 0 (List.replicate (Int.toNat (((size : Nat) : Int) - ((0 : Int) - 0))) Dep.zero : List Dep))) (by kernel_rfl) ⟨?_, _, Nat.lt_succ_self _, rfl⟩ ?_)
     ·
      show ((List.length (List.take 0 (List.replicate (Int.toNat (((size : Nat) : Int) - ((0 : Int) - 0))) Dep.zero : List Dep)) : Nat) : Int) ≤ 1000000 * 0
      simp
     ·
      intro x hR
      obtain ⟨v27, newslice⟩ := x
      obtain ⟨hI1, k54, hk52, e53⟩ := hR
      replace hI1 : ((List.length newslice : Nat) : Int) ≤ 1000000 * v27 := hI1
      replace hk52 : (List.length slices) - v27 < k54 := hk52
      obtain ⟨k54q, rfl⟩ : ∃ k, k54 = k + 1 := ⟨k54 - 1, by omega⟩
      have hl2 := hpre.2 v27
      refine AW.seq (AW.r1U hC [6, 25, 26, 27, 28] [4088] [(28, .bool (decide (((v27 : Nat) : Int) < ((List.length slices : Nat) : Int))))] [] ?_)
      refine AW.seq (AW.cd (decide (((v27 : Nat) : Int) < ((List.length slices : Nat) : Int))) ?_ ?_)
      ·
       intro h55
       have h55q : ((v27 : Nat) : Int) < ((List.length slices : Nat) : Int) := (of_decide_eq_true h55)
       have e56 := e53.trans (Go.Am.bif_t h55)
       refine AW.kpU [6, 25, 26, 27] [4088] [] [] ?_
       refine AW.skip (AW.seq (AW.block (AW.seq (AW.r0U hC [6, 8, 25, 26, 27] [4088] [(8, .data (.slice (.named 0)) ((List.getD slices v27 []) : List Dep))] [] [(0 ≤ ((v27 : Nat) : Int) ∧ ((v27 : Nat) : Int) < ((List.length slices : Nat) : Int))] ?_ ?_))))
       ·
        refine ⟨?_, trivial⟩
        ·
         omega
       refine AW.r0U hC [6, 25, 26, 27] [4088] [] [(4088, .arr 1 (.named 0) ((newslice ++ (List.getD slices v27 [])) : List Dep))] [(((List.length newslice : Nat) : Int) + ((List.length (List.getD slices v27 []) : Nat) : Int) ≤ 4294967296)] ?_ ?_
       ·
        refine ⟨?_, trivial⟩
        ·
         omega
       refine AW.r0U hC [6, 25, 26, 27] [4088] [(27, .int .i64 ((v27 + 1 : Nat) : Int))] [] [(-9223372036854775808 ≤ ((v27 + 1 : Nat) : Int) ∧ ((v27 + 1 : Nat) : Int) ≤ 9223372036854775807)] ?_ ?_
       ·
        refine ⟨?_, trivial⟩
        ·
         omega
       refine AW.back (x := (v27, newslice)) (v27 + 1, (newslice ++ (List.getD slices v27 []))) (by kernel_rfl) ⟨?_, k54q, ?_, e56⟩ ?_
       ·
        show ((List.length (newslice ++ (List.getD slices v27 [])) : Nat) : Int) ≤ 1000000 * (v27 + 1)
        simp only [List.length_append]
        omega
       ·
        show (List.length slices) - (v27 + 1) < k54q
        omega
       ·
        show (List.length slices) - (v27 + 1) < (List.length slices) - v27
        omega
      ·
       intro h57
       have h57q : ¬ (((v27 : Nat) : Int) < ((List.length slices : Nat) : Int)) := (of_decide_eq_false h57)
       have e58 := e53.trans (Go.Am.bif_f h57)
       refine AW.kpU [6] [4088] [] [] ?_
       refine AW.exit ?_
       refine AW.meet newslice (by kernel_rfl) ⟨?_, e58⟩
       show True
       exact trivial
    ·
     intro newslice hR
     obtain ⟨hJ1, e59⟩ := hR
     replace hJ1 : True := hJ1
     have e60 := e39.trans (Go.Am.then_eq e59)
     refine AW.seq (AW.r1U hC [2] [4088] [(2, .arr 4088 1)] [] ?_)
     exact AW.ret (AW.retE (β := (List Dep)) (fun v => [⟨(.slice (.named 0)), v⟩]) (fun v => []) (v := newslice) e60 (by kernel_rfl) rfl rfl)
   ·
    intro h61
    have h61q : ¬ (0 < (((size : Nat) : Int) - ((0 : Int) - 0))) := (of_decide_eq_false h61)
    have e62 := e29.trans (Go.Am.bif_f h61)
    refine AW.kpU [0, 1000] [] [] [] ?_
    refine AW.skip (AW.seq (AW.r1U hC1 [4, 1000] [] [(4, .nilsl)] [] ?_))
    refine AW.ret ?_
    refine ⟨[.nilsl], by kernel_rfl, ?_⟩
    refine AWO.keep [0, 24] [] ⟨[(0, .data (.slice (.slice (.named 0))) (slices : List (List Dep))), (24, .nilsl)], []⟩ (by kernel_rfl) ?_
    refine AWO.runU hC false [] [2] [] [0, 6] []
     [(6, .nilsl)] []
     [] (by rfl) (by kernel_rfl) ?_ ?_
    ·
     exact trivial
    refine AWO.nil ?_
    refine AW.seq (AW.seq (AW.r1U hC [6, 25, 26, 27] [] [(25, .data (.slice (.slice (.named 0))) (slices : List (List Dep))), (26, .int .i64 ((List.length slices : Nat) : Int)), (27, .int .i64 0)] [] ?_))
    refine AW.adopt 6 132 (.named 0) (by kernel_rfl) (by kernel_rfl) ?_
    refine AW.kp [6, 25, 26, 27] [132] ⟨[(6, .arr 132 1), (25, .data (.slice (.slice (.named 0))) (slices : List (List Dep))), (26, .int .i64 ((List.length slices : Nat) : Int)), (27, .int .i64 0)], [(132, .arr 1 (.named 0) (([] : List Dep) : List Dep))]⟩ ?_
    refine AW.cutQ (α := (List Dep)) (fun x => ⟨[(6, .arr 132 1)], [(132, .arr 1 (.named 0) (x : List Dep))]⟩) (fun x => (True) ∧ (concat_l1 slices ((List.length slices) - 0 + 1) 0 ([] : List Dep)) = x) ?_ ?_
    ·
     skip
     refine AW.block (AW.loop (α := Nat × (List Dep)) (fun x => ⟨[(6, .arr 132 1), (25, .data (.slice (.slice (.named 0))) (slices : List (List Dep))), (26, .int .i64 ((List.length slices : Nat) : Int)), (27, .int .i64 ((x.1 : Nat) : Int))], [(132, .arr 1 (.named 0) (x.2 : List Dep))]⟩) (fun x => (((List.length x.2 : Nat) : Int) ≤ 1000000 * x.1) ∧ ∃ k, (List.length slices) - x.1 < k ∧ (concat_l1 slices ((List.length slices) - 0 + 1) 0 ([] : List Dep)) = concat_l1 slices k x.1 x.2) (fun x => (List.length slices) - x.1) (0, ([] : List Dep)) (by kernel_rfl) ⟨?_, _, Nat.lt_succ_self _, rfl⟩ ?_)
     ·
      show ((List.length ([] : List Dep) : Nat) : Int) ≤ 1000000 * 0
      simp
     ·
      intro x hR
      obtain ⟨v27, newslice⟩ := x
      obtain ⟨hI1, k81, hk79, e80⟩ := hR
      replace hI1 : ((List.length newslice : Nat) : Int) ≤ 1000000 * v27 := hI1
      replace hk79 : (List.length slices) - v27 < k81 := hk79
      obtain ⟨k81q, rfl⟩ : ∃ k, k81 = k + 1 := ⟨k81 - 1, by omega⟩
      have hl2 := hpre.2 v27
      refine AW.seq (AW.r1U hC [6, 25, 26, 27, 28] [132] [(28, .bool (decide (((v27 : Nat) : Int) < ((List.length slices : Nat) : Int))))] [] ?_)
      refine AW.seq (AW.cd (decide (((v27 : Nat) : Int) < ((List.length slices : Nat) : Int))) ?_ ?_)
      ·
       intro h82
       have h82q : ((v27 : Nat) : Int) < ((List.length slices : Nat) : Int) := (of_decide_eq_true h82)
       have e83 := e80.trans (Go.Am.bif_t h82)
       refine AW.kpU [6, 25, 26, 27] [132] [] [] ?_
       refine AW.skip (AW.seq (AW.block (AW.seq (AW.r0U hC [6, 8, 25, 26, 27] [132] [(8, .data (.slice (.named 0)) ((List.getD slices v27 []) : List Dep))] [] [(0 ≤ ((v27 : Nat) : Int) ∧ ((v27 : Nat) : Int) < ((List.length slices : Nat) : Int))] ?_ ?_))))
       ·
        refine ⟨?_, trivial⟩
        ·
         omega
       refine AW.r0U hC [6, 25, 26, 27] [132] [] [(132, .arr 1 (.named 0) ((newslice ++ (List.getD slices v27 [])) : List Dep))] [(((List.length newslice : Nat) : Int) + ((List.length (List.getD slices v27 []) : Nat) : Int) ≤ 4294967296)] ?_ ?_
       ·
        refine ⟨?_, trivial⟩
        ·
         omega
       refine AW.r0U hC [6, 25, 26, 27] [132] [(27, .int .i64 ((v27 + 1 : Nat) : Int))] [] [(-9223372036854775808 ≤ ((v27 + 1 : Nat) : Int) ∧ ((v27 + 1 : Nat) : Int) ≤ 9223372036854775807)] ?_ ?_
       ·
        refine ⟨?_, trivial⟩
        ·
         omega
       refine AW.back (x := (v27, newslice)) (v27 + 1, (newslice ++ (List.getD slices v27 []))) (by kernel_rfl) ⟨?_, k81q, ?_, e83⟩ ?_
       ·
        show ((List.length (newslice ++ (List.getD slices v27 [])) : Nat) : Int) ≤ 1000000 * (v27 + 1)
        simp only [List.length_append]
        omega
       ·
        show (List.length slices) - (v27 + 1) < k81q
        omega
       ·
        show (List.length slices) - (v27 + 1) < (List.length slices) - v27
        omega
      ·
       intro h84
       have h84q : ¬ (((v27 : Nat) : Int) < ((List.length slices : Nat) : Int)) := (of_decide_eq_false h84)
       have e85 := e80.trans (Go.Am.bif_f h84)
       refine AW.kpU [6] [132] [] [] ?_
       refine AW.exit ?_
       refine AW.meet newslice (by kernel_rfl) ⟨?_, e85⟩
       show True
       exact trivial
    ·
     intro newslice hR
     obtain ⟨hJ1, e86⟩ := hR
     replace hJ1 : True := hJ1
     have e87 := e62.trans (Go.Am.then_eq e86)
     refine AW.seq (AW.r1U hC [2] [132] [(2, .arr 132 1)] [] ?_)
     exact AW.ret (AW.retE (β := (List Dep)) (fun v => [⟨(.slice (.named 0)), v⟩]) (fun v => []) (v := newslice) e87 (by kernel_rfl) rfl rfl)

end
end Go.Proofs.Ytmijmkbnmcmgcaa
