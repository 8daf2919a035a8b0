/-
  A part of the proof of this claim (AdA1): what functions of the program compute, and plain facts of that. No conditions.
-/
import Derived.Test.YtmijmkbnmcmgcaaAdP
import Derived.Test.YtmijmkbnmcmgcaaAnF
set_option linter.all false
namespace Go.Proofs.Ytmijmkbnmcmgcaa
open Go Go.Am
noncomputable section

theorem cc {α : Type} (l : List α) (i : Nat) : [List.take i (List.drop 0 l), List.take (List.length l - (i + 1)) (List.drop (i + 1) l)] = [List.take i l, List.drop (i + 1) l] := by
 rw [List.drop_zero, List.take_of_length_le (l := List.drop (i + 1) l) (by rw [List.length_drop]; exact Nat.le_refl _)]


def iMinCover_l1 (fds : List Dep) (width : Int) (v21 : Nat) : Nat → Nat → (List Dep) → (List Dep)
 | 0, v26, list1 => list1
 | k + 1, v26, list1 => (bif (decide (((v26 : Nat) : Int) < width)) then (bif (bif (contains (Dep.To (List.getD fds v21 Dep.zero)) ((1 : Int) * 2 ^ v26)) then (!(contains (Dep.From (List.getD fds v21 Dep.zero)) ((1 : Int) * 2 ^ v26))) else false) then (iMinCover_l1 fds width v21 k (v26 + 1) (list1 ++ ([(Dep.mk (Dep.From (List.getD fds v21 Dep.zero)) ((1 : Int) * 2 ^ v26))] : List Dep))) else (iMinCover_l1 fds width v21 k (v26 + 1) list1)) else list1)

def iMinCover_l0 (fds : List Dep) (width : Int) : Nat → Nat → (List Dep) → (List Dep)
 | 0, v21, list => list
 | k + 1, v21, list => (bif (decide (((v21 : Nat) : Int) < ((List.length fds : Nat) : Int))) then (Go.Am.andThen (iMinCover_l1 fds width v21 (Int.toNat (width - ((0 : Nat) : Int)) + 1) 0 list) (fun z => (fun (list1 : List Dep) => (iMinCover_l0 fds width k (v21 + 1) list1)) z)) else list)

def iMinCover_l3 (width : Int) (v53 : Nat) : Nat → Nat → (List Dep) → (List Dep)
 | 0, v57, list2 => list2
 | k + 1, v57, list2 => (bif (decide (((v57 : Nat) : Int) < width)) then (bif (bif (!(bif ((bits .andNot .i64 (Dep.From (List.getD list2 v53 Dep.zero)) ((1 : Int) * 2 ^ v57)) == (Dep.From (List.getD list2 v53 Dep.zero))) then (bif ((Dep.To (List.getD list2 v53 Dep.zero)) == (Dep.To (List.getD list2 v53 Dep.zero))) then true else false) else false)) then (iimplies list2 (Dep.mk (bits .andNot .i64 (Dep.From (List.getD list2 v53 Dep.zero)) ((1 : Int) * 2 ^ v57)) (Dep.To (List.getD list2 v53 Dep.zero)))) else false) then (iMinCover_l3 width v53 k (v57 + 1) (List.set list2 v53 (Dep.mk (bits .andNot .i64 (Dep.From (List.getD list2 v53 Dep.zero)) ((1 : Int) * 2 ^ v57)) (Dep.To (List.getD list2 v53 Dep.zero))))) else (iMinCover_l3 width v53 k (v57 + 1) list2)) else list2)

def iMinCover_l2 (width : Int) (list : List Dep) : Nat → Nat → (List Dep) → (List Dep)
 | 0, v53, list1 => list1
 | k + 1, v53, list1 => (bif (decide (((v53 : Nat) : Int) < ((List.length list : Nat) : Int))) then (Go.Am.andThen (iMinCover_l3 width v53 (Int.toNat (width - ((0 : Nat) : Int)) + 1) 0 list1) (fun z => (fun (list2 : List Dep) => (iMinCover_l2 width list k (v53 + 1) list2)) z)) else list1)

def iMinCover_l4 : Nat → Nat → (List Dep) → (List Dep)
 | 0, i, list2 => list2
 | k + 1, i, list2 => (bif (decide (((i : Nat) : Int) < ((List.length list2 : Nat) : Int))) then (bif (iimplies (concat ([(List.take i (List.drop 0 list2)), (List.take (List.length list2 - (i + 1)) (List.drop (i + 1) list2))] : List (List Dep))) (List.getD list2 i Dep.zero)) then (iMinCover_l4 k i (concat ([(List.take i (List.drop 0 list2)), (List.take (List.length list2 - (i + 1)) (List.drop (i + 1) list2))] : List (List Dep)))) else (iMinCover_l4 k (i + 1) list2)) else list2)

def iMinCover (fds : List Dep) (width : Int) : (List Dep) := (bif (!(ValidDependencies fds width)) then ([] : List Dep) else (Go.Am.andThen (iMinCover_l0 fds width ((List.length fds) - 0 + 1) 0 ([] : List Dep)) (fun z => (fun (list : List Dep) => (Go.Am.andThen (iMinCover_l2 width list ((List.length list) - 0 + 1) 0 list) (fun z => (fun (list1 : List Dep) => (Go.Am.andThen (iMinCover_l4 (List.length list1 - 0 + 1) 0 list1) (fun z => (fun (list2 : List Dep) => list2) z))) z))) z)))

def iMinCover_sp : FnSpec := mkSpec [.val (.slice (.named 0)), .val (.int .i64)] [.own (.named 0)] (fun (fds : List Dep) (width : Int) => True) (fun (fds : List Dep) (width : Int) => [⟨(.slice (.named 0)), (iMinCover fds width)⟩])

theorem iMinCover_ok : FnOK Try.prog 31 iMinCover_sp := by
 have hC : CtxOK Try.prog { (mkCtx tyL [(18, ValidDependencies_sp), (46, contains_sp), (53, iimplies_sp), (54, concat_sp)]) with lendv := true } := CtxOK.lend (CtxOK.cons ValidDependencies_ok (CtxOK.cons contains_ok (CtxOK.cons iimplies_ok (CtxOK.cons concat_ok (CtxOK.nil tyOK)))))
 have hM : Try.prog.follows .mixedOrders = true := Try.checked.mixed
 refine FnOK.of_body Try.func31 (by kernel_rfl) rfl (C := { (mkCtx tyL [(18, ValidDependencies_sp), (46, contains_sp), (53, iimplies_sp), (54, concat_sp)]) with lendv := true }) hC.ty (by kernel_rfl) ?_
 intro (fds : List Dep) (width : Int) hwf hpre E
 have hpre : True := hpre
 have hw_fds : Wf ⟨(.slice (.named 0)), (fds : List Dep)⟩ := hwf _ (List.Mem.head _)
 have hl_fds : ((List.length fds : Nat) : Int) ≤ 9223372036854775807 := hw_fds.len
 have hw_width : Wf ⟨(.int .i64), (width : Int)⟩ := hwf _ (List.Mem.tail _ (List.Mem.head _))
 have hr_width : -9223372036854775808 ≤ width ∧ width ≤ 9223372036854775807 := hw_width.int_inv
 have e0 : iMinCover fds width = iMinCover fds width := rfl
 refine AW.seq (AW.r1U hC [0, 1] [] [] [] ?_)
 refine AW.seq (AW.seq (AW.r0U hC [0, 1, 18] [] [(18, .bool (!(ValidDependencies fds width)))] [] [(True)] ?_ ?_))
 ·
  refine ⟨?_, trivial⟩
  ·
   trivial
 refine AW.cd (!(ValidDependencies fds width)) ?_ ?_
 ·
  intro h1
  have h1q : (ValidDependencies fds width) = false := (Go.Am.not_pos h1)
  have e2 := e0.trans (Go.Am.bif_t h1)
  refine AW.seq (AW.r1 hC [4] [] ⟨[(4, .nilsl)], []⟩ ?_)
  exact AW.ret (AW.retE (β := (List Dep)) (fun v => [⟨(.slice (.named 0)), v⟩]) (fun v => []) (v := ([] : List Dep)) e2 (by kernel_rfl) rfl rfl)
 ·
  intro h3
  have h3q : (ValidDependencies fds width) = true := (Go.Am.not_neg h3)
  have e4 := e0.trans (Go.Am.bif_f h3)
  refine AW.kpU [0, 1] [] [] [] ?_
  refine AW.skip (AW.seq ?_)
  obtain ⟨hw6, hl8, hok⟩ := deps_ok h3q
  refine AW.r1U hC [0, 1, 5] [] [(5, .nilsl)] [] ?_
  refine AW.seq (AW.seq (AW.r1U hC [1, 5, 19, 20, 21] [] [(19, .data (.slice (.named 0)) (fds : List Dep)), (20, .int .i64 ((List.length fds : Nat) : Int)), (21, .int .i64 0)] [] ?_))
  refine AW.adopt 5 22 (.named 0) (by kernel_rfl) (by kernel_rfl) ?_
  refine AW.kp [1, 5, 19, 20, 21] [22] ⟨[(1, .int .i64 width), (5, .arr 22 1), (19, .data (.slice (.named 0)) (fds : List Dep)), (20, .int .i64 ((List.length fds : Nat) : Int)), (21, .int .i64 0)], [(22, .arr 1 (.named 0) (([] : List Dep) : List Dep))]⟩ ?_
  refine AW.cutQ (α := (List Dep)) (fun x => ⟨[(1, .int .i64 width), (5, .arr 22 1)], [(22, .arr 1 (.named 0) (x : List Dep))]⟩) (fun x => (OKL x ∧ ((List.length x : Nat) : Int) ≤ 48) ∧ (iMinCover_l0 fds width ((List.length fds) - 0 + 1) 0 ([] : List Dep)) = x) ?_ ?_
  ·
   skip
   refine AW.block (AW.loop (α := Nat × (List Dep)) (fun x => ⟨[(1, .int .i64 width), (5, .arr 22 1), (19, .data (.slice (.named 0)) (fds : List Dep)), (20, .int .i64 ((List.length fds : Nat) : Int)), (21, .int .i64 ((x.1 : Nat) : Int))], [(22, .arr 1 (.named 0) (x.2 : List Dep))]⟩) (fun x => (OKL x.2 ∧ ((List.length x.2 : Nat) : Int) ≤ 6 * x.1 ∧ x.1 ≤ List.length fds) ∧ ∃ k, (List.length fds) - x.1 < k ∧ (iMinCover_l0 fds width ((List.length fds) - 0 + 1) 0 ([] : List Dep)) = iMinCover_l0 fds width k x.1 x.2) (fun x => (List.length fds) - x.1) (0, ([] : List Dep)) (by kernel_rfl) ⟨?_, _, Nat.lt_succ_self _, rfl⟩ ?_)
   ·
    show OKL ([] : List Dep) ∧ ((List.length ([] : List Dep) : Nat) : Int) ≤ 6 * 0 ∧ 0 ≤ List.length fds
    exact ⟨OKL.nil, by simp, Nat.zero_le _⟩
   ·
    intro x hR
    obtain ⟨v21, list⟩ := x
    obtain ⟨hI0, k136, hk134, e135⟩ := hR
    replace hI0 : OKL list ∧ ((List.length list : Nat) : Int) ≤ 6 * v21 ∧ v21 ≤ List.length fds := hI0
    replace hk134 : (List.length fds) - v21 < k136 := hk134
    obtain ⟨k136q, rfl⟩ : ∃ k, k136 = k + 1 := ⟨k136 - 1, by omega⟩
    refine AW.seq (AW.wf_arr (id := 22) (ep := 1) (t := (.named 0)) (xs := (list : List Dep)) (by kernel_rfl) fun ha137 _ => ?_)
    replace ha137 : ((List.length list : Nat) : Int) ≤ 4294967296 := ha137
    refine AW.r1U hC [1, 5, 19, 20, 21, 22] [22] [(22, .bool (decide (((v21 : Nat) : Int) < ((List.length fds : Nat) : Int))))] [] ?_
    refine AW.seq (AW.cd (decide (((v21 : Nat) : Int) < ((List.length fds : Nat) : Int))) ?_ ?_)
    ·
     intro h138
     have h138q : ((v21 : Nat) : Int) < ((List.length fds : Nat) : Int) := (of_decide_eq_true h138)
     have e139 := e135.trans (Go.Am.bif_t h138)
     refine AW.kpU [1, 5, 19, 20, 21] [22] [] [] ?_
     refine AW.skip (AW.seq (AW.block (AW.seq (AW.wf_arr (id := 22) (ep := 1) (t := (.named 0)) (xs := (list : List Dep)) (by kernel_rfl) fun ha140 _ => ?_))))
     replace ha140 : ((List.length list : Nat) : Int) ≤ 4294967296 := ha140
     refine AW.r0U hC [1, 5, 7, 19, 20, 21] [22, 28] [(7, .ref 28 1 0)] [(28, .box 1 [.int .i64 (Dep.From (List.getD fds v21 Dep.zero)), .int .i64 (Dep.To (List.getD fds v21 Dep.zero))])] [(0 ≤ ((v21 : Nat) : Int) ∧ ((v21 : Nat) : Int) < ((List.length fds : Nat) : Int))] ?_ ?_
     ·
      refine ⟨?_, trivial⟩
      ·
       omega
     refine AW.seq (AW.wf_arr (id := 22) (ep := 1) (t := (.named 0)) (xs := (list : List Dep)) (by kernel_rfl) fun ha141 _ => ?_)
     replace ha141 : ((List.length list : Nat) : Int) ≤ 4294967296 := ha141
     refine AW.r1U hC [1, 5, 7, 19, 20, 21, 25, 26] [22, 28] [(25, .int .i64 width), (26, .int .i64 0)] [] ?_
     refine AW.cutQ (α := (List Dep)) (fun x => ⟨[(1, .int .i64 width), (5, .arr 22 1), (19, .data (.slice (.named 0)) (fds : List Dep)), (20, .int .i64 ((List.length fds : Nat) : Int)), (21, .int .i64 ((v21 : Nat) : Int))], [(22, .arr 1 (.named 0) (x : List Dep))]⟩) (fun x => (OKL x ∧ ((List.length x : Nat) : Int) ≤ 6 * v21 + 6) ∧ (iMinCover_l1 fds width v21 (Int.toNat (width - ((0 : Nat) : Int)) + 1) 0 list) = x) ?_ ?_
     ·
      skip
      refine AW.block (AW.loop (α := Nat × (List Dep)) (fun x => ⟨[(1, .int .i64 width), (5, .arr 22 1), (7, .ref 28 1 0), (19, .data (.slice (.named 0)) (fds : List Dep)), (20, .int .i64 ((List.length fds : Nat) : Int)), (21, .int .i64 ((v21 : Nat) : Int)), (25, .int .i64 width), (26, .int .i64 ((x.1 : Nat) : Int))], [(22, .arr 1 (.named 0) (x.2 : List Dep)), (28, .box 1 [.int .i64 (Dep.From (List.getD fds v21 Dep.zero)), .int .i64 (Dep.To (List.getD fds v21 Dep.zero))])]⟩) (fun x => (OKL x.2 ∧ ((List.length x.2 : Nat) : Int) ≤ 6 * v21 + x.1 ∧ (x.1 : Int) ≤ width) ∧ ∃ k, Int.toNat (width - ((x.1 : Nat) : Int)) < k ∧ (iMinCover_l1 fds width v21 (Int.toNat (width - ((0 : Nat) : Int)) + 1) 0 list) = iMinCover_l1 fds width v21 k x.1 x.2) (fun x => Int.toNat (width - ((x.1 : Nat) : Int))) (0, list) (by kernel_rfl) ⟨?_, _, Nat.lt_succ_self _, rfl⟩ ?_)
      ·
       show OKL list ∧ ((List.length list : Nat) : Int) ≤ 6 * v21 + 0 ∧ (0 : Int) ≤ width
       exact ⟨hI0.1, by omega, by omega⟩
      ·
       intro x hR
       obtain ⟨v26, list1⟩ := x
       obtain ⟨hI1, k144, hk142, e143⟩ := hR
       replace hI1 : OKL list1 ∧ ((List.length list1 : Nat) : Int) ≤ 6 * v21 + v26 ∧ (v26 : Int) ≤ width := hI1
       replace hk142 : Int.toNat (width - ((v26 : Nat) : Int)) < k144 := hk142
       obtain ⟨k144q, rfl⟩ : ∃ k, k144 = k + 1 := ⟨k144 - 1, by omega⟩
       have hf := OKL.at (l := fds) hok (i := v21)
       refine AW.seq (AW.wf_arr (id := 22) (ep := 1) (t := (.named 0)) (xs := (list1 : List Dep)) (by kernel_rfl) fun ha145 _ => ?_)
       replace ha145 : ((List.length list1 : Nat) : Int) ≤ 4294967296 := ha145
       refine AW.r1U hC [1, 5, 7, 19, 20, 21, 25, 26, 27] [22, 28] [(27, .bool (decide (((v26 : Nat) : Int) < width)))] [] ?_
       refine AW.seq (AW.cd (decide (((v26 : Nat) : Int) < width)) ?_ ?_)
       ·
        intro h146
        have h146q : ((v26 : Nat) : Int) < width := (of_decide_eq_true h146)
        have e147 := e143.trans (Go.Am.bif_t h146)
        refine AW.kpU [1, 5, 7, 19, 20, 21, 25, 26] [22, 28] [] [] ?_
        refine AW.skip (AW.seq (AW.block (AW.seq (AW.wf_arr (id := 22) (ep := 1) (t := (.named 0)) (xs := (list1 : List Dep)) (by kernel_rfl) fun ha148 _ => ?_))))
        replace ha148 : ((List.length list1 : Nat) : Int) ≤ 4294967296 := ha148
        refine AW.r1U hC [1, 5, 7, 8, 19, 20, 21, 25, 26] [22, 28] [(8, .int .i64 ((v26 : Nat) : Int))] [] ?_
        refine AW.seq (AW.wf_arr (id := 22) (ep := 1) (t := (.named 0)) (xs := (list1 : List Dep)) (by kernel_rfl) fun ha149 _ => ?_)
        replace ha149 : ((List.length list1 : Nat) : Int) ≤ 4294967296 := ha149
        refine AW.r0U hC [1, 5, 7, 9, 19, 20, 21, 25, 26] [22, 28] [(9, .int .i64 ((1 : Int) * 2 ^ v26))] [] [(0 ≤ ((v26 : Nat) : Int) ∧ ((v26 : Nat) : Int) ≤ 64), (-9223372036854775808 ≤ ((1 : Int) * 2 ^ v26) ∧ ((1 : Int) * 2 ^ v26) ≤ 9223372036854775807)] ?_ ?_
        ·
         refine ⟨?_, ?_, trivial⟩
         ·
          omega
         ·
          have := bit_in (c := v26) (by omega); omega
        refine AW.seq (AW.wf_arr (id := 22) (ep := 1) (t := (.named 0)) (xs := (list1 : List Dep)) (by kernel_rfl) fun ha150 _ => ?_)
        replace ha150 : ((List.length list1 : Nat) : Int) ≤ 4294967296 := ha150
        refine AW.r0U hC [1, 5, 7, 9, 19, 20, 21, 25, 26, 41] [22, 28] [(41, .bool (bif (contains (Dep.To (List.getD fds v21 Dep.zero)) ((1 : Int) * 2 ^ v26)) then (!(contains (Dep.From (List.getD fds v21 Dep.zero)) ((1 : Int) * 2 ^ v26))) else false))] [] [(True), (((contains (Dep.To (List.getD fds v21 Dep.zero)) ((1 : Int) * 2 ^ v26)) = true) → (((contains (Dep.To (List.getD fds v21 Dep.zero)) ((1 : Int) * 2 ^ v26)) = true))), (((contains (Dep.To (List.getD fds v21 Dep.zero)) ((1 : Int) * 2 ^ v26)) = true) → (((contains (Dep.To (List.getD fds v21 Dep.zero)) ((1 : Int) * 2 ^ v26)) = true))), (((contains (Dep.To (List.getD fds v21 Dep.zero)) ((1 : Int) * 2 ^ v26)) = true) → (((contains (Dep.To (List.getD fds v21 Dep.zero)) ((1 : Int) * 2 ^ v26)) = true))), (((contains (Dep.To (List.getD fds v21 Dep.zero)) ((1 : Int) * 2 ^ v26)) = true) → (True)), (((contains (Dep.To (List.getD fds v21 Dep.zero)) ((1 : Int) * 2 ^ v26)) = true) → (((contains (Dep.To (List.getD fds v21 Dep.zero)) ((1 : Int) * 2 ^ v26)) = true))), (((contains (Dep.To (List.getD fds v21 Dep.zero)) ((1 : Int) * 2 ^ v26)) = true) → (((contains (Dep.To (List.getD fds v21 Dep.zero)) ((1 : Int) * 2 ^ v26)) = true)))] ?_ ?_
        ·
         refine ⟨?_, ?_, ?_, ?_, ?_, ?_, ?_, trivial⟩
         ·
          trivial
         ·
          intro g151
          have g151p0 : (contains (Dep.To (List.getD fds v21 Dep.zero)) ((1 : Int) * 2 ^ v26)) = true := g151
          assumption
         ·
          intro g152
          have g152p0 : (contains (Dep.To (List.getD fds v21 Dep.zero)) ((1 : Int) * 2 ^ v26)) = true := g152
          assumption
         ·
          intro g153
          have g153p0 : (contains (Dep.To (List.getD fds v21 Dep.zero)) ((1 : Int) * 2 ^ v26)) = true := g153
          assumption
         ·
          intro g154
          have g154p0 : (contains (Dep.To (List.getD fds v21 Dep.zero)) ((1 : Int) * 2 ^ v26)) = true := g154
          trivial
         ·
          intro g155
          have g155p0 : (contains (Dep.To (List.getD fds v21 Dep.zero)) ((1 : Int) * 2 ^ v26)) = true := g155
          assumption
         ·
          intro g156
          have g156p0 : (contains (Dep.To (List.getD fds v21 Dep.zero)) ((1 : Int) * 2 ^ v26)) = true := g156
          assumption
        refine AW.cd (bif (contains (Dep.To (List.getD fds v21 Dep.zero)) ((1 : Int) * 2 ^ v26)) then (!(contains (Dep.From (List.getD fds v21 Dep.zero)) ((1 : Int) * 2 ^ v26))) else false) ?_ ?_
        ·
         intro h157
         have h157q : ((contains (Dep.To (List.getD fds v21 Dep.zero)) ((1 : Int) * 2 ^ v26)) = true) ∧ ((contains (Dep.From (List.getD fds v21 Dep.zero)) ((1 : Int) * 2 ^ v26)) = false) := (And.imp (fun h => h) (fun h => (Go.Am.not_pos h)) (Go.Am.and_pos h157))
         have e158 := e147.trans (Go.Am.bif_t h157)
         refine AW.wf_arr (id := 22) (ep := 1) (t := (.named 0)) (xs := (list1 : List Dep)) (by kernel_rfl) fun ha159 _ => ?_
         replace ha159 : ((List.length list1 : Nat) : Int) ≤ 4294967296 := ha159
         refine AW.r0U hC [1, 5, 7, 19, 20, 21, 25, 26] [22, 28] [] [(22, .arr 1 (.named 0) ((list1 ++ ([(Dep.mk (Dep.From (List.getD fds v21 Dep.zero)) ((1 : Int) * 2 ^ v26))] : List Dep)) : List Dep))] [(((List.length list1 : Nat) : Int) + ((List.length ([(Dep.mk (Dep.From (List.getD fds v21 Dep.zero)) ((1 : Int) * 2 ^ v26))] : List Dep) : Nat) : Int) ≤ 4294967296)] ?_ ?_
         ·
          refine ⟨?_, trivial⟩
          ·
           simp only [List.length_cons, List.length_nil]
           omega
         refine AW.wf_arr (id := 22) (ep := 1) (t := (.named 0)) (xs := ((list1 ++ ([(Dep.mk (Dep.From (List.getD fds v21 Dep.zero)) ((1 : Int) * 2 ^ v26))] : List Dep)) : List Dep)) (by kernel_rfl) fun ha160 _ => ?_
         replace ha160 : ((List.length (list1 ++ ([(Dep.mk (Dep.From (List.getD fds v21 Dep.zero)) ((1 : Int) * 2 ^ v26))] : List Dep)) : Nat) : Int) ≤ 4294967296 := ha160
         refine AW.r0U hC [1, 5, 7, 19, 20, 21, 25, 26] [22, 28] [(26, .int .i64 ((v26 + 1 : Nat) : Int))] [] [(-9223372036854775808 ≤ ((v26 + 1 : Nat) : Int) ∧ ((v26 + 1 : Nat) : Int) ≤ 9223372036854775807)] ?_ ?_
         ·
          refine ⟨?_, trivial⟩
          ·
           omega
         refine AW.back (x := (v26, list1)) (v26 + 1, (list1 ++ ([(Dep.mk (Dep.From (List.getD fds v21 Dep.zero)) ((1 : Int) * 2 ^ v26))] : List Dep))) (by kernel_rfl) ⟨?_, k144q, ?_, e158⟩ ?_
         ·
          show OKL (list1 ++ ([(Dep.mk (Dep.From (List.getD fds v21 Dep.zero)) ((1 : Int) * 2 ^ v26))] : List Dep)) ∧ ((List.length (list1 ++ ([(Dep.mk (Dep.From (List.getD fds v21 Dep.zero)) ((1 : Int) * 2 ^ v26))] : List Dep)) : Nat) : Int) ≤ 6 * v21 + (v26 + 1) ∧ ((v26 + 1) : Int) ≤ width
          exact ⟨hI1.1.snoc ⟨(hf (by omega)).1, bit_in (by omega)⟩, by simp only [List.length_append, List.length_cons, List.length_nil]; omega, by omega⟩
         ·
          show Int.toNat (width - (((v26 + 1) : Nat) : Int)) < k144q
          omega
         ·
          show Int.toNat (width - (((v26 + 1) : Nat) : Int)) < Int.toNat (width - ((v26 : Nat) : Int))
          omega
        ·
         intro h161
         have h161q : ((contains (Dep.To (List.getD fds v21 Dep.zero)) ((1 : Int) * 2 ^ v26)) = false) ∨ ((contains (Dep.From (List.getD fds v21 Dep.zero)) ((1 : Int) * 2 ^ v26)) = true) := (Or.imp (fun h => h) (fun h => (Go.Am.not_neg h)) (Go.Am.and_neg h161))
         have e162 := e147.trans (Go.Am.bif_f h161)
         refine AW.kpU [1, 5, 7, 19, 20, 21, 25, 26] [22, 28] [] [] ?_
         refine AW.skip (AW.wf_arr (id := 22) (ep := 1) (t := (.named 0)) (xs := (list1 : List Dep)) (by kernel_rfl) fun ha163 _ => ?_)
         replace ha163 : ((List.length list1 : Nat) : Int) ≤ 4294967296 := ha163
         refine AW.r0U hC [1, 5, 7, 19, 20, 21, 25, 26] [22, 28] [(26, .int .i64 ((v26 + 1 : Nat) : Int))] [] [(-9223372036854775808 ≤ ((v26 + 1 : Nat) : Int) ∧ ((v26 + 1 : Nat) : Int) ≤ 9223372036854775807)] ?_ ?_
         ·
          refine ⟨?_, trivial⟩
          ·
           omega
         refine AW.back (x := (v26, list1)) (v26 + 1, list1) (by kernel_rfl) ⟨?_, k144q, ?_, e162⟩ ?_
         ·
          show OKL list1 ∧ ((List.length list1 : Nat) : Int) ≤ 6 * v21 + (v26 + 1) ∧ ((v26 + 1) : Int) ≤ width
          exact ⟨hI1.1, by omega, by omega⟩
         ·
          show Int.toNat (width - (((v26 + 1) : Nat) : Int)) < k144q
          omega
         ·
          show Int.toNat (width - (((v26 + 1) : Nat) : Int)) < Int.toNat (width - ((v26 : Nat) : Int))
          omega
       ·
        intro h164
        have h164q : ¬ (((v26 : Nat) : Int) < width) := (of_decide_eq_false h164)
        have e165 := e143.trans (Go.Am.bif_f h164)
        refine AW.kpU [1, 5, 19, 20, 21] [22] [] [] ?_
        refine AW.exit ?_
        refine AW.meet list1 (by kernel_rfl) ⟨?_, e165⟩
        show OKL list1 ∧ ((List.length list1 : Nat) : Int) ≤ 6 * v21 + 6
        exact ⟨hI1.1, by omega⟩
     ·
      intro list1 hR
      obtain ⟨hJ1, e166⟩ := hR
      replace hJ1 : OKL list1 ∧ ((List.length list1 : Nat) : Int) ≤ 6 * v21 + 6 := hJ1
      have e167 := e139.trans (Go.Am.then_eq e166)
      refine AW.wf_arr (id := 22) (ep := 1) (t := (.named 0)) (xs := (list1 : List Dep)) (by kernel_rfl) fun ha168 _ => ?_
      replace ha168 : ((List.length list1 : Nat) : Int) ≤ 4294967296 := ha168
      refine AW.r0U hC [1, 5, 19, 20, 21] [22] [(21, .int .i64 ((v21 + 1 : Nat) : Int))] [] [(-9223372036854775808 ≤ ((v21 + 1 : Nat) : Int) ∧ ((v21 + 1 : Nat) : Int) ≤ 9223372036854775807)] ?_ ?_
      ·
       refine ⟨?_, trivial⟩
       ·
        omega
      refine AW.back (x := (v21, list)) (v21 + 1, list1) (by kernel_rfl) ⟨?_, k136q, ?_, e167⟩ ?_
      ·
       show OKL list1 ∧ ((List.length list1 : Nat) : Int) ≤ 6 * (v21 + 1) ∧ (v21 + 1) ≤ List.length fds
       exact ⟨hJ1.1, by omega, by omega⟩
      ·
       show (List.length fds) - (v21 + 1) < k136q
       omega
      ·
       show (List.length fds) - (v21 + 1) < (List.length fds) - v21
       omega
    ·
     intro h169
     have h169q : ¬ (((v21 : Nat) : Int) < ((List.length fds : Nat) : Int)) := (of_decide_eq_false h169)
     have e170 := e135.trans (Go.Am.bif_f h169)
     refine AW.kpU [1, 5] [22] [] [] ?_
     refine AW.exit ?_
     refine AW.meet list (by kernel_rfl) ⟨?_, e170⟩
     show OKL list ∧ ((List.length list : Nat) : Int) ≤ 48
     exact ⟨hI0.1, by omega⟩
  ·
   intro list hR
   obtain ⟨hJ0, e171⟩ := hR
   replace hJ0 : OKL list ∧ ((List.length list : Nat) : Int) ≤ 48 := hJ0
   have e172 := e4.trans (Go.Am.then_eq e171)
   refine AW.seq (AW.seq (AW.wf_arr (id := 22) (ep := 1) (t := (.named 0)) (xs := (list : List Dep)) (by kernel_rfl) fun ha173 _ => ?_))
   replace ha173 : ((List.length list : Nat) : Int) ≤ 4294967296 := ha173
   refine AW.r1U hC [1, 5, 52, 53] [22] [(52, .int .i64 ((List.length list : Nat) : Int)), (53, .int .i64 0)] [] ?_
   refine AW.cutQ (α := (List Dep)) (fun x => ⟨[(5, .arr 22 1)], [(22, .arr 1 (.named 0) (x : List Dep))]⟩) (fun x => (OKL x ∧ List.length x = List.length list) ∧ (iMinCover_l2 width list ((List.length list) - 0 + 1) 0 list) = x) ?_ ?_
   ·
    skip
    refine AW.block (AW.loop (α := Nat × (List Dep)) (fun x => ⟨[(1, .int .i64 width), (5, .arr 22 1), (52, .int .i64 ((List.length list : Nat) : Int)), (53, .int .i64 ((x.1 : Nat) : Int))], [(22, .arr 1 (.named 0) (x.2 : List Dep))]⟩) (fun x => (OKL x.2 ∧ List.length x.2 = List.length list) ∧ ∃ k, (List.length list) - x.1 < k ∧ (iMinCover_l2 width list ((List.length list) - 0 + 1) 0 list) = iMinCover_l2 width list k x.1 x.2) (fun x => (List.length list) - x.1) (0, list) (by kernel_rfl) ⟨?_, _, Nat.lt_succ_self _, rfl⟩ ?_)
    ·
     show OKL list ∧ List.length list = List.length list
     exact ⟨hJ0.1, rfl⟩
    ·
     intro x hR
     obtain ⟨v53, list1⟩ := x
     obtain ⟨hI2, k305, hk303, e304⟩ := hR
     replace hI2 : OKL list1 ∧ List.length list1 = List.length list := hI2
     replace hk303 : (List.length list) - v53 < k305 := hk303
     obtain ⟨k305q, rfl⟩ : ∃ k, k305 = k + 1 := ⟨k305 - 1, by omega⟩
     refine AW.seq (AW.wf_arr (id := 22) (ep := 1) (t := (.named 0)) (xs := (list1 : List Dep)) (by kernel_rfl) fun ha306 _ => ?_)
     replace ha306 : ((List.length list1 : Nat) : Int) ≤ 4294967296 := ha306
     refine AW.r1U hC [1, 5, 52, 53, 54] [22] [(54, .bool (decide (((v53 : Nat) : Int) < ((List.length list : Nat) : Int))))] [] ?_
     refine AW.seq (AW.cd (decide (((v53 : Nat) : Int) < ((List.length list : Nat) : Int))) ?_ ?_)
     ·
      intro h307
      have h307q : ((v53 : Nat) : Int) < ((List.length list : Nat) : Int) := (of_decide_eq_true h307)
      have e308 := e304.trans (Go.Am.bif_t h307)
      refine AW.kpU [1, 5, 52, 53] [22] [] [] ?_
      refine AW.skip (AW.seq (AW.block (AW.seq (AW.wf_arr (id := 22) (ep := 1) (t := (.named 0)) (xs := (list1 : List Dep)) (by kernel_rfl) fun ha309 _ => ?_))))
      replace ha309 : ((List.length list1 : Nat) : Int) ≤ 4294967296 := ha309
      refine AW.r1U hC [1, 5, 10, 52, 53] [22] [(10, .int .i64 ((v53 : Nat) : Int))] [] ?_
      refine AW.seq (AW.wf_arr (id := 22) (ep := 1) (t := (.named 0)) (xs := (list1 : List Dep)) (by kernel_rfl) fun ha310 _ => ?_)
      replace ha310 : ((List.length list1 : Nat) : Int) ≤ 4294967296 := ha310
      refine AW.r1U hC [1, 5, 10, 52, 53, 56, 57] [22] [(56, .int .i64 width), (57, .int .i64 0)] [] ?_
      refine AW.cutQ (α := (List Dep)) (fun x => ⟨[(1, .int .i64 width), (5, .arr 22 1), (52, .int .i64 ((List.length list : Nat) : Int)), (53, .int .i64 ((v53 : Nat) : Int))], [(22, .arr 1 (.named 0) (x : List Dep))]⟩) (fun x => (OKL x ∧ List.length x = List.length list) ∧ (iMinCover_l3 width v53 (Int.toNat (width - ((0 : Nat) : Int)) + 1) 0 list1) = x) ?_ ?_
      ·
       skip
       refine AW.block (AW.loop (α := Nat × (List Dep)) (fun x => ⟨[(1, .int .i64 width), (5, .arr 22 1), (10, .int .i64 ((v53 : Nat) : Int)), (52, .int .i64 ((List.length list : Nat) : Int)), (53, .int .i64 ((v53 : Nat) : Int)), (56, .int .i64 width), (57, .int .i64 ((x.1 : Nat) : Int))], [(22, .arr 1 (.named 0) (x.2 : List Dep))]⟩) (fun x => (OKL x.2 ∧ List.length x.2 = List.length list) ∧ ∃ k, Int.toNat (width - ((x.1 : Nat) : Int)) < k ∧ (iMinCover_l3 width v53 (Int.toNat (width - ((0 : Nat) : Int)) + 1) 0 list1) = iMinCover_l3 width v53 k x.1 x.2) (fun x => Int.toNat (width - ((x.1 : Nat) : Int))) (0, list1) (by kernel_rfl) ⟨?_, _, Nat.lt_succ_self _, rfl⟩ ?_)
       ·
        show OKL list1 ∧ List.length list1 = List.length list
        exact hI2
       ·
        intro x hR
        obtain ⟨v57, list2⟩ := x
        obtain ⟨hI3, k313, hk311, e312⟩ := hR
        replace hI3 : OKL list2 ∧ List.length list2 = List.length list := hI3
        replace hk311 : Int.toNat (width - ((v57 : Nat) : Int)) < k313 := hk311
        obtain ⟨k313q, rfl⟩ : ∃ k, k313 = k + 1 := ⟨k313 - 1, by omega⟩
        refine AW.seq (AW.wf_arr (id := 22) (ep := 1) (t := (.named 0)) (xs := (list2 : List Dep)) (by kernel_rfl) fun ha314 _ => ?_)
        replace ha314 : ((List.length list2 : Nat) : Int) ≤ 4294967296 := ha314
        refine AW.r1U hC [1, 5, 10, 52, 53, 56, 57, 58] [22] [(58, .bool (decide (((v57 : Nat) : Int) < width)))] [] ?_
        refine AW.seq (AW.cd (decide (((v57 : Nat) : Int) < width)) ?_ ?_)
        ·
         intro h315
         have h315q : ((v57 : Nat) : Int) < width := (of_decide_eq_true h315)
         have e316 := e312.trans (Go.Am.bif_t h315)
         refine AW.kpU [1, 5, 10, 52, 53, 56, 57] [22] [] [] ?_
         refine AW.skip (AW.seq (AW.block (AW.seq (AW.wf_arr (id := 22) (ep := 1) (t := (.named 0)) (xs := (list2 : List Dep)) (by kernel_rfl) fun ha317 _ => ?_))))
         replace ha317 : ((List.length list2 : Nat) : Int) ≤ 4294967296 := ha317
         refine AW.r1U hC [1, 5, 10, 11, 52, 53, 56, 57] [22] [(11, .int .i64 ((v57 : Nat) : Int))] [] ?_
         refine AW.seq (AW.wf_arr (id := 22) (ep := 1) (t := (.named 0)) (xs := (list2 : List Dep)) (by kernel_rfl) fun ha318 _ => ?_)
         replace ha318 : ((List.length list2 : Nat) : Int) ≤ 4294967296 := ha318
         refine AW.d0U hC hM [1, 5, 10, 12, 52, 53, 56, 57] [22, 48] [(12, .ref 48 1 0)] [(48, .box 1 [.int .i64 (bits .andNot .i64 (Dep.From (List.getD list2 v53 Dep.zero)) ((1 : Int) * 2 ^ v57)), .int .i64 (Dep.To (List.getD list2 v53 Dep.zero))])] [(0 ≤ ((v53 : Nat) : Int) ∧ ((v53 : Nat) : Int) < ((List.length list2 : Nat) : Int)), (0 ≤ ((v57 : Nat) : Int) ∧ ((v57 : Nat) : Int) ≤ 64), (-9223372036854775808 ≤ ((1 : Int) * 2 ^ v57) ∧ ((1 : Int) * 2 ^ v57) ≤ 9223372036854775807), (0 ≤ ((v53 : Nat) : Int) ∧ ((v53 : Nat) : Int) < ((List.length list2 : Nat) : Int))] ?_ ?_
         ·
          refine ⟨?_, ?_, ?_, ?_, trivial⟩
          ·
           omega
          ·
           omega
          ·
           have := bit_in (c := v57) (by omega); omega
          ·
           omega
         refine AW.seq (AW.wf_arr (id := 22) (ep := 1) (t := (.named 0)) (xs := (list2 : List Dep)) (by kernel_rfl) fun ha319 _ => ?_)
         replace ha319 : ((List.length list2 : Nat) : Int) ≤ 4294967296 := ha319
         refine AW.d0U hC hM [1, 5, 10, 12, 52, 53, 56, 57, 84] [22, 48] [(84, .bool (bif (!(bif ((bits .andNot .i64 (Dep.From (List.getD list2 v53 Dep.zero)) ((1 : Int) * 2 ^ v57)) == (Dep.From (List.getD list2 v53 Dep.zero))) then (bif ((Dep.To (List.getD list2 v53 Dep.zero)) == (Dep.To (List.getD list2 v53 Dep.zero))) then true else false) else false)) then (iimplies list2 (Dep.mk (bits .andNot .i64 (Dep.From (List.getD list2 v53 Dep.zero)) ((1 : Int) * 2 ^ v57)) (Dep.To (List.getD list2 v53 Dep.zero)))) else false))] [] [(0 ≤ ((v53 : Nat) : Int) ∧ ((v53 : Nat) : Int) < ((List.length list2 : Nat) : Int)), (((!(bif ((bits .andNot .i64 (Dep.From (List.getD list2 v53 Dep.zero)) ((1 : Int) * 2 ^ v57)) == (Dep.From (List.getD list2 v53 Dep.zero))) then (bif ((Dep.To (List.getD list2 v53 Dep.zero)) == (Dep.To (List.getD list2 v53 Dep.zero))) then true else false) else false)) = true) → (((!(bif ((bits .andNot .i64 (Dep.From (List.getD list2 v53 Dep.zero)) ((1 : Int) * 2 ^ v57)) == (Dep.From (List.getD list2 v53 Dep.zero))) then (bif ((Dep.To (List.getD list2 v53 Dep.zero)) == (Dep.To (List.getD list2 v53 Dep.zero))) then true else false) else false)) = true))), (((!(bif ((bits .andNot .i64 (Dep.From (List.getD list2 v53 Dep.zero)) ((1 : Int) * 2 ^ v57)) == (Dep.From (List.getD list2 v53 Dep.zero))) then (bif ((Dep.To (List.getD list2 v53 Dep.zero)) == (Dep.To (List.getD list2 v53 Dep.zero))) then true else false) else false)) = true) → (((!(bif ((bits .andNot .i64 (Dep.From (List.getD list2 v53 Dep.zero)) ((1 : Int) * 2 ^ v57)) == (Dep.From (List.getD list2 v53 Dep.zero))) then (bif ((Dep.To (List.getD list2 v53 Dep.zero)) == (Dep.To (List.getD list2 v53 Dep.zero))) then true else false) else false)) = true))), (((!(bif ((bits .andNot .i64 (Dep.From (List.getD list2 v53 Dep.zero)) ((1 : Int) * 2 ^ v57)) == (Dep.From (List.getD list2 v53 Dep.zero))) then (bif ((Dep.To (List.getD list2 v53 Dep.zero)) == (Dep.To (List.getD list2 v53 Dep.zero))) then true else false) else false)) = true) → (((0 ≤ (Dep.mk (bits .andNot .i64 (Dep.From (List.getD list2 v53 Dep.zero)) ((1 : Int) * 2 ^ v57)) (Dep.To (List.getD list2 v53 Dep.zero))).From ∧ (Dep.mk (bits .andNot .i64 (Dep.From (List.getD list2 v53 Dep.zero)) ((1 : Int) * 2 ^ v57)) (Dep.To (List.getD list2 v53 Dep.zero))).From < 64) ∧ (0 ≤ (Dep.mk (bits .andNot .i64 (Dep.From (List.getD list2 v53 Dep.zero)) ((1 : Int) * 2 ^ v57)) (Dep.To (List.getD list2 v53 Dep.zero))).To ∧ (Dep.mk (bits .andNot .i64 (Dep.From (List.getD list2 v53 Dep.zero)) ((1 : Int) * 2 ^ v57)) (Dep.To (List.getD list2 v53 Dep.zero))).To < 64)) ∧ OKL list2)), (((!(bif ((bits .andNot .i64 (Dep.From (List.getD list2 v53 Dep.zero)) ((1 : Int) * 2 ^ v57)) == (Dep.From (List.getD list2 v53 Dep.zero))) then (bif ((Dep.To (List.getD list2 v53 Dep.zero)) == (Dep.To (List.getD list2 v53 Dep.zero))) then true else false) else false)) = true) → (((!(bif ((bits .andNot .i64 (Dep.From (List.getD list2 v53 Dep.zero)) ((1 : Int) * 2 ^ v57)) == (Dep.From (List.getD list2 v53 Dep.zero))) then (bif ((Dep.To (List.getD list2 v53 Dep.zero)) == (Dep.To (List.getD list2 v53 Dep.zero))) then true else false) else false)) = true)))] ?_ ?_
         ·
          refine ⟨?_, ?_, ?_, ?_, ?_, trivial⟩
          ·
           omega
          ·
           intro g320
           have g320p0 : ((bits .andNot .i64 (Dep.From (List.getD list2 v53 Dep.zero)) ((1 : Int) * 2 ^ v57)) ≠ (Dep.From (List.getD list2 v53 Dep.zero))) ∨ (((Dep.To (List.getD list2 v53 Dep.zero)) ≠ (Dep.To (List.getD list2 v53 Dep.zero))) ∨ (true = false)) := (Or.imp (fun h => (Go.Am.beq_neg h)) (fun h => (Or.imp (fun h => (Go.Am.beq_neg h)) (fun h => h) (Go.Am.and_neg h))) (Go.Am.and_neg (Go.Am.not_pos g320)))
           assumption
          ·
           intro g321
           have g321p0 : ((bits .andNot .i64 (Dep.From (List.getD list2 v53 Dep.zero)) ((1 : Int) * 2 ^ v57)) ≠ (Dep.From (List.getD list2 v53 Dep.zero))) ∨ (((Dep.To (List.getD list2 v53 Dep.zero)) ≠ (Dep.To (List.getD list2 v53 Dep.zero))) ∨ (true = false)) := (Or.imp (fun h => (Go.Am.beq_neg h)) (fun h => (Or.imp (fun h => (Go.Am.beq_neg h)) (fun h => h) (Go.Am.and_neg h))) (Go.Am.and_neg (Go.Am.not_pos g321)))
           assumption
          ·
           intro g322
           have g322p0 : ((bits .andNot .i64 (Dep.From (List.getD list2 v53 Dep.zero)) ((1 : Int) * 2 ^ v57)) ≠ (Dep.From (List.getD list2 v53 Dep.zero))) ∨ (((Dep.To (List.getD list2 v53 Dep.zero)) ≠ (Dep.To (List.getD list2 v53 Dep.zero))) ∨ (true = false)) := (Or.imp (fun h => (Go.Am.beq_neg h)) (fun h => (Or.imp (fun h => (Go.Am.beq_neg h)) (fun h => h) (Go.Am.and_neg h))) (Go.Am.and_neg (Go.Am.not_pos g322)))
           exact ⟨⟨clr_in (hI3.1.at (by omega)).1 (by omega), (hI3.1.at (by omega)).2⟩, hI3.1⟩
          ·
           intro g323
           have g323p0 : ((bits .andNot .i64 (Dep.From (List.getD list2 v53 Dep.zero)) ((1 : Int) * 2 ^ v57)) ≠ (Dep.From (List.getD list2 v53 Dep.zero))) ∨ (((Dep.To (List.getD list2 v53 Dep.zero)) ≠ (Dep.To (List.getD list2 v53 Dep.zero))) ∨ (true = false)) := (Or.imp (fun h => (Go.Am.beq_neg h)) (fun h => (Or.imp (fun h => (Go.Am.beq_neg h)) (fun h => h) (Go.Am.and_neg h))) (Go.Am.and_neg (Go.Am.not_pos g323)))
           assumption
         refine AW.cd (bif (!(bif ((bits .andNot .i64 (Dep.From (List.getD list2 v53 Dep.zero)) ((1 : Int) * 2 ^ v57)) == (Dep.From (List.getD list2 v53 Dep.zero))) then (bif ((Dep.To (List.getD list2 v53 Dep.zero)) == (Dep.To (List.getD list2 v53 Dep.zero))) then true else false) else false)) then (iimplies list2 (Dep.mk (bits .andNot .i64 (Dep.From (List.getD list2 v53 Dep.zero)) ((1 : Int) * 2 ^ v57)) (Dep.To (List.getD list2 v53 Dep.zero)))) else false) ?_ ?_
         ·
          intro h324
          have h324q : (((bits .andNot .i64 (Dep.From (List.getD list2 v53 Dep.zero)) ((1 : Int) * 2 ^ v57)) ≠ (Dep.From (List.getD list2 v53 Dep.zero))) ∨ (((Dep.To (List.getD list2 v53 Dep.zero)) ≠ (Dep.To (List.getD list2 v53 Dep.zero))) ∨ (true = false))) ∧ ((iimplies list2 (Dep.mk (bits .andNot .i64 (Dep.From (List.getD list2 v53 Dep.zero)) ((1 : Int) * 2 ^ v57)) (Dep.To (List.getD list2 v53 Dep.zero)))) = true) := (And.imp (fun h => (Or.imp (fun h => (Go.Am.beq_neg h)) (fun h => (Or.imp (fun h => (Go.Am.beq_neg h)) (fun h => h) (Go.Am.and_neg h))) (Go.Am.and_neg (Go.Am.not_pos h)))) (fun h => h) (Go.Am.and_pos h324))
          have e325 := e316.trans (Go.Am.bif_t h324)
          refine AW.wf_arr (id := 22) (ep := 1) (t := (.named 0)) (xs := (list2 : List Dep)) (by kernel_rfl) fun ha326 _ => ?_
          replace ha326 : ((List.length list2 : Nat) : Int) ≤ 4294967296 := ha326
          refine AW.r0U hC [1, 5, 10, 52, 53, 56, 57] [22] [] [(22, .arr 1 (.named 0) ((List.set list2 v53 (Dep.mk (bits .andNot .i64 (Dep.From (List.getD list2 v53 Dep.zero)) ((1 : Int) * 2 ^ v57)) (Dep.To (List.getD list2 v53 Dep.zero)))) : List Dep))] [(0 ≤ ((v53 : Nat) : Int) ∧ ((v53 : Nat) : Int) < ((List.length list2 : Nat) : Int))] ?_ ?_
          ·
           refine ⟨?_, trivial⟩
           ·
            omega
          refine AW.wf_arr (id := 22) (ep := 1) (t := (.named 0)) (xs := ((List.set list2 v53 (Dep.mk (bits .andNot .i64 (Dep.From (List.getD list2 v53 Dep.zero)) ((1 : Int) * 2 ^ v57)) (Dep.To (List.getD list2 v53 Dep.zero)))) : List Dep)) (by kernel_rfl) fun ha327 _ => ?_
          replace ha327 : ((List.length (List.set list2 v53 (Dep.mk (bits .andNot .i64 (Dep.From (List.getD list2 v53 Dep.zero)) ((1 : Int) * 2 ^ v57)) (Dep.To (List.getD list2 v53 Dep.zero)))) : Nat) : Int) ≤ 4294967296 := ha327
          refine AW.r0U hC [1, 5, 10, 52, 53, 56, 57] [22] [(57, .int .i64 ((v57 + 1 : Nat) : Int))] [] [(-9223372036854775808 ≤ ((v57 + 1 : Nat) : Int) ∧ ((v57 + 1 : Nat) : Int) ≤ 9223372036854775807)] ?_ ?_
          ·
           refine ⟨?_, trivial⟩
           ·
            omega
          refine AW.back (x := (v57, list2)) (v57 + 1, (List.set list2 v53 (Dep.mk (bits .andNot .i64 (Dep.From (List.getD list2 v53 Dep.zero)) ((1 : Int) * 2 ^ v57)) (Dep.To (List.getD list2 v53 Dep.zero))))) (by kernel_rfl) ⟨?_, k313q, ?_, e325⟩ ?_
          ·
           show OKL (List.set list2 v53 (Dep.mk (bits .andNot .i64 (Dep.From (List.getD list2 v53 Dep.zero)) ((1 : Int) * 2 ^ v57)) (Dep.To (List.getD list2 v53 Dep.zero)))) ∧ List.length (List.set list2 v53 (Dep.mk (bits .andNot .i64 (Dep.From (List.getD list2 v53 Dep.zero)) ((1 : Int) * 2 ^ v57)) (Dep.To (List.getD list2 v53 Dep.zero)))) = List.length list
           exact ⟨hI3.1.set _ ⟨clr_in (hI3.1.at (by omega)).1 (by omega), (hI3.1.at (by omega)).2⟩, by rw [List.length_set]; exact hI3.2⟩
          ·
           show Int.toNat (width - (((v57 + 1) : Nat) : Int)) < k313q
           omega
          ·
           show Int.toNat (width - (((v57 + 1) : Nat) : Int)) < Int.toNat (width - ((v57 : Nat) : Int))
           omega
         ·
          intro h328
          have h328q : (((bits .andNot .i64 (Dep.From (List.getD list2 v53 Dep.zero)) ((1 : Int) * 2 ^ v57)) = (Dep.From (List.getD list2 v53 Dep.zero))) ∧ (((Dep.To (List.getD list2 v53 Dep.zero)) = (Dep.To (List.getD list2 v53 Dep.zero))) ∧ (true = true))) ∨ ((iimplies list2 (Dep.mk (bits .andNot .i64 (Dep.From (List.getD list2 v53 Dep.zero)) ((1 : Int) * 2 ^ v57)) (Dep.To (List.getD list2 v53 Dep.zero)))) = false) := (Or.imp (fun h => (And.imp (fun h => (Go.Am.beq_pos h)) (fun h => (And.imp (fun h => (Go.Am.beq_pos h)) (fun h => h) (Go.Am.and_pos h))) (Go.Am.and_pos (Go.Am.not_neg h)))) (fun h => h) (Go.Am.and_neg h328))
          have e329 := e316.trans (Go.Am.bif_f h328)
          refine AW.kpU [1, 5, 10, 52, 53, 56, 57] [22] [] [] ?_
          refine AW.skip (AW.wf_arr (id := 22) (ep := 1) (t := (.named 0)) (xs := (list2 : List Dep)) (by kernel_rfl) fun ha330 _ => ?_)
          replace ha330 : ((List.length list2 : Nat) : Int) ≤ 4294967296 := ha330
          refine AW.r0U hC [1, 5, 10, 52, 53, 56, 57] [22] [(57, .int .i64 ((v57 + 1 : Nat) : Int))] [] [(-9223372036854775808 ≤ ((v57 + 1 : Nat) : Int) ∧ ((v57 + 1 : Nat) : Int) ≤ 9223372036854775807)] ?_ ?_
          ·
           refine ⟨?_, trivial⟩
           ·
            omega
          refine AW.back (x := (v57, list2)) (v57 + 1, list2) (by kernel_rfl) ⟨?_, k313q, ?_, e329⟩ ?_
          ·
           show OKL list2 ∧ List.length list2 = List.length list
           exact hI3
          ·
           show Int.toNat (width - (((v57 + 1) : Nat) : Int)) < k313q
           omega
          ·
           show Int.toNat (width - (((v57 + 1) : Nat) : Int)) < Int.toNat (width - ((v57 : Nat) : Int))
           omega
        ·
         intro h331
         have h331q : ¬ (((v57 : Nat) : Int) < width) := (of_decide_eq_false h331)
         have e332 := e312.trans (Go.Am.bif_f h331)
         refine AW.kpU [1, 5, 52, 53] [22] [] [] ?_
         refine AW.exit ?_
         refine AW.meet list2 (by kernel_rfl) ⟨?_, e332⟩
         show OKL list2 ∧ List.length list2 = List.length list
         assumption
      ·
       intro list2 hR
       obtain ⟨hJ3, e333⟩ := hR
       replace hJ3 : OKL list2 ∧ List.length list2 = List.length list := hJ3
       have e334 := e308.trans (Go.Am.then_eq e333)
       refine AW.wf_arr (id := 22) (ep := 1) (t := (.named 0)) (xs := (list2 : List Dep)) (by kernel_rfl) fun ha335 _ => ?_
       replace ha335 : ((List.length list2 : Nat) : Int) ≤ 4294967296 := ha335
       refine AW.r0U hC [1, 5, 52, 53] [22] [(53, .int .i64 ((v53 + 1 : Nat) : Int))] [] [(-9223372036854775808 ≤ ((v53 + 1 : Nat) : Int) ∧ ((v53 + 1 : Nat) : Int) ≤ 9223372036854775807)] ?_ ?_
       ·
        refine ⟨?_, trivial⟩
        ·
         omega
       refine AW.back (x := (v53, list1)) (v53 + 1, list2) (by kernel_rfl) ⟨?_, k305q, ?_, e334⟩ ?_
       ·
        show OKL list2 ∧ List.length list2 = List.length list
        exact hJ3
       ·
        show (List.length list) - (v53 + 1) < k305q
        omega
       ·
        show (List.length list) - (v53 + 1) < (List.length list) - v53
        omega
     ·
      intro h336
      have h336q : ¬ (((v53 : Nat) : Int) < ((List.length list : Nat) : Int)) := (of_decide_eq_false h336)
      have e337 := e304.trans (Go.Am.bif_f h336)
      refine AW.kpU [5] [22] [] [] ?_
      refine AW.exit ?_
      refine AW.meet list1 (by kernel_rfl) ⟨?_, e337⟩
      show OKL list1 ∧ List.length list1 = List.length list
      assumption
   ·
    intro list1 hR
    obtain ⟨hJ2, e338⟩ := hR
    replace hJ2 : OKL list1 ∧ List.length list1 = List.length list := hJ2
    have e339 := e172.trans (Go.Am.then_eq e338)
    refine AW.seq (AW.seq (AW.wf_arr (id := 22) (ep := 1) (t := (.named 0)) (xs := (list1 : List Dep)) (by kernel_rfl) fun ha340 _ => ?_))
    replace ha340 : ((List.length list1 : Nat) : Int) ≤ 4294967296 := ha340
    refine AW.r1U hC [5, 13] [22] [(13, .int .i64 0)] [] ?_
    refine AW.cutQ (α := (List Dep)) (fun x => ⟨[(5, .arr 22 1)], [(22, .arr 1 (.named 0) (x : List Dep))]⟩) (fun x => (OKL x ∧ List.length x ≤ 48) ∧ (iMinCover_l4 (List.length list1 - 0 + 1) 0 list1) = x) ?_ ?_
    ·
     skip
     refine AW.block (AW.loopR (α := Nat × (List Dep)) (fun x => ⟨[(5, .arr 22 1), (13, .int .i64 ((x.1 : Nat) : Int))], [(22, .arr 1 (.named 0) (x.2 : List Dep))]⟩) (fun x => (OKL x.2 ∧ List.length x.2 ≤ 48) ∧ ∃ k, List.length x.2 - x.1 < k ∧ (iMinCover_l4 (List.length list1 - 0 + 1) 0 list1) = iMinCover_l4 k x.1 x.2) (fun x => List.length x.2 - x.1) (0, list1) (by kernel_rfl) ⟨?_, _, Nat.lt_succ_self _, rfl⟩ ?_)
     ·
      show OKL list1 ∧ List.length list1 ≤ 48
      exact ⟨hJ2.1, by omega⟩
     ·
      intro x hR
      obtain ⟨i, list2⟩ := x
      obtain ⟨hI4, k391, hk389, e390⟩ := hR
      replace hI4 : OKL list2 ∧ List.length list2 ≤ 48 := hI4
      replace hk389 : List.length list2 - i < k391 := hk389
      obtain ⟨k391q, rfl⟩ : ∃ k, k391 = k + 1 := ⟨k391 - 1, by omega⟩
      refine AW.seq (AW.seq (AW.wf_arr (id := 22) (ep := 1) (t := (.named 0)) (xs := (list2 : List Dep)) (by kernel_rfl) fun ha392 _ => ?_))
      replace ha392 : ((List.length list2 : Nat) : Int) ≤ 4294967296 := ha392
      refine AW.r1U hC [5, 13, 94] [22] [(94, .bool (decide (((i : Nat) : Int) < ((List.length list2 : Nat) : Int))))] [] ?_
      refine AW.cd (decide (((i : Nat) : Int) < ((List.length list2 : Nat) : Int))) ?_ ?_
      ·
       intro h393
       have h393q : ((i : Nat) : Int) < ((List.length list2 : Nat) : Int) := (of_decide_eq_true h393)
       have e394 := e390.trans (Go.Am.bif_t h393)
       refine AW.kpU [5, 13] [22] [] [] ?_
       refine AW.skip (AW.block (AW.seq (AW.wf_arr (id := 22) (ep := 1) (t := (.named 0)) (xs := (list2 : List Dep)) (by kernel_rfl) fun ha395 _ => ?_)))
       replace ha395 : ((List.length list2 : Nat) : Int) ≤ 4294967296 := ha395
       refine AW.d0U hC hM [5, 13, 14] [22, 412] [(14, .arr 412 1)] [(412, .arr 1 (.named 0) ((concat ([(List.take i (List.drop 0 list2)), (List.take (List.length list2 - (i + 1)) (List.drop (i + 1) list2))] : List (List Dep))) : List Dep))] [(0 ≤ ((i : Nat) : Int) ∧ ((i : Nat) : Int) ≤ ((List.length list2 : Nat) : Int)), (-9223372036854775808 ≤ ((i + 1 : Nat) : Int) ∧ ((i + 1 : Nat) : Int) ≤ 9223372036854775807), (0 ≤ ((i + 1 : Nat) : Int) ∧ ((i + 1 : Nat) : Int) ≤ ((List.length list2 : Nat) : Int)), ((List.length ([(List.take i (List.drop 0 list2)), (List.take (List.length list2 - (i + 1)) (List.drop (i + 1) list2))] : List (List Dep)) : Int) ≤ 1000 ∧ (∀ jj : Nat, jj < ([(List.take i (List.drop 0 list2)), (List.take (List.length list2 - (i + 1)) (List.drop (i + 1) list2))] : List (List Dep)).length → ((List.length (List.getD ([(List.take i (List.drop 0 list2)), (List.take (List.length list2 - (i + 1)) (List.drop (i + 1) list2))] : List (List Dep)) jj []) : Nat) : Int) ≤ 1000000))] ?_ ?_
       ·
        refine ⟨?_, ?_, ?_, ?_, trivial⟩
        ·
         omega
        ·
         omega
        ·
         omega
        ·
         rw [cc]
         exact two_ok (l := list2) (by omega)
       refine AW.seq (AW.wf_arr (id := 22) (ep := 1) (t := (.named 0)) (xs := (list2 : List Dep)) (by kernel_rfl) fun ha396 _ => ?_)
       replace ha396 : ((List.length list2 : Nat) : Int) ≤ 4294967296 := ha396
       refine AW.wf_arr (id := 412) (ep := 1) (t := (.named 0)) (xs := ((concat ([(List.take i (List.drop 0 list2)), (List.take (List.length list2 - (i + 1)) (List.drop (i + 1) list2))] : List (List Dep))) : List Dep)) (by kernel_rfl) fun ha397 _ => ?_
       replace ha397 : ((List.length (concat ([(List.take i (List.drop 0 list2)), (List.take (List.length list2 - (i + 1)) (List.drop (i + 1) list2))] : List (List Dep))) : Nat) : Int) ≤ 4294967296 := ha397
       refine AW.r0U hC [5, 13, 14, 109] [22, 412] [(109, .bool (iimplies (concat ([(List.take i (List.drop 0 list2)), (List.take (List.length list2 - (i + 1)) (List.drop (i + 1) list2))] : List (List Dep))) (List.getD list2 i Dep.zero)))] [] [(0 ≤ ((i : Nat) : Int) ∧ ((i : Nat) : Int) < ((List.length list2 : Nat) : Int)), (((0 ≤ (List.getD list2 i Dep.zero).From ∧ (List.getD list2 i Dep.zero).From < 64) ∧ (0 ≤ (List.getD list2 i Dep.zero).To ∧ (List.getD list2 i Dep.zero).To < 64)) ∧ OKL (concat ([(List.take i (List.drop 0 list2)), (List.take (List.length list2 - (i + 1)) (List.drop (i + 1) list2))] : List (List Dep))))] ?_ ?_
       ·
        refine ⟨?_, ?_, trivial⟩
        ·
         omega
        ·
         rw [cc]
         exact ⟨hI4.1.at (by omega), hI4.1.rest _⟩
       refine AW.cd (iimplies (concat ([(List.take i (List.drop 0 list2)), (List.take (List.length list2 - (i + 1)) (List.drop (i + 1) list2))] : List (List Dep))) (List.getD list2 i Dep.zero)) ?_ ?_
       ·
        intro h398
        have h398q : (iimplies (concat ([(List.take i (List.drop 0 list2)), (List.take (List.length list2 - (i + 1)) (List.drop (i + 1) list2))] : List (List Dep))) (List.getD list2 i Dep.zero)) = true := h398
        have e399 := e394.trans (Go.Am.bif_t h398)
        refine AW.wf_arr (id := 22) (ep := 1) (t := (.named 0)) (xs := (list2 : List Dep)) (by kernel_rfl) fun ha400 _ => ?_
        replace ha400 : ((List.length list2 : Nat) : Int) ≤ 4294967296 := ha400
        refine AW.wf_arr (id := 412) (ep := 1) (t := (.named 0)) (xs := ((concat ([(List.take i (List.drop 0 list2)), (List.take (List.length list2 - (i + 1)) (List.drop (i + 1) list2))] : List (List Dep))) : List Dep)) (by kernel_rfl) fun ha401 _ => ?_
        replace ha401 : ((List.length (concat ([(List.take i (List.drop 0 list2)), (List.take (List.length list2 - (i + 1)) (List.drop (i + 1) list2))] : List (List Dep))) : Nat) : Int) ≤ 4294967296 := ha401
        refine AW.r1U hC [5, 13] [412] [(5, .arr 412 1)] [] ?_
        refine AW.backR (x := (i, list2)) (i, (concat ([(List.take i (List.drop 0 list2)), (List.take (List.length list2 - (i + 1)) (List.drop (i + 1) list2))] : List (List Dep)))) (Turn.of [5, 13] [412] [(412, 22)] [5, 13] [22] (by kernel_rfl)) ⟨?_, k391q, ?_, e399⟩ ?_
        ·
         show OKL (concat ([(List.take i (List.drop 0 list2)), (List.take (List.length list2 - (i + 1)) (List.drop (i + 1) list2))] : List (List Dep))) ∧ List.length (concat ([(List.take i (List.drop 0 list2)), (List.take (List.length list2 - (i + 1)) (List.drop (i + 1) list2))] : List (List Dep))) ≤ 48
         rw [cc]
         exact ⟨hI4.1.rest _, by rw [concat_len (by omega)]; omega⟩
        ·
         show List.length (concat ([(List.take i (List.drop 0 list2)), (List.take (List.length list2 - (i + 1)) (List.drop (i + 1) list2))] : List (List Dep))) - i < k391q
         rw [cc, concat_len (by omega)]
         omega
        ·
         show List.length (concat ([(List.take i (List.drop 0 list2)), (List.take (List.length list2 - (i + 1)) (List.drop (i + 1) list2))] : List (List Dep))) - i < List.length list2 - i
         rw [cc, concat_len (by omega)]
         omega
       ·
        intro h402
        have h402q : (iimplies (concat ([(List.take i (List.drop 0 list2)), (List.take (List.length list2 - (i + 1)) (List.drop (i + 1) list2))] : List (List Dep))) (List.getD list2 i Dep.zero)) = false := h402
        have e403 := e394.trans (Go.Am.bif_f h402)
        refine AW.wf_arr (id := 22) (ep := 1) (t := (.named 0)) (xs := (list2 : List Dep)) (by kernel_rfl) fun ha404 _ => ?_
        replace ha404 : ((List.length list2 : Nat) : Int) ≤ 4294967296 := ha404
        refine AW.wf_arr (id := 412) (ep := 1) (t := (.named 0)) (xs := ((concat ([(List.take i (List.drop 0 list2)), (List.take (List.length list2 - (i + 1)) (List.drop (i + 1) list2))] : List (List Dep))) : List Dep)) (by kernel_rfl) fun ha405 _ => ?_
        replace ha405 : ((List.length (concat ([(List.take i (List.drop 0 list2)), (List.take (List.length list2 - (i + 1)) (List.drop (i + 1) list2))] : List (List Dep))) : Nat) : Int) ≤ 4294967296 := ha405
        refine AW.r0U hC [5, 13] [22] [(13, .int .i64 ((i + 1 : Nat) : Int))] [] [(-9223372036854775808 ≤ ((i + 1 : Nat) : Int) ∧ ((i + 1 : Nat) : Int) ≤ 9223372036854775807)] ?_ ?_
        ·
         refine ⟨?_, trivial⟩
         ·
          omega
        refine AW.backR (x := (i, list2)) (i + 1, list2) (Turn.eq (by kernel_rfl)) ⟨?_, k391q, ?_, e403⟩ ?_
        ·
         show OKL list2 ∧ List.length list2 ≤ 48
         exact hI4
        ·
         show List.length list2 - (i + 1) < k391q
         omega
        ·
         show List.length list2 - (i + 1) < List.length list2 - i
         omega
      ·
       intro h406
       have h406q : ¬ (((i : Nat) : Int) < ((List.length list2 : Nat) : Int)) := (of_decide_eq_false h406)
       have e407 := e390.trans (Go.Am.bif_f h406)
       refine AW.kpU [5] [22] [] [] ?_
       refine AW.exit ?_
       refine AW.meet list2 (by kernel_rfl) ⟨?_, e407⟩
       show OKL list2 ∧ List.length list2 ≤ 48
       assumption
    ·
     intro list2 hR
     obtain ⟨hJ4, e408⟩ := hR
     replace hJ4 : OKL list2 ∧ List.length list2 ≤ 48 := hJ4
     have e409 := e339.trans (Go.Am.then_eq e408)
     refine AW.seq (AW.wf_arr (id := 22) (ep := 1) (t := (.named 0)) (xs := (list2 : List Dep)) (by kernel_rfl) fun ha410 _ => ?_)
     replace ha410 : ((List.length list2 : Nat) : Int) ≤ 4294967296 := ha410
     refine AW.r1U hC [4] [22] [(4, .arr 22 1)] [] ?_
     exact AW.ret (AW.retE (β := (List Dep)) (fun v => [⟨(.slice (.named 0)), v⟩]) (fun v => []) (v := list2) e409 (by kernel_rfl) rfl rfl)

end
end Go.Proofs.Ytmijmkbnmcmgcaa
