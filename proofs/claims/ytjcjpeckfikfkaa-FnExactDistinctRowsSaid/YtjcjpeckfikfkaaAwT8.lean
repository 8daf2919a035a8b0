/-
  A part of the proof of this claim (AwT8): what functions of the program compute, and plain facts of that. No conditions.
-/
import Derived.Test.YtjcjpeckfikfkaaAwT2
import Derived.Test.YtjcjpeckfikfkaaAwL
set_option linter.all false
namespace Go.Proofs.Ytjcjpeckfikfkaa
open Go Go.Am
noncomputable section

def collectDO_sp : FnSpec := mkSpec [.val (.int .i64), .clo 107 (.slice (.slice (.named 1)))] [.deep (.named 2)] (fun (width : Int) (rows : List (List Val)) => RowsOK rows) (fun (width : Int) (rows : List (List Val)) => [⟨(.named 2), (collectD width rows)⟩])

theorem collectDO_ok : FnOK Try.prog 62 collectDO_sp := by
 have hC : CtxOK Try.prog { (mkCtx tyL [(95, icopied_sp)]) with deep := true } := CtxOK.deepen (CtxOK.cons icopied_ok (CtxOK.nil tyOK))
 have hM : Try.prog.follows .mixedOrders = true := Try.checked.mixed
 have hC1 := hC.rebase 1000
 refine FnOK.of_bodyR Try.func62 (by kernel_rfl) rfl (C := { (mkCtx tyL [(95, icopied_sp)]) with deep := true }) hC.ty (by kernel_rfl) ?_
 intro (width : Int) (rows : List (List Val)) hwf hpre E hro
 have hpre : RowsOK rows := hpre
 have hw_width : Wf ⟨(.int .i64), (width : Int)⟩ := hwf _ (List.Mem.head _)
 have hr_width : -9223372036854775808 ≤ width ∧ width ≤ 9223372036854775807 := hw_width.int_inv
 have hw_rows : Wf ⟨(.slice (.slice (.named 1))), (rows : List (List Val))⟩ := hwf _ (List.Mem.tail _ (List.Mem.head _))
 have hl_rows : ((List.length rows : Nat) : Int) ≤ 9223372036854775807 := hw_rows.len
 have e0 : collectD width rows = collectD width rows := rfl
 refine AW.seq (AW.r1 hC [1, 2, 4] [8, 16] ⟨[(1, .clo 107 [.dref (.slice (.slice (.named 1))) (rows : List (List Val))]), (2, .ref 8 1 0), (4, .ref 16 1 0)], [(8, .box 1 [.int .i64 width]), (16, .box 1 [.int .i64 0, .nilsl])]⟩ ?_)
 refine AW.seq (AW.r1 hC [1, 2, 4, 5] [8, 16, 20] ⟨[(1, .clo 107 [.dref (.slice (.slice (.named 1))) (rows : List (List Val))]), (2, .ref 8 1 0), (4, .ref 16 1 0), (5, .ref 20 1 0)], [(8, .box 1 [.int .i64 width]), (16, .box 1 [.int .i64 0, .nilsl]), (20, .box 1 [.nilsl])]⟩ ?_)
 refine AW.seq (AW.seq (AW.r1 hC [2, 4, 5, 7] [8, 16, 20] ⟨[(2, .ref 8 1 0), (4, .ref 16 1 0), (5, .ref 20 1 0), (7, .clo 107 [.dref (.slice (.slice (.named 1))) (rows : List (List Val))])], [(8, .box 1 [.int .i64 width]), (16, .box 1 [.int .i64 0, .nilsl]), (20, .box 1 [.nilsl])]⟩ ?_))
 refine AW.block (AW.adoptBT 20 1 0 22 [.nilsl] (.slice (.named 1)) (by kernel_rfl) (by kernel_rfl) (by kernel_rfl) ?_)
 refine AW.kp [2, 4, 5, 7] [8, 16, 20, 22] ⟨[(2, .ref 8 1 0), (4, .ref 16 1 0), (5, .ref 20 1 0), (7, .clo 107 [.dref (.slice (.slice (.named 1))) (rows : List (List Val))])], [(8, .box 1 [.int .i64 width]), (16, .box 1 [.int .i64 0, .nilsl]), (20, .box 1 [.tr 22 1]), (22, .tree 1 (.slice (.named 1)) (([] : List (List Val)) : List (List Val)))]⟩ ?_
 refine AW.cutQ (α := (List (List Val))) (fun x => ⟨[(2, .ref 8 1 0), (4, .ref 16 1 0), (5, .ref 20 1 0), (7, .clo 107 [.dref (.slice (.slice (.named 1))) (rows : List (List Val))])], [(8, .box 1 [.int .i64 width]), (16, .box 1 [.int .i64 0, .nilsl]), (20, .box 1 [.tr 22 1]), (22, .tree 1 (.slice (.named 1)) (x : List (List Val)))]⟩) (fun x => ((∀ r ∈ x, r ∈ rows) ∧ List.length x ≤ 400) ∧ (collectD_l0 width (diffRows rows) ([] : List (List Val))) = (.inl x)) ?_ ?_
 ·
  skip
  refine AW.rangeFuncP (α := (List (List Val))) hro Try.func107 rfl rfl (by rfl) (by decide) (fun x => ⟨[(2, .ref 8 1 0), (4, .ref 16 1 0), (5, .ref 20 1 0), (7, .clo 107 [.dref (.slice (.slice (.named 1))) (rows : List (List Val))])], [(8, .box 1 [.int .i64 width]), (16, .box 1 [.int .i64 0, .nilsl]), (20, .box 1 [.tr 22 1]), (22, .tree 1 (.slice (.named 1)) (x : List (List Val)))]⟩) (fun k x => ((∀ r ∈ x, r ∈ rows) ∧ List.length x ≤ 400) ∧ (collectD_l0 width (diffRows rows) ([] : List (List Val))) = collectD_l0 width (List.drop k (diffRows rows)) x) (List.map (SV.data (.slice (.named 1))) ((diffRows rows) : List (List Val))) [2, 4, 5, 7] [8, 16, 20, 22] (fun x => by kernel_rfl) ([] : List (List Val)) diff_hit (by kernel_rfl) ⟨?_, by rw [List.drop_zero]⟩ ?_ ?_
  ·
   show (∀ r ∈ ([] : List (List Val)), r ∈ rows) ∧ List.length ([] : List (List Val)) ≤ 400
   exact ⟨fun r hr => (by cases hr), Nat.zero_le _⟩
  ·
   intro k ar22 sv hsv hR E1
   obtain ⟨hI0, he28⟩ := hR
   replace hI0 : (∀ r ∈ ar22, r ∈ rows) ∧ List.length ar22 ≤ 400 := hI0
   obtain ⟨v8, hd30, rfl, hy31⟩ : ∃ y : List Val, List.drop k (diffRows rows) = y :: List.drop (k + 1) (diffRows rows) ∧ sv = SV.data (.slice (.named 1)) y ∧ y ∈ (diffRows rows) := els_data hsv
   have e29 : (collectD_l0 width (diffRows rows) ([] : List (List Val))) = collectD_l0 width (v8 :: List.drop (k + 1) (diffRows rows)) ar22 := he28.trans (by rw [hd30])
   have hym := diffP_mem hy31
   have hyl := hpre.len hym
   refine AW.kp [2, 4, 5, 7, 8, 1002, 1004, 1005, 1007] [8, 16, 20, 22] ⟨[(2, .ref 8 1 0), (4, .ref 16 1 0), (5, .ref 20 1 0), (7, .clo 107 [.dref (.slice (.slice (.named 1))) (rows : List (List Val))]), (8, .data (.slice (.named 1)) (v8 : List Val)), (1002, .ref 8 1 0), (1004, .ref 16 1 0), (1005, .ref 20 1 0), (1007, .clo 107 [.dref (.slice (.slice (.named 1))) (rows : List (List Val))])], [(8, .box 1 [.int .i64 width]), (16, .box 1 [.int .i64 0, .nilsl]), (20, .box 1 [.tr 22 1]), (22, .tree 1 (.slice (.named 1)) (ar22 : List (List Val)))]⟩ ?_
   refine AW.wf_tree (id := 22) (ep := 1) (t := (.slice (.named 1))) (xs := (ar22 : List (List Val))) (by kernel_rfl) fun ha32 _ => ?_
   replace ha32 : ((List.length ar22 : Nat) : Int) ≤ 4294967296 := ha32
   refine AW.r1 hC1 [2, 4, 5, 6, 1002, 1004, 1005, 1007] [8, 16, 20, 22] ⟨[(2, .ref 8 1 0), (4, .ref 16 1 0), (5, .ref 20 1 0), (6, .data (.slice (.named 1)) (v8 : List Val)), (1002, .ref 8 1 0), (1004, .ref 16 1 0), (1005, .ref 20 1 0), (1007, .clo 107 [.dref (.slice (.slice (.named 1))) (rows : List (List Val))])], [(8, .box 1 [.int .i64 width]), (16, .box 1 [.int .i64 0, .nilsl]), (20, .box 1 [.tr 22 1]), (22, .tree 1 (.slice (.named 1)) (ar22 : List (List Val)))]⟩ ?_
   intro E32
   refine AW.block (AW.seq (AW.seq (AW.wf_tree (id := 22) (ep := 1) (t := (.slice (.named 1))) (xs := (ar22 : List (List Val))) (by kernel_rfl) fun ha33 _ => ?_)))
   replace ha33 : ((List.length ar22 : Nat) : Int) ≤ 4294967296 := ha33
   refine AW.r1 hC1 [2, 4, 5, 6, 11, 1002, 1004, 1005, 1007] [8, 16, 20, 22] ⟨[(2, .ref 8 1 0), (4, .ref 16 1 0), (5, .ref 20 1 0), (6, .data (.slice (.named 1)) (v8 : List Val)), (11, .bool (((List.length ar22 : Nat) : Int) == 400)), (1002, .ref 8 1 0), (1004, .ref 16 1 0), (1005, .ref 20 1 0), (1007, .clo 107 [.dref (.slice (.slice (.named 1))) (rows : List (List Val))])], [(8, .box 1 [.int .i64 width]), (16, .box 1 [.int .i64 0, .nilsl]), (20, .box 1 [.tr 22 1]), (22, .tree 1 (.slice (.named 1)) (ar22 : List (List Val)))]⟩ ?_
   refine AW.cd (((List.length ar22 : Nat) : Int) == 400) ?_ ?_
   ·
    intro h34
    have h34q : ((List.length ar22 : Nat) : Int) = 400 := (Go.Am.beq_pos h34)
    have e35 := e29.trans (Go.Am.bif_t h34)
    refine AW.seq (AW.wf_tree (id := 22) (ep := 1) (t := (.slice (.named 1))) (xs := (ar22 : List (List Val))) (by kernel_rfl) fun ha36 _ => ?_)
    replace ha36 : ((List.length ar22 : Nat) : Int) ≤ 4294967296 := ha36
    refine AW.r1 hC1 [4, 1002, 1004, 1005, 1007] [8, 16, 20, 22] ⟨[(4, .ref 16 1 0), (1002, .ref 8 1 0), (1004, .ref 16 1 0), (1005, .ref 20 1 0), (1007, .clo 107 [.dref (.slice (.slice (.named 1))) (rows : List (List Val))])], [(8, .box 1 [.int .i64 width]), (16, .box 1 [.int .i64 width, .nilsl]), (20, .box 1 [.tr 22 1]), (22, .tree 1 (.slice (.named 1)) (ar22 : List (List Val)))]⟩ ?_
    refine AW.ret ?_
    have e37 := e0.trans (Go.Am.elim_r e35)
    exact AW.retE (β := Tab) (fun v => [⟨(.named 2), v⟩]) (fun v => []) (v := (Tab.mk width ([] : List (List Val)))) e37 (by kernel_rfl) rfl rfl
   ·
    intro h38
    have h38q : ((List.length ar22 : Nat) : Int) ≠ 400 := (Go.Am.beq_neg h38)
    have e39 := e29.trans (Go.Am.bif_f h38)
    refine AW.kp [5, 6, 1002, 1004, 1005, 1007] [8, 16, 20, 22] ⟨[(5, .ref 20 1 0), (6, .data (.slice (.named 1)) (v8 : List Val)), (1002, .ref 8 1 0), (1004, .ref 16 1 0), (1005, .ref 20 1 0), (1007, .clo 107 [.dref (.slice (.slice (.named 1))) (rows : List (List Val))])], [(8, .box 1 [.int .i64 width]), (16, .box 1 [.int .i64 0, .nilsl]), (20, .box 1 [.tr 22 1]), (22, .tree 1 (.slice (.named 1)) (ar22 : List (List Val)))]⟩ ?_
    refine AW.skip (AW.wf_tree (id := 22) (ep := 1) (t := (.slice (.named 1))) (xs := (ar22 : List (List Val))) (by kernel_rfl) fun ha40 _ => ?_)
    replace ha40 : ((List.length ar22 : Nat) : Int) ≤ 4294967296 := ha40
    refine AW.d0 hC1 hM [1002, 1004, 1005, 1007] [8, 16, 20, 22] ⟨[(1002, .ref 8 1 0), (1004, .ref 16 1 0), (1005, .ref 20 1 0), (1007, .clo 107 [.dref (.slice (.slice (.named 1))) (rows : List (List Val))])], [(8, .box 1 [.int .i64 width]), (16, .box 1 [.int .i64 0, .nilsl]), (20, .box 1 [.tr 22 1]), (22, .tree 1 (.slice (.named 1)) ((ar22 ++ ([(icopied v8)] : List (List Val))) : List (List Val)))]⟩ [((List.length v8 : Int) ≤ 4294967296), (((List.length ar22 : Nat) : Int) + ((List.length ([(icopied v8)] : List (List Val)) : Nat) : Int) ≤ 4294967296)] ?_ ?_
    ·
     refine ⟨?_, ?_, trivial⟩
     ·
      omega
     ·
      simp only [lens] at *; omega
    refine ⟨(ar22 ++ ([(icopied v8)] : List (List Val))), by kernel_rfl, ?_, e39⟩
    show (∀ r ∈ (ar22 ++ ([(icopied v8)] : List (List Val))), r ∈ rows) ∧ List.length (ar22 ++ ([(icopied v8)] : List (List Val))) ≤ 400
    refine ⟨fun r hr => ?_, by simp only [List.length_append, List.length_cons, List.length_nil]; omega⟩
    rcases List.mem_append.1 hr with h | h
    ·
     exact hI0.1 r h
    ·
     rw [List.mem_singleton.1 h, icopied_eq]; exact hym
  ·
   intro ar22 hR
   obtain ⟨hI0, he28⟩ := hR
   replace hI0 : (∀ r ∈ ar22, r ∈ rows) ∧ List.length ar22 ≤ 400 := hI0
   have e29 : (collectD_l0 width (diffRows rows) ([] : List (List Val))) = collectD_l0 width [] ar22 := he28.trans (by rw [List.drop_of_length_le (show List.length (diffRows rows) ≤ _ from Nat.le_of_eq (List.length_map (SV.data (.slice (.named 1)))).symm)])
   refine AW.meet ar22 (by kernel_rfl) ⟨?_, e29⟩
   show (∀ r ∈ ar22, r ∈ rows) ∧ List.length ar22 ≤ 400
   exact hI0
 ·
  intro ar22 hR
  obtain ⟨hJ0, e41⟩ := hR
  replace hJ0 : (∀ r ∈ ar22, r ∈ rows) ∧ List.length ar22 ≤ 400 := hJ0
  have e42 := e0.trans (Go.Am.elim_l e41)
  refine AW.seq (AW.wf_tree (id := 22) (ep := 1) (t := (.slice (.named 1))) (xs := (ar22 : List (List Val))) (by kernel_rfl) fun ha43 _ => ?_)
  replace ha43 : ((List.length ar22 : Nat) : Int) ≤ 4294967296 := ha43
  refine AW.regionO [0, 1] (by rfl) ?_
  refine AWO.run hC false [] [0] [1] [2, 4, 5, 19] [8, 16, 20, 22]
   ⟨[(2, .ref 8 1 0), (4, .ref 16 1 0), (5, .ref 20 1 0), (19, .tr 22 1)], [(8, .box 1 [.int .i64 width]), (16, .box 1 [.int .i64 0, .nilsl]), (20, .box 1 [.tr 22 1]), (22, .tree 1 (.slice (.named 1)) (ar22 : List (List Val)))]⟩
   [] (by rfl) (by kernel_rfl) ?_ ?_
  ·
   exact trivial
  refine AWO.sortT (id := 22) (ep := 1) (xs := (ar22 : List (List Val))) sortRowsT (by rfl) (by rfl) (by kernel_rfl) (by kernel_rfl) (by kernel_rfl) ?_ ?_
  ·
   show RowsOK ar22
   exact hpre.sub hJ0.1
  refine AWO.keep [2, 4, 5] [8, 16, 20, 22] ⟨[(2, .ref 8 1 0), (4, .ref 16 1 0), (5, .ref 20 1 0)], [(8, .box 1 [.int .i64 width]), (16, .box 1 [.int .i64 0, .nilsl]), (20, .box 1 [.tr 22 1]), (22, .tree 1 (.slice (.named 1)) ((srtRows ar22) : List (List Val)))]⟩ (by kernel_rfl) ?_
  refine AWO.run hC false [] [] [] [2, 4, 5] [8, 16, 20, 22]
   ⟨[(2, .ref 8 1 0), (4, .ref 16 1 0), (5, .ref 20 1 0)], [(8, .box 1 [.int .i64 width]), (16, .box 1 [.int .i64 0, .nilsl]), (20, .box 1 [.tr 22 1]), (22, .tree 1 (.slice (.named 1)) ((srtRows ar22) : List (List Val)))]⟩
   [] (by rfl) (by kernel_rfl) ?_ ?_
  ·
   exact trivial
  refine AWO.nil ?_
  refine AW.seq (AW.wf_tree (id := 22) (ep := 1) (t := (.slice (.named 1))) (xs := ((srtRows ar22) : List (List Val))) (by kernel_rfl) fun ha44 _ => ?_)
  replace ha44 : ((List.length (srtRows ar22) : Nat) : Int) ≤ 4294967296 := ha44
  refine AW.r1 hC [4] [16, 22] ⟨[(4, .ref 16 1 0)], [(16, .box 1 [.int .i64 width, .tr 22 1]), (22, .tree 1 (.slice (.named 1)) ((srtRows ar22) : List (List Val)))]⟩ ?_
  exact AW.ret (AW.retE (β := Tab) (fun v => [⟨(.named 2), v⟩]) (fun v => []) (v := (Tab.mk width (srtRows ar22))) e42 (by kernel_rfl) rfl rfl)

def iDistinctRowsO_sp : FnSpec := mkSpec [.val (.named 2)] [.deep (.named 2), .val .bool] (fun (t : Tab) => True) (fun (t : Tab) => [⟨(.named 2), ((iDistinctRows t).1)⟩, ⟨.bool, ((iDistinctRows t).2)⟩])

theorem iDistinctRowsO_ok : FnOK Try.prog 30 iDistinctRowsO_sp := by
 have hC : CtxOK Try.prog { (mkCtx tyL [(19, ValidTable_sp), (62, collectDO_sp), (79, differentRowsF_sp)]) with deep := true } := CtxOK.deepen (CtxOK.cons ValidTable_ok (CtxOK.cons collectDO_ok (CtxOK.cons differentRowsF_ok (CtxOK.nil tyOK))))
 have hM : Try.prog.follows .mixedOrders = true := Try.checked.mixed
 refine FnOK.of_body Try.func30 (by kernel_rfl) rfl (C := { (mkCtx tyL [(19, ValidTable_sp), (62, collectDO_sp), (79, differentRowsF_sp)]) with deep := true }) hC.ty (by kernel_rfl) ?_
 intro (t : Tab) hwf hpre E
 have hpre : True := hpre
 have hw_t : Wf ⟨(.named 2), (t : Tab)⟩ := hwf _ (List.Mem.head _)
 have hr_t_Width : -9223372036854775808 ≤ Tab.Width t ∧ Tab.Width t ≤ 9223372036854775807 := (hw_t.field (tv := ⟨(.int .i64), Tab.Width t⟩) (List.Mem.head _)).int_inv
 have hl_t_Rows : ((List.length (Tab.Rows t) : Nat) : Int) ≤ 9223372036854775807 := (hw_t.field (tv := ⟨(.slice (.slice (.named 1))), Tab.Rows t⟩) (List.Mem.tail _ (List.Mem.head _))).len
 have e0 : iDistinctRows t = iDistinctRows t := rfl
 refine AW.seq (AW.r1 hC [1, 2] [4, 8] ⟨[(1, .ref 4 1 0), (2, .ref 8 1 0)], [(4, .box 1 [.int .i64 (Tab.Width t), .data (.slice (.slice (.named 1))) ((Tab.Rows t) : List (List Val))]), (8, .box 1 [.int .i64 0, .nilsl])]⟩ ?_)
 refine AW.seq (AW.seq (AW.r0 hC [1, 2, 6] [4, 8] ⟨[(1, .ref 4 1 0), (2, .ref 8 1 0), (6, .bool (!(ValidTable t)))], [(4, .box 1 [.int .i64 (Tab.Width t), .data (.slice (.slice (.named 1))) ((Tab.Rows t) : List (List Val))]), (8, .box 1 [.int .i64 0, .nilsl])]⟩ [(True)] ?_ ?_))
 ·
  refine ⟨?_, trivial⟩
  ·
   trivial
 refine AW.cd (!(ValidTable t)) ?_ ?_
 ·
  intro h1
  have h1q : (ValidTable t) = false := (Go.Am.not_pos h1)
  have e2 := e0.trans (Go.Am.bif_t h1)
  refine AW.seq (AW.r1 hC [2, 3] [8] ⟨[(2, .ref 8 1 0), (3, .bool false)], [(8, .box 1 [.int .i64 0, .nilsl])]⟩ ?_)
  exact AW.ret (AW.retE (β := Tab × Bool) (fun v => [⟨(.named 2), v.1⟩, ⟨.bool, v.2⟩]) (fun v => []) (v := ((Tab.mk 0 ([] : List (List Val))), false)) e2 (by kernel_rfl) rfl rfl)
 ·
  intro h3
  have h3q : (ValidTable t) = true := (Go.Am.not_neg h3)
  have e4 := e0.trans (Go.Am.bif_f h3)
  refine AW.kp [1, 2] [4, 8] ⟨[(1, .ref 4 1 0), (2, .ref 8 1 0)], [(4, .box 1 [.int .i64 (Tab.Width t), .data (.slice (.slice (.named 1))) ((Tab.Rows t) : List (List Val))]), (8, .box 1 [.int .i64 0, .nilsl])]⟩ ?_
  refine AW.skip (AW.seq (AW.d0 hC hM [2, 3] [8, 52] ⟨[(2, .ref 8 1 0), (3, .bool true)], [(8, .box 1 [.int .i64 (Tab.Width (collectD (Tab.Width t) (differentRowsF (Tab.Rows t)))), .tr 52 1]), (52, .tree 1 (.slice (.named 1)) ((Tab.Rows (collectD (Tab.Width t) (differentRowsF (Tab.Rows t)))) : List (List Val)))]⟩ [(True), (RowsOK (differentRowsF (Tab.Rows t)))] ?_ ?_))
  ·
   refine ⟨?_, ?_, trivial⟩
   ·
    trivial
   ·
    exact (ValidTable_iff.1 h3q).rowsOK
  exact AW.ret (AW.retE (β := Tab × Bool) (fun v => [⟨(.named 2), v.1⟩, ⟨.bool, v.2⟩]) (fun v => []) (v := ((collectD (Tab.Width t) (differentRowsF (Tab.Rows t))), true)) e4 (by kernel_rfl) rfl rfl)

end
end Go.Proofs.Ytjcjpeckfikfkaa
