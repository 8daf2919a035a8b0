/-
  A part of the proof of this claim (AwTB): what functions of the program compute, and plain facts of that. No conditions.
-/
import Derived.Test.YtjcjpeckfikfkaaAwT2
import Derived.Test.YtjcjpeckfikfkaaAyC
set_option linter.all false
namespace Go.Proofs.Ytjcjpeckfikfkaa
open Go Go.Am
noncomputable section

def iScanRangeO_sp : FnSpec := mkSpec [.val (.named 2), .val (.int .i64), .val (.named 0)] [.deep (.named 2), .val .bool] (fun (t : Tab) (col : Int) (r : Rng) => True) (fun (t : Tab) (col : Int) (r : Rng) => [⟨(.named 2), ((iScanRange t col r).1)⟩, ⟨.bool, ((iScanRange t col r).2)⟩])

theorem iScanRangeO_ok : FnOK Try.prog 48 iScanRangeO_sp := by
 have hC : CtxOK Try.prog { (mkCtx tyL [(84, hasColumn_sp), (95, icopied_sp)]) with deep := true } := CtxOK.deepen (CtxOK.cons hasColumn_ok (CtxOK.cons icopied_ok (CtxOK.nil tyOK)))
 have hM : Try.prog.follows .mixedOrders = true := Try.checked.mixed
 have hC1 := hC.rebase 1000
 have hC2 := hC.rebase 2000
 have hC3 := hC.rebase 3000
 refine FnOK.of_bodyR Try.func48 (by kernel_rfl) rfl (C := { (mkCtx tyL [(84, hasColumn_sp), (95, icopied_sp)]) with deep := true }) hC.ty (by kernel_rfl) ?_
 intro (t : Tab) (col : Int) (r : Rng) hwf hpre E hro
 have hpre : True := hpre
 have hw_t : Wf ⟨(.named 2), (t : Tab)⟩ := hwf _ (List.Mem.head _)
 have hr_t_Width : -9223372036854775808 ≤ Tab.Width t ∧ Tab.Width t ≤ 9223372036854775807 := (hw_t.field (tv := ⟨(.int .i64), Tab.Width t⟩) (List.Mem.head _)).int_inv
 have hl_t_Rows : ((List.length (Tab.Rows t) : Nat) : Int) ≤ 9223372036854775807 := (hw_t.field (tv := ⟨(.slice (.slice (.named 1))), Tab.Rows t⟩) (List.Mem.tail _ (List.Mem.head _))).len
 have hw_col : Wf ⟨(.int .i64), (col : Int)⟩ := hwf _ (List.Mem.tail _ (List.Mem.head _))
 have hr_col : -9223372036854775808 ≤ col ∧ col ≤ 9223372036854775807 := hw_col.int_inv
 have hw_r : Wf ⟨(.named 0), (r : Rng)⟩ := hwf _ (List.Mem.tail _ (List.Mem.tail _ (List.Mem.head _)))
 have hr_r_Low : -9223372036854775808 ≤ Rng.Low r ∧ Rng.Low r ≤ 9223372036854775807 := (hw_r.field (tv := ⟨(.int .i64), Rng.Low r⟩) (List.Mem.head _)).int_inv
 have hr_r_High : -9223372036854775808 ≤ Rng.High r ∧ Rng.High r ≤ 9223372036854775807 := (hw_r.field (tv := ⟨(.int .i64), Rng.High r⟩) (List.Mem.tail _ (List.Mem.head _))).int_inv
 have e0 : iScanRange t col r = iScanRange t col r := rfl
 refine AW.seq (AW.regionO [0, 1, 2, 3, 4] (by rfl) ?_)
 refine AWO.boxD (t := (.named 2)) (sv := .data (.named 2) (t : Tab)) (y := (t : Tab)) (by rfl) (by rfl) (by kernel_rfl) (by kernel_rfl) (by kernel_rfl) ?_
 refine AWO.keep [1, 2, 3] [] ⟨[(1, .int .i64 col), (2, .data (.named 0) (r : Rng)), (3, .dref (.named 2) (t : Tab))], []⟩ (by kernel_rfl) ?_
 refine AWO.boxD (t := (.int .i64)) (sv := .int .i64 col) (y := (col : Int)) (by rfl) (by rfl) (by kernel_rfl) (by kernel_rfl) (by kernel_rfl) ?_
 refine AWO.keep [2, 3, 4] [] ⟨[(2, .data (.named 0) (r : Rng)), (3, .dref (.named 2) (t : Tab)), (4, .dref (.int .i64) (col : Int))], []⟩ (by kernel_rfl) ?_
 refine AWO.boxD (t := (.named 0)) (sv := .data (.named 0) (r : Rng)) (y := (r : Rng)) (by rfl) (by rfl) (by kernel_rfl) (by kernel_rfl) (by kernel_rfl) ?_
 refine AWO.keep [3, 4, 5] [] ⟨[(3, .dref (.named 2) (t : Tab)), (4, .dref (.int .i64) (col : Int)), (5, .dref (.named 0) (r : Rng))], []⟩ (by kernel_rfl) ?_
 refine AWO.run hC false [] [3, 4] [] [3, 4, 5, 6] [24]
  ⟨[(3, .dref (.named 2) (t : Tab)), (4, .dref (.int .i64) (col : Int)), (5, .dref (.named 0) (r : Rng)), (6, .ref 24 1 0)], [(24, .box 1 [.int .i64 0, .nilsl])]⟩
  [] (by rfl) (by kernel_rfl) ?_ ?_
 ·
  exact trivial
 refine AWO.nil ?_
 refine AW.seq (AW.seq (AW.r0 hC [3, 4, 5, 6, 11] [24] ⟨[(3, .dref (.named 2) (t : Tab)), (4, .dref (.int .i64) (col : Int)), (5, .dref (.named 0) (r : Rng)), (6, .ref 24 1 0), (11, .bool (!(hasColumn t col)))], [(24, .box 1 [.int .i64 0, .nilsl])]⟩ [(True)] ?_ ?_))
 ·
  refine ⟨?_, trivial⟩
  ·
   trivial
 refine AW.cd (!(hasColumn t col)) ?_ ?_
 ·
  intro h1
  have h1q : (hasColumn t col) = false := (Go.Am.not_pos h1)
  have e2 := e0.trans (Go.Am.bif_t h1)
  refine AW.seq (AW.r1 hC [6, 7] [24] ⟨[(6, .ref 24 1 0), (7, .bool false)], [(24, .box 1 [.int .i64 0, .nilsl])]⟩ ?_)
  exact AW.ret (AW.retE (β := Tab × Bool) (fun v => [⟨(.named 2), v.1⟩, ⟨.bool, v.2⟩]) (fun v => []) (v := ((Tab.mk 0 ([] : List (List Val))), false)) e2 (by kernel_rfl) rfl rfl)
 ·
  intro h3
  have h3q : (hasColumn t col) = true := (Go.Am.not_neg h3)
  have e4 := e0.trans (Go.Am.bif_f h3)
  refine AW.kp [3, 4, 5, 6] [24] ⟨[(3, .dref (.named 2) (t : Tab)), (4, .dref (.int .i64) (col : Int)), (5, .dref (.named 0) (r : Rng)), (6, .ref 24 1 0)], [(24, .box 1 [.int .i64 0, .nilsl])]⟩ ?_
  refine AW.skip (AW.seq ?_)
  have hkp := col_ok h3q
  have hvt := (hasColumn_iff.1 h3q).1
  have hok := hvt.rowsOK
  have hn4 := hvt.n4
  have hkn : (keptRows t.Rows r col).length ≤ t.Rows.length := List.length_filter_le _ _
  refine AW.regionO [0, 1, 2, 3, 4] (by rfl) ?_
  refine AWO.run hC false [] [0, 1] [2, 3, 4] [6, 13, 14] [24]
   ⟨[(6, .ref 24 1 0), (13, .data (.named 2) (t : Tab)), (14, .clo 89 [.dref (.named 0) (r : Rng), .dref (.int .i64) (col : Int)])], [(24, .box 1 [.int .i64 0, .nilsl])]⟩
   [] (by rfl) (by kernel_rfl) ?_ ?_
  ·
   exact trivial
  refine AWO.call hC.ty (vs := [.data (.named 2) (t : Tab), .clo 89 [.dref (.named 0) (r : Rng), .dref (.int .i64) (col : Int)]]) (caps := []) (by rfl) rfl (.inl rfl) (by decide) (by kernel_rfl) (by kernel_rfl) Try.func88 (by kernel_rfl) rfl (by kernel_rfl) ?_
  intro o1 ho1
  refine AW.kp [0, 1, 1006] [24] ⟨[(0, .data (.named 2) (t : Tab)), (1, .clo 89 [.dref (.named 0) (r : Rng), .dref (.int .i64) (col : Int)]), (1006, .ref 24 1 0)], [(24, .box 1 [.int .i64 0, .nilsl])]⟩ ?_
  refine AW.seq (AW.regionO [0, 1, 2] (by rfl) ?_)
  refine AWO.boxD (t := (.named 2)) (sv := .data (.named 2) (t : Tab)) (y := (t : Tab)) (by rfl) (by rfl) (by kernel_rfl) (by kernel_rfl) (by kernel_rfl) ?_
  refine AWO.keep [1, 2, 1006] [24] ⟨[(1, .clo 89 [.dref (.named 0) (r : Rng), .dref (.int .i64) (col : Int)]), (2, .dref (.named 2) (t : Tab)), (1006, .ref 24 1 0)], [(24, .box 1 [.int .i64 0, .nilsl])]⟩ (by kernel_rfl) ?_
  refine AWO.run hC1 false [] [1, 2] [] [2, 3, 4, 1006] [24, 4012, 4016]
   ⟨[(2, .dref (.named 2) (t : Tab)), (3, .ref 4012 1 0), (4, .ref 4016 1 0), (1006, .ref 24 1 0)], [(24, .box 1 [.int .i64 0, .nilsl]), (4012, .box 1 [.clo 89 [.dref (.named 0) (r : Rng), .dref (.int .i64) (col : Int)]]), (4016, .box 1 [.int .i64 0, .nilsl])]⟩
   [] (by rfl) (by kernel_rfl) ?_ ?_
  ·
   exact trivial
  refine AWO.nil ?_
  refine AW.seq (AW.regionO [0, 1, 2, 3, 4] (by rfl) ?_)
  refine AWO.run hC1 false [] [0, 1, 2] [3, 4] [4, 6, 7, 1006] [24, 4012, 4016]
   ⟨[(4, .ref 4016 1 0), (6, .int .i64 (Tab.Width t)), (7, .clo 111 [.dref (.named 2) (t : Tab), .ref 4012 1 0]), (1006, .ref 24 1 0)], [(24, .box 1 [.int .i64 0, .nilsl]), (4012, .box 1 [.clo 89 [.dref (.named 0) (r : Rng), .dref (.int .i64) (col : Int)]]), (4016, .box 1 [.int .i64 0, .nilsl])]⟩
   [] (by rfl) (by kernel_rfl) ?_ ?_
  ·
   exact trivial
  refine AWO.call hC1.ty (vs := [.int .i64 (Tab.Width t), .clo 111 [.dref (.named 2) (t : Tab), .ref 4012 1 0]]) (caps := []) (by rfl) rfl (.inl rfl) (by decide) (by kernel_rfl) (by kernel_rfl) Try.func62 (by kernel_rfl) rfl (by kernel_rfl) ?_
  intro o2 ho2
  refine AW.kp [0, 1, 1004, 2006] [24, 4012, 4016] ⟨[(0, .int .i64 (Tab.Width t)), (1, .clo 111 [.dref (.named 2) (t : Tab), .ref 4012 1 0]), (1004, .ref 4016 1 0), (2006, .ref 24 1 0)], [(24, .box 1 [.int .i64 0, .nilsl]), (4012, .box 1 [.clo 89 [.dref (.named 0) (r : Rng), .dref (.int .i64) (col : Int)]]), (4016, .box 1 [.int .i64 0, .nilsl])]⟩ ?_
  refine AW.seq (AW.r1 hC2 [1, 2, 4, 1004, 2006] [24, 4012, 4016, 8008, 8016] ⟨[(1, .clo 111 [.dref (.named 2) (t : Tab), .ref 4012 1 0]), (2, .ref 8008 1 0), (4, .ref 8016 1 0), (1004, .ref 4016 1 0), (2006, .ref 24 1 0)], [(24, .box 1 [.int .i64 0, .nilsl]), (4012, .box 1 [.clo 89 [.dref (.named 0) (r : Rng), .dref (.int .i64) (col : Int)]]), (4016, .box 1 [.int .i64 0, .nilsl]), (8008, .box 1 [.int .i64 (Tab.Width t)]), (8016, .box 1 [.int .i64 0, .nilsl])]⟩ ?_)
  refine AW.seq (AW.r1 hC2 [1, 2, 4, 5, 1004, 2006] [24, 4012, 4016, 8008, 8016, 8020] ⟨[(1, .clo 111 [.dref (.named 2) (t : Tab), .ref 4012 1 0]), (2, .ref 8008 1 0), (4, .ref 8016 1 0), (5, .ref 8020 1 0), (1004, .ref 4016 1 0), (2006, .ref 24 1 0)], [(24, .box 1 [.int .i64 0, .nilsl]), (4012, .box 1 [.clo 89 [.dref (.named 0) (r : Rng), .dref (.int .i64) (col : Int)]]), (4016, .box 1 [.int .i64 0, .nilsl]), (8008, .box 1 [.int .i64 (Tab.Width t)]), (8016, .box 1 [.int .i64 0, .nilsl]), (8020, .box 1 [.nilsl])]⟩ ?_)
  refine AW.seq (AW.seq (AW.r1 hC2 [2, 4, 5, 7, 1004, 2006] [24, 4012, 4016, 8008, 8016, 8020] ⟨[(2, .ref 8008 1 0), (4, .ref 8016 1 0), (5, .ref 8020 1 0), (7, .clo 111 [.dref (.named 2) (t : Tab), .ref 4012 1 0]), (1004, .ref 4016 1 0), (2006, .ref 24 1 0)], [(24, .box 1 [.int .i64 0, .nilsl]), (4012, .box 1 [.clo 89 [.dref (.named 0) (r : Rng), .dref (.int .i64) (col : Int)]]), (4016, .box 1 [.int .i64 0, .nilsl]), (8008, .box 1 [.int .i64 (Tab.Width t)]), (8016, .box 1 [.int .i64 0, .nilsl]), (8020, .box 1 [.nilsl])]⟩ ?_))
  refine AW.block (AW.adoptBT 8020 1 0 8022 [.nilsl] (.slice (.named 1)) (by kernel_rfl) (by kernel_rfl) (by kernel_rfl) ?_)
  refine AW.kp [2, 4, 5, 7, 1004, 2006] [24, 4012, 4016, 8008, 8016, 8020, 8022] ⟨[(2, .ref 8008 1 0), (4, .ref 8016 1 0), (5, .ref 8020 1 0), (7, .clo 111 [.dref (.named 2) (t : Tab), .ref 4012 1 0]), (1004, .ref 4016 1 0), (2006, .ref 24 1 0)], [(24, .box 1 [.int .i64 0, .nilsl]), (4012, .box 1 [.clo 89 [.dref (.named 0) (r : Rng), .dref (.int .i64) (col : Int)]]), (4016, .box 1 [.int .i64 0, .nilsl]), (8008, .box 1 [.int .i64 (Tab.Width t)]), (8016, .box 1 [.int .i64 0, .nilsl]), (8020, .box 1 [.tr 8022 1]), (8022, .tree 1 (.slice (.named 1)) (([] : List (List Val)) : List (List Val)))]⟩ ?_
  refine AW.cutQ (α := (List (List Val))) (fun x => ⟨[(2, .ref 8008 1 0), (4, .ref 8016 1 0), (5, .ref 8020 1 0), (7, .clo 111 [.dref (.named 2) (t : Tab), .ref 4012 1 0]), (1004, .ref 4016 1 0), (2006, .ref 24 1 0)], [(24, .box 1 [.int .i64 0, .nilsl]), (4012, .box 1 [.clo 89 [.dref (.named 0) (r : Rng), .dref (.int .i64) (col : Int)]]), (4016, .box 1 [.int .i64 0, .nilsl]), (8008, .box 1 [.int .i64 (Tab.Width t)]), (8016, .box 1 [.int .i64 0, .nilsl]), (8020, .box 1 [.tr 8022 1]), (8022, .tree 1 (.slice (.named 1)) (x : List (List Val)))]⟩) (fun x => (∀ r ∈ x, r ∈ t.Rows) ∧ (iScanRange_l0 (keptRows (Tab.Rows t) r col) ([] : List (List Val))) = x) ?_ ?_
  ·
   skip
   refine AW.rangeFuncQ (caps := [.dref (.named 2) (t : Tab), .ref 4012 1 0]) (α := (List (List Val))) ho2 Try.func111 rfl rfl (by rfl) (by decide) (fun x => ⟨[(2, .ref 8008 1 0), (4, .ref 8016 1 0), (5, .ref 8020 1 0), (7, .clo 111 [.dref (.named 2) (t : Tab), .ref 4012 1 0]), (1004, .ref 4016 1 0), (2006, .ref 24 1 0)], [(24, .box 1 [.int .i64 0, .nilsl]), (4012, .box 1 [.clo 89 [.dref (.named 0) (r : Rng), .dref (.int .i64) (col : Int)]]), (4016, .box 1 [.int .i64 0, .nilsl]), (8008, .box 1 [.int .i64 (Tab.Width t)]), (8016, .box 1 [.int .i64 0, .nilsl]), (8020, .box 1 [.tr 8022 1]), (8022, .tree 1 (.slice (.named 1)) (x : List (List Val)))]⟩) (fun k x => ((∀ r ∈ x, r ∈ t.Rows) ∧ List.length x = k) ∧ (iScanRange_l0 (keptRows (Tab.Rows t) r col) ([] : List (List Val))) = iScanRange_l0 (List.drop k (keptRows (Tab.Rows t) r col)) x) (List.map (SV.data (.slice (.named 1))) ((keptRows (Tab.Rows t) r col) : List (List Val))) [2, 4, 5, 7, 1004, 2006] [24, 4012, 4016, 8008, 8016, 8020, 8022] (fun x => by kernel_rfl) ([] : List (List Val)) ?_ (by kernel_rfl) ⟨?_, by rw [List.drop_zero]⟩ ?_ ?_
   ·
    exact sel_hit (S := (fun x => ⟨[(2, .ref 8008 1 0), (4, .ref 8016 1 0), (5, .ref 8020 1 0), (7, .clo 111 [.dref (.named 2) (t : Tab), .ref 4012 1 0]), (1004, .ref 4016 1 0), (2006, .ref 24 1 0)], [(24, .box 1 [.int .i64 0, .nilsl]), (4012, .box 1 [.clo 89 [.dref (.named 0) (r : Rng), .dref (.int .i64) (col : Int)]]), (4016, .box 1 [.int .i64 0, .nilsl]), (8008, .box 1 [.int .i64 (Tab.Width t)]), (8016, .box 1 [.int .i64 0, .nilsl]), (8020, .box 1 [.tr 8022 1]), (8022, .tree 1 (.slice (.named 1)) (x : List (List Val)))]⟩)) (x0 := ([] : List (List Val))) (fun x => rfl) hkp
   ·
    show (∀ r ∈ ([] : List (List Val)), r ∈ t.Rows) ∧ List.length ([] : List (List Val)) = 0
    exact ⟨fun r hr => (by cases hr), rfl⟩
   ·
    intro k ar8022 sv hsv hR E1
    obtain ⟨hI0, he104⟩ := hR
    replace hI0 : (∀ r ∈ ar8022, r ∈ t.Rows) ∧ List.length ar8022 = k := hI0
    obtain ⟨v8, hd106, rfl, hy107⟩ : ∃ y : List Val, List.drop k (keptRows (Tab.Rows t) r col) = y :: List.drop (k + 1) (keptRows (Tab.Rows t) r col) ∧ sv = SV.data (.slice (.named 1)) y ∧ y ∈ (keptRows (Tab.Rows t) r col) := els_data hsv
    have e105 : (iScanRange_l0 (keptRows (Tab.Rows t) r col) ([] : List (List Val))) = iScanRange_l0 (v8 :: List.drop (k + 1) (keptRows (Tab.Rows t) r col)) ar8022 := he104.trans (by rw [hd106])
    have hym := kept_mem hy107
    have hyl := hok.len hym
    have hkl : k < List.length (keptRows (Tab.Rows t) r col) := by
     have q := congrArg List.length hd106
     simp only [List.length_drop, List.length_cons] at q
     omega
    refine AW.kp [2, 4, 5, 7, 8, 1002, 1004, 1005, 1007, 2004, 3006] [24, 4012, 4016, 8008, 8016, 8020, 8022] ⟨[(2, .ref 8008 1 0), (4, .ref 8016 1 0), (5, .ref 8020 1 0), (7, .clo 111 [.dref (.named 2) (t : Tab), .ref 4012 1 0]), (8, .data (.slice (.named 1)) (v8 : List Val)), (1002, .ref 8008 1 0), (1004, .ref 8016 1 0), (1005, .ref 8020 1 0), (1007, .clo 111 [.dref (.named 2) (t : Tab), .ref 4012 1 0]), (2004, .ref 4016 1 0), (3006, .ref 24 1 0)], [(24, .box 1 [.int .i64 0, .nilsl]), (4012, .box 1 [.clo 89 [.dref (.named 0) (r : Rng), .dref (.int .i64) (col : Int)]]), (4016, .box 1 [.int .i64 0, .nilsl]), (8008, .box 1 [.int .i64 (Tab.Width t)]), (8016, .box 1 [.int .i64 0, .nilsl]), (8020, .box 1 [.tr 8022 1]), (8022, .tree 1 (.slice (.named 1)) (ar8022 : List (List Val)))]⟩ ?_
    refine AW.wf_tree (id := 8022) (ep := 1) (t := (.slice (.named 1))) (xs := (ar8022 : List (List Val))) (by kernel_rfl) fun ha108 _ => ?_
    replace ha108 : ((List.length ar8022 : Nat) : Int) ≤ 4294967296 := ha108
    refine AW.r1 hC3 [2, 4, 5, 6, 1002, 1004, 1005, 1007, 2004, 3006] [24, 4012, 4016, 8008, 8016, 8020, 8022] ⟨[(2, .ref 8008 1 0), (4, .ref 8016 1 0), (5, .ref 8020 1 0), (6, .data (.slice (.named 1)) (v8 : List Val)), (1002, .ref 8008 1 0), (1004, .ref 8016 1 0), (1005, .ref 8020 1 0), (1007, .clo 111 [.dref (.named 2) (t : Tab), .ref 4012 1 0]), (2004, .ref 4016 1 0), (3006, .ref 24 1 0)], [(24, .box 1 [.int .i64 0, .nilsl]), (4012, .box 1 [.clo 89 [.dref (.named 0) (r : Rng), .dref (.int .i64) (col : Int)]]), (4016, .box 1 [.int .i64 0, .nilsl]), (8008, .box 1 [.int .i64 (Tab.Width t)]), (8016, .box 1 [.int .i64 0, .nilsl]), (8020, .box 1 [.tr 8022 1]), (8022, .tree 1 (.slice (.named 1)) (ar8022 : List (List Val)))]⟩ ?_
    intro E108
    refine AW.block (AW.seq (AW.seq (AW.wf_tree (id := 8022) (ep := 1) (t := (.slice (.named 1))) (xs := (ar8022 : List (List Val))) (by kernel_rfl) fun ha109 _ => ?_)))
    replace ha109 : ((List.length ar8022 : Nat) : Int) ≤ 4294967296 := ha109
    refine AW.r1 hC3 [2, 4, 5, 6, 11, 1002, 1004, 1005, 1007, 2004, 3006] [24, 4012, 4016, 8008, 8016, 8020, 8022] ⟨[(2, .ref 8008 1 0), (4, .ref 8016 1 0), (5, .ref 8020 1 0), (6, .data (.slice (.named 1)) (v8 : List Val)), (11, .bool (((List.length ar8022 : Nat) : Int) == 400)), (1002, .ref 8008 1 0), (1004, .ref 8016 1 0), (1005, .ref 8020 1 0), (1007, .clo 111 [.dref (.named 2) (t : Tab), .ref 4012 1 0]), (2004, .ref 4016 1 0), (3006, .ref 24 1 0)], [(24, .box 1 [.int .i64 0, .nilsl]), (4012, .box 1 [.clo 89 [.dref (.named 0) (r : Rng), .dref (.int .i64) (col : Int)]]), (4016, .box 1 [.int .i64 0, .nilsl]), (8008, .box 1 [.int .i64 (Tab.Width t)]), (8016, .box 1 [.int .i64 0, .nilsl]), (8020, .box 1 [.tr 8022 1]), (8022, .tree 1 (.slice (.named 1)) (ar8022 : List (List Val)))]⟩ ?_
    refine AW.cd (((List.length ar8022 : Nat) : Int) == 400) ?_ ?_
    ·
     intro h110
     have h110q : ((List.length ar8022 : Nat) : Int) = 400 := (Go.Am.beq_pos h110)
     exfalso
     omega
    ·
     intro h111
     have h111q : ((List.length ar8022 : Nat) : Int) ≠ 400 := (Go.Am.beq_neg h111)
     refine AW.kp [5, 6, 1002, 1004, 1005, 1007, 2004, 3006] [24, 4012, 4016, 8008, 8016, 8020, 8022] ⟨[(5, .ref 8020 1 0), (6, .data (.slice (.named 1)) (v8 : List Val)), (1002, .ref 8008 1 0), (1004, .ref 8016 1 0), (1005, .ref 8020 1 0), (1007, .clo 111 [.dref (.named 2) (t : Tab), .ref 4012 1 0]), (2004, .ref 4016 1 0), (3006, .ref 24 1 0)], [(24, .box 1 [.int .i64 0, .nilsl]), (4012, .box 1 [.clo 89 [.dref (.named 0) (r : Rng), .dref (.int .i64) (col : Int)]]), (4016, .box 1 [.int .i64 0, .nilsl]), (8008, .box 1 [.int .i64 (Tab.Width t)]), (8016, .box 1 [.int .i64 0, .nilsl]), (8020, .box 1 [.tr 8022 1]), (8022, .tree 1 (.slice (.named 1)) (ar8022 : List (List Val)))]⟩ ?_
     refine AW.skip (AW.wf_tree (id := 8022) (ep := 1) (t := (.slice (.named 1))) (xs := (ar8022 : List (List Val))) (by kernel_rfl) fun ha112 _ => ?_)
     replace ha112 : ((List.length ar8022 : Nat) : Int) ≤ 4294967296 := ha112
     refine AW.d0 hC3 hM [1002, 1004, 1005, 1007, 2004, 3006] [24, 4012, 4016, 8008, 8016, 8020, 8022] ⟨[(1002, .ref 8008 1 0), (1004, .ref 8016 1 0), (1005, .ref 8020 1 0), (1007, .clo 111 [.dref (.named 2) (t : Tab), .ref 4012 1 0]), (2004, .ref 4016 1 0), (3006, .ref 24 1 0)], [(24, .box 1 [.int .i64 0, .nilsl]), (4012, .box 1 [.clo 89 [.dref (.named 0) (r : Rng), .dref (.int .i64) (col : Int)]]), (4016, .box 1 [.int .i64 0, .nilsl]), (8008, .box 1 [.int .i64 (Tab.Width t)]), (8016, .box 1 [.int .i64 0, .nilsl]), (8020, .box 1 [.tr 8022 1]), (8022, .tree 1 (.slice (.named 1)) ((ar8022 ++ ([(icopied v8)] : List (List Val))) : List (List Val)))]⟩ [((List.length v8 : Int) ≤ 4294967296), (((List.length ar8022 : Nat) : Int) + ((List.length ([(icopied v8)] : List (List Val)) : Nat) : Int) ≤ 4294967296)] ?_ ?_
     ·
      refine ⟨?_, ?_, trivial⟩
      ·
       omega
      ·
       simp only [lens] at *; omega
     refine ⟨(ar8022 ++ ([(icopied v8)] : List (List Val))), by kernel_rfl, ?_, e105⟩
     show (∀ r ∈ (ar8022 ++ ([(icopied v8)] : List (List Val))), r ∈ t.Rows) ∧ List.length (ar8022 ++ ([(icopied v8)] : List (List Val))) = (k + 1)
     refine ⟨fun r hr => ?_, by simp only [List.length_append, List.length_cons, List.length_nil]; omega⟩
     rcases List.mem_append.1 hr with h | h
     ·
      exact hI0.1 r h
     ·
      rw [List.mem_singleton.1 h, icopied_eq]; exact hym
   ·
    intro ar8022 hR
    obtain ⟨hI0, he104⟩ := hR
    replace hI0 : (∀ r ∈ ar8022, r ∈ t.Rows) ∧ List.length ar8022 = (List.length (List.map (SV.data (.slice (.named 1))) ((keptRows (Tab.Rows t) r col) : List (List Val)))) := hI0
    have e105 : (iScanRange_l0 (keptRows (Tab.Rows t) r col) ([] : List (List Val))) = iScanRange_l0 [] ar8022 := he104.trans (by rw [List.drop_of_length_le (show List.length (keptRows (Tab.Rows t) r col) ≤ _ from Nat.le_of_eq (List.length_map (SV.data (.slice (.named 1)))).symm)])
    refine AW.meet ar8022 (by kernel_rfl) ⟨?_, e105⟩
    show ∀ r ∈ ar8022, r ∈ t.Rows
    exact hI0.1
  ·
   intro ar8022 hR
   obtain ⟨hJ0, e113⟩ := hR
   replace hJ0 : ∀ r ∈ ar8022, r ∈ t.Rows := hJ0
   have e114 := e4.trans (Go.Am.then_eq e113)
   refine AW.seq (AW.wf_tree (id := 8022) (ep := 1) (t := (.slice (.named 1))) (xs := (ar8022 : List (List Val))) (by kernel_rfl) fun ha115 _ => ?_)
   replace ha115 : ((List.length ar8022 : Nat) : Int) ≤ 4294967296 := ha115
   refine AW.regionO [0, 1] (by rfl) ?_
   refine AWO.run hC2 false [] [0] [1] [2, 4, 5, 19, 1004, 2006] [24, 4016, 8008, 8016, 8020, 8022]
    ⟨[(2, .ref 8008 1 0), (4, .ref 8016 1 0), (5, .ref 8020 1 0), (19, .tr 8022 1), (1004, .ref 4016 1 0), (2006, .ref 24 1 0)], [(24, .box 1 [.int .i64 0, .nilsl]), (4016, .box 1 [.int .i64 0, .nilsl]), (8008, .box 1 [.int .i64 (Tab.Width t)]), (8016, .box 1 [.int .i64 0, .nilsl]), (8020, .box 1 [.tr 8022 1]), (8022, .tree 1 (.slice (.named 1)) (ar8022 : List (List Val)))]⟩
    [] (by rfl) (by kernel_rfl) ?_ ?_
   ·
    exact trivial
   refine AWO.sortT (id := 8022) (ep := 1) (xs := (ar8022 : List (List Val))) sortRowsT (by rfl) (by rfl) (by kernel_rfl) (by kernel_rfl) (by kernel_rfl) ?_ ?_
   ·
    show RowsOK ar8022
    exact hok.sub hJ0
   refine AWO.keep [2, 4, 5, 1004, 2006] [24, 4016, 8008, 8016, 8020, 8022] ⟨[(2, .ref 8008 1 0), (4, .ref 8016 1 0), (5, .ref 8020 1 0), (1004, .ref 4016 1 0), (2006, .ref 24 1 0)], [(24, .box 1 [.int .i64 0, .nilsl]), (4016, .box 1 [.int .i64 0, .nilsl]), (8008, .box 1 [.int .i64 (Tab.Width t)]), (8016, .box 1 [.int .i64 0, .nilsl]), (8020, .box 1 [.tr 8022 1]), (8022, .tree 1 (.slice (.named 1)) ((srtRows ar8022) : List (List Val)))]⟩ (by kernel_rfl) ?_
   refine AWO.run hC2 false [] [] [] [2, 4, 5, 1004, 2006] [24, 4016, 8008, 8016, 8020, 8022]
    ⟨[(2, .ref 8008 1 0), (4, .ref 8016 1 0), (5, .ref 8020 1 0), (1004, .ref 4016 1 0), (2006, .ref 24 1 0)], [(24, .box 1 [.int .i64 0, .nilsl]), (4016, .box 1 [.int .i64 0, .nilsl]), (8008, .box 1 [.int .i64 (Tab.Width t)]), (8016, .box 1 [.int .i64 0, .nilsl]), (8020, .box 1 [.tr 8022 1]), (8022, .tree 1 (.slice (.named 1)) ((srtRows ar8022) : List (List Val)))]⟩
    [] (by rfl) (by kernel_rfl) ?_ ?_
   ·
    exact trivial
   refine AWO.nil ?_
   refine AW.seq (AW.wf_tree (id := 8022) (ep := 1) (t := (.slice (.named 1))) (xs := ((srtRows ar8022) : List (List Val))) (by kernel_rfl) fun ha116 _ => ?_)
   replace ha116 : ((List.length (srtRows ar8022) : Nat) : Int) ≤ 4294967296 := ha116
   refine AW.r1 hC2 [4, 1004, 2006] [24, 4016, 8016, 8022] ⟨[(4, .ref 8016 1 0), (1004, .ref 4016 1 0), (2006, .ref 24 1 0)], [(24, .box 1 [.int .i64 0, .nilsl]), (4016, .box 1 [.int .i64 0, .nilsl]), (8016, .box 1 [.int .i64 (Tab.Width t), .tr 8022 1]), (8022, .tree 1 (.slice (.named 1)) ((srtRows ar8022) : List (List Val)))]⟩ ?_
   refine AW.ret ?_
   refine ⟨[.agg [.int .i64 (Tab.Width t), .tr 8022 1]], by kernel_rfl, ?_⟩
   refine AWO.keep [4, 8, 1006] [24, 4016, 8022] ⟨[(4, .ref 4016 1 0), (8, .agg [.int .i64 (Tab.Width t), .tr 8022 1]), (1006, .ref 24 1 0)], [(24, .box 1 [.int .i64 0, .nilsl]), (4016, .box 1 [.int .i64 0, .nilsl]), (8022, .tree 1 (.slice (.named 1)) ((srtRows ar8022) : List (List Val)))]⟩ (by kernel_rfl) ?_
   refine AWO.run hC1 false [] [4] [] [4, 1006] [24, 4016, 8022]
    ⟨[(4, .ref 4016 1 0), (1006, .ref 24 1 0)], [(24, .box 1 [.int .i64 0, .nilsl]), (4016, .box 1 [.int .i64 (Tab.Width t), .tr 8022 1]), (8022, .tree 1 (.slice (.named 1)) ((srtRows ar8022) : List (List Val)))]⟩
    [] (by rfl) (by kernel_rfl) ?_ ?_
   ·
    exact trivial
   refine AWO.nil ?_
   refine AW.ret ?_
   refine ⟨[.agg [.int .i64 (Tab.Width t), .tr 8022 1]], by kernel_rfl, ?_⟩
   refine AWO.keep [6, 15] [24, 8022] ⟨[(6, .ref 24 1 0), (15, .agg [.int .i64 (Tab.Width t), .tr 8022 1])], [(24, .box 1 [.int .i64 0, .nilsl]), (8022, .tree 1 (.slice (.named 1)) ((srtRows ar8022) : List (List Val)))]⟩ (by kernel_rfl) ?_
   refine AWO.run hC false [] [3, 4] [] [6, 7] [24, 8022]
    ⟨[(6, .ref 24 1 0), (7, .bool true)], [(24, .box 1 [.int .i64 (Tab.Width t), .tr 8022 1]), (8022, .tree 1 (.slice (.named 1)) ((srtRows ar8022) : List (List Val)))]⟩
    [] (by rfl) (by kernel_rfl) ?_ ?_
   ·
    exact trivial
   refine AWO.nil ?_
   exact AW.ret (AW.retE (β := Tab × Bool) (fun v => [⟨(.named 2), v.1⟩, ⟨.bool, v.2⟩]) (fun v => []) (v := ((Tab.mk (Tab.Width t) (srtRows ar8022)), true)) e114 (by kernel_rfl) rfl rfl)

end
end Go.Proofs.Ytjcjpeckfikfkaa
