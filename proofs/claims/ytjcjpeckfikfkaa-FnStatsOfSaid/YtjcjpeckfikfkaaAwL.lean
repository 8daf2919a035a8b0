/-
  A part of the proof of this claim (AwL): what functions of the program compute, and plain facts of that. No conditions.
-/
import Derived.Test.YtjcjpeckfikfkaaAwK
import Derived.Test.YtjcjpeckfikfkaaAw7
set_option linter.all false
namespace Go.Proofs.Ytjcjpeckfikfkaa
open Go Go.Am
open Go.Am.AW (seq r1U ret kpU cdE r0U r1 meet block rS kp cutQ d0U)
open List (length drop)
noncomputable section

def collectD_l0 (width : Int) : List (List Val) → (List (List Val)) → (List (List Val)) ⊕ Tab
 | [], ar22 => .inl ar22
 | v8 :: l, ar22 => (bif ((length ar22 : Int) == 400) then (.inr (Tab.mk width ([] : List (List Val)))) else (collectD_l0 width l (ar22 ++ ([(icopied v8)] : List (List Val)))))

def collectD (width : Int) (rows : List (List Val)) : Tab := (Sum.elim (fun z => (fun (ar22 : List (List Val)) => (Tab.mk width (srtRows ar22))) z) (fun r => r) (collectD_l0 width (diffRows rows) ([] : List (List Val))))

def collectD_sp : FnSpec := mkSpec [.val (.int .i64), .clo 107 (.slice (.slice (.named 1)))] [.val (.named 2)] (fun (width : Int) (rows : List (List Val)) => RowsOK rows) (fun (width : Int) (rows : List (List Val)) => [⟨(.named 2), (collectD width rows)⟩])

theorem collectD_ok : FnOK Try.prog 62 collectD_sp := by
 have hC : CtxOK Try.prog (mkCtx tyL [(95, icopied_sp)]) := CtxOK.cons icopied_ok (CtxOK.nil tyOK); have hM : Try.prog.follows .mixedOrders = true := Try.checked.mixed; have hC1 := hC.rebase 1000; refine FnOK.of_bodyR Try.func62 (by kernel_rfl) rfl (C := (mkCtx tyL [(95, icopied_sp)])) hC.ty (by kernel_rfl) ?_; intro (width : Int) (rows : List (List Val)) hwf hpre E hro; have hpre : RowsOK rows := hpre; have e0 : collectD width rows = collectD width rows := rfl; refine seq (r1U hC [1, 2, 4] [8, 16] [(2, .ref 8 1 0), (4, .ref 16 1 0)] [(8, .box 1 [.int .i64 width]), (16, .box 1 [.int .i64 0, .nilsl])] ?_); refine seq (r1U hC [1, 2, 4, 5] [8, 16, 20] [(5, .ref 20 1 0)] [(20, .box 1 [.nilsl])] ?_); refine seq (seq (r1U hC [2, 4, 5, 7] [8, 16, 20] [(7, .clo 107 [.dref (.slice (.slice (.named 1))) (rows : List (List Val))])] [] ?_)); refine block (AW.adoptB 20 1 0 22 [.nilsl] (.slice (.named 1)) (by kernel_rfl) (by kernel_rfl) (by kernel_rfl) ?_); refine kp [2, 4, 5, 7] [8, 16, 20, 22] ⟨[(2, .ref 8 1 0), (4, .ref 16 1 0), (5, .ref 20 1 0), (7, .clo 107 [.dref (.slice (.slice (.named 1))) (rows : List (List Val))])], [(8, .box 1 [.int .i64 width]), (16, .box 1 [.int .i64 0, .nilsl]), (20, .box 1 [.arr 22 1]), (22, .arr 1 (.slice (.named 1)) (([] : List (List Val)) : List (List Val)))]⟩ ?_; refine cutQ (α := (List (List Val))) (fun x => ⟨[(2, .ref 8 1 0), (4, .ref 16 1 0), (5, .ref 20 1 0), (7, .clo 107 [.dref (.slice (.slice (.named 1))) (rows : List (List Val))])], [(8, .box 1 [.int .i64 width]), (16, .box 1 [.int .i64 0, .nilsl]), (20, .box 1 [.arr 22 1]), (22, .arr 1 (.slice (.named 1)) (x : List (List Val)))]⟩) (fun x => ((∀ r ∈ x, r ∈ rows) ∧ length x ≤ 400) ∧ (collectD_l0 width (diffRows rows) ([] : List (List Val))) = (.inl x)) ?_ ?_
 ·
  skip; refine AW.rangeFuncP (α := (List (List Val))) hro Try.func107 rfl rfl (by rfl) (by decide) (fun x => ⟨[(2, .ref 8 1 0), (4, .ref 16 1 0), (5, .ref 20 1 0), (7, .clo 107 [.dref (.slice (.slice (.named 1))) (rows : List (List Val))])], [(8, .box 1 [.int .i64 width]), (16, .box 1 [.int .i64 0, .nilsl]), (20, .box 1 [.arr 22 1]), (22, .arr 1 (.slice (.named 1)) (x : List (List Val)))]⟩) (fun k x => ((∀ r ∈ x, r ∈ rows) ∧ length x ≤ 400) ∧ (collectD_l0 width (diffRows rows) ([] : List (List Val))) = collectD_l0 width (drop k (diffRows rows)) x) (List.map (SV.data (.slice (.named 1))) ((diffRows rows) : List (List Val))) [2, 4, 5, 7] [8, 16, 20, 22] (fun x => by kernel_rfl) ([] : List (List Val)) diff_hit (by kernel_rfl) ⟨?_, by rw [List.drop_zero]⟩ ?_ ?_
  · exact ⟨fun r hr => (by cases hr), Nat.zero_le _⟩
  ·
   intro k ar22 sv hsv hR E1; obtain ⟨hI0, he28⟩ := hR; obtain ⟨v8, hd30, rfl, hy31⟩ : ∃ y : List Val, drop k (diffRows rows) = y :: drop (k + 1) (diffRows rows) ∧ sv = SV.data (.slice (.named 1)) y ∧ y ∈ (diffRows rows) := els_data hsv; have e29 : (collectD_l0 width (diffRows rows) ([] : List (List Val))) = collectD_l0 width (v8 :: drop (k + 1) (diffRows rows)) ar22 := he28.trans (by rw [hd30]); have hym := diffP_mem hy31; have hyl := hpre.len hym; refine kp [2, 4, 5, 7, 8, 1002, 1004, 1005, 1007] [8, 16, 20, 22] ⟨[(2, .ref 8 1 0), (4, .ref 16 1 0), (5, .ref 20 1 0), (7, .clo 107 [.dref (.slice (.slice (.named 1))) (rows : List (List Val))]), (8, .data (.slice (.named 1)) (v8 : List Val)), (1002, .ref 8 1 0), (1004, .ref 16 1 0), (1005, .ref 20 1 0), (1007, .clo 107 [.dref (.slice (.slice (.named 1))) (rows : List (List Val))])], [(8, .box 1 [.int .i64 width]), (16, .box 1 [.int .i64 0, .nilsl]), (20, .box 1 [.arr 22 1]), (22, .arr 1 (.slice (.named 1)) (ar22 : List (List Val)))]⟩ ?_; refine AW.wf_arr (id := 22) (ep := 1) (t := (.slice (.named 1))) (xs := (ar22 : List (List Val))) (by kernel_rfl) fun ha32 _ => ?_; replace ha32 : (length ar22 : Int) ≤ 4294967296 := ha32; refine r1U hC1 [2, 4, 5, 6, 1002, 1004, 1005, 1007] [8, 16, 20, 22] [(6, .data (.slice (.named 1)) (v8 : List Val))] [] ?_; intro E32; refine block (seq (seq (AW.wf_arr (id := 22) (ep := 1) (t := (.slice (.named 1))) (xs := (ar22 : List (List Val))) (by kernel_rfl) fun ha33 _ => ?_))); replace ha33 : (length ar22 : Int) ≤ 4294967296 := ha33; refine r1U hC1 [2, 4, 5, 6, 11, 1002, 1004, 1005, 1007] [8, 16, 20, 22] [(11, .bool ((length ar22 : Int) == 400))] [] ?_; refine cdE e29 ?_ ?_
   · intro h34q e35; refine seq (AW.wf_arr (id := 22) (ep := 1) (t := (.slice (.named 1))) (xs := (ar22 : List (List Val))) (by kernel_rfl) fun ha36 _ => ?_); replace ha36 : (length ar22 : Int) ≤ 4294967296 := ha36; refine r1U hC1 [4, 1002, 1004, 1005, 1007] [8, 16, 20, 22] [] [(16, .box 1 [.int .i64 width, .nilsl])] ?_; refine ret ?_; have e37 := e0.trans (elim_r e35); exact rS (.named 2) e37
   ·
    intro h38q e39; refine kpU [5, 6, 1002, 1004, 1005, 1007] [8, 16, 20, 22] [] [] ?_; refine AW.skip (AW.wf_arr (id := 22) (ep := 1) (t := (.slice (.named 1))) (xs := (ar22 : List (List Val))) (by kernel_rfl) fun ha40 _ => ?_); replace ha40 : (length ar22 : Int) ≤ 4294967296 := ha40; refine d0U hC1 hM [1002, 1004, 1005, 1007] [8, 16, 20, 22] [] [(22, .arr 1 (.slice (.named 1)) ((ar22 ++ ([(icopied v8)] : List (List Val))) : List (List Val)))] [((length v8 : Int) ≤ 4294967296), ((length ar22 : Int) + (length ([(icopied v8)] : List (List Val)) : Int) ≤ 4294967296)] ?_ ?_
    ·
     exact ⟨(by omega), (by (simp only [lens] at *; omega)), trivial⟩
    refine ⟨(ar22 ++ ([(icopied v8)] : List (List Val))), by kernel_rfl, ?_, e39⟩; refine ⟨fun r hr => ?_, by simp only [List.length_append, List.length_cons, List.length_nil]; omega⟩; rcases List.mem_append.1 hr with h | h
    · exact hI0.1 r h
    · rw [List.mem_singleton.1 h, icopied_eq]; exact hym
  · intro ar22 hR; obtain ⟨hI0, he28⟩ := hR; have e29 : (collectD_l0 width (diffRows rows) ([] : List (List Val))) = collectD_l0 width [] ar22 := he28.trans (by rw [List.drop_of_length_le (show length (diffRows rows) ≤ _ from Nat.le_of_eq (List.length_map (SV.data (.slice (.named 1)))).symm)]); refine meet ar22 (by kernel_rfl) ⟨?_, e29⟩; exact hI0
 ·
  intro ar22 hR; obtain ⟨hJ0, e41⟩ := hR; have e42 := e0.trans (elim_l e41); refine seq (AW.wf_arr (id := 22) (ep := 1) (t := (.slice (.named 1))) (xs := (ar22 : List (List Val))) (by kernel_rfl) fun ha43 _ => ?_); replace ha43 : (length ar22 : Int) ≤ 4294967296 := ha43; refine AW.regionO [0, 1] (by rfl) ?_
  refine AWO.runU hC false [] [0] [1] [2, 4, 5, 19] [8, 16, 20, 22]
   [(19, .arr 22 1)] []
   [] (by rfl) (by kernel_rfl) ?_ ?_
  · exact trivial
  refine AWO.sort (id := 22) (ep := 1) (xs := (ar22 : List (List Val))) sortRowsOK (by rfl) (by rfl) (by kernel_rfl) (by kernel_rfl) (by kernel_rfl) ?_ ?_
  · exact hpre.sub hJ0.1
  refine AWO.keepU [2, 4, 5] [8, 16, 20, 22] [] [(22, .arr 1 (.slice (.named 1)) ((srtRows ar22) : List (List Val)))] (by kernel_rfl) ?_
  refine AWO.runU hC false [] [] [] [2, 4, 5] [8, 16, 20, 22]
   [] []
   [] (by rfl) (by kernel_rfl) ?_ ?_
  · exact trivial
  refine AWO.nil ?_; refine seq (AW.wf_arr (id := 22) (ep := 1) (t := (.slice (.named 1))) (xs := ((srtRows ar22) : List (List Val))) (by kernel_rfl) fun ha44 _ => ?_); replace ha44 : (length (srtRows ar22) : Int) ≤ 4294967296 := ha44; refine r1U hC [4] [16, 22] [] [(16, .box 1 [.int .i64 width, .arr 22 1])] ?_; exact ret (rS (.named 2) e42)

theorem VT.rowsOK {t : Tab} (h : VT t) : RowsOK t.Rows := rows_of_getD h.rows

def iDistinctRows (t : Tab) : Tab × Bool := (bif (!(ValidTable t)) then ((Tab.mk 0 ([] : List (List Val))), false) else ((collectD (Tab.Width t) (differentRowsF (Tab.Rows t))), true))

def iDistinctRows_sp : FnSpec := mkSpec [.val (.named 2)] [.val (.named 2), .val .bool] (fun (t : Tab) => True) (fun (t : Tab) => [⟨(.named 2), ((iDistinctRows t).1)⟩, ⟨.bool, ((iDistinctRows t).2)⟩])

theorem iDistinctRows_ok : FnOK Try.prog 30 iDistinctRows_sp := by
 have hC : CtxOK Try.prog (mkCtx tyL [(19, ValidTable_sp), (62, collectD_sp), (79, differentRowsF_sp)]) := CtxOK.cons ValidTable_ok (CtxOK.cons collectD_ok (CtxOK.cons differentRowsF_ok (CtxOK.nil tyOK))); have hM : Try.prog.follows .mixedOrders = true := Try.checked.mixed; refine FnOK.of_body Try.func30 (by kernel_rfl) rfl (C := (mkCtx tyL [(19, ValidTable_sp), (62, collectD_sp), (79, differentRowsF_sp)])) hC.ty (by kernel_rfl) ?_; intro (t : Tab) hwf hpre E; have hpre : True := hpre; have e0 : iDistinctRows t = iDistinctRows t := rfl; refine seq (r1 hC [1, 2] [4, 8] ⟨[(1, .ref 4 1 0), (2, .ref 8 1 0)], [(4, .box 1 [.int .i64 (Tab.Width t), .data (.slice (.slice (.named 1))) ((Tab.Rows t) : List (List Val))]), (8, .box 1 [.int .i64 0, .nilsl])]⟩ ?_); refine seq (seq (r0U hC [1, 2, 6] [4, 8] [(6, .bool (!(ValidTable t)))] [] [(True)] ?_ ?_))
 ·
  exact ⟨trivial, trivial⟩
 refine cdE e0 ?_ ?_
 · intro h1q e2; refine seq (r1U hC [2, 3] [8] [(3, .bool false)] [] ?_); exact ret (AW.retE (β := Tab × Bool) (fun v => [⟨(.named 2), v.1⟩, ⟨.bool, v.2⟩]) (fun v => []) (v := ((Tab.mk 0 ([] : List (List Val))), false)) e2 (by kernel_rfl) rfl rfl)
 ·
  intro h3q e4; refine kpU [1, 2] [4, 8] [] [] ?_; refine AW.skip (seq (d0U hC hM [2, 3] [8] [(3, .bool true)] [(8, .box 1 [.int .i64 (Tab.Width (collectD (Tab.Width t) (differentRowsF (Tab.Rows t)))), .data (.slice (.slice (.named 1))) ((Tab.Rows (collectD (Tab.Width t) (differentRowsF (Tab.Rows t)))) : List (List Val))])] [(True), (RowsOK (differentRowsF (Tab.Rows t)))] ?_ ?_))
  ·
   exact ⟨trivial, (ValidTable_iff.1 h3q).rowsOK, trivial⟩
  exact ret (AW.retE (β := Tab × Bool) (fun v => [⟨(.named 2), v.1⟩, ⟨.bool, v.2⟩]) (fun v => []) (v := ((collectD (Tab.Width t) (differentRowsF (Tab.Rows t))), true)) e4 (by kernel_rfl) rfl rfl)

end
end Go.Proofs.Ytjcjpeckfikfkaa
