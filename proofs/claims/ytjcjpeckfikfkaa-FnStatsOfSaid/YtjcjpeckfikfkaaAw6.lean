/-
  A part of the proof of this claim (Aw6): what functions of the program compute, and plain facts of that. No conditions.
-/
import Derived.Test.YtjcjpeckfikfkaaAw5
set_option linter.all false
namespace Go.Proofs.Ytjcjpeckfikfkaa
open Go Go.Am
open Go.Am.AW (seq r1U ret kpU cdE meet block rS kp cutQ d0U)
open List (length drop)
noncomputable section

def sortRows_ren : Go.Shelf.Ren := ⟨fun | 6 => 96 | 15 => 113 | 14 => 112 | 28 => 125 | 29 => 126 | 20 => 117 | 21 => 118 | 22 => 119 | 23 => 120 | 24 => 121 | 25 => 122 | 26 => 123 | 27 => 124 | 46 => 128 | 47 => 129 | 48 => 130 | 49 => 131 | 50 => 132 | 57 => 134 | n => n, fun | 22 => 23 | 24 => 31 | 25 => 92 | 3 => 3 | 39 => 124 | 0 => 0 | 53 => 140 | 55 => 142 | 4 => 4 | 46 => 134 | 45 => 133 | 50 => 99 | 5 => 5 | 9 => 9 | 66 => 143 | 70 => 147 | 76 => 149 | 77 => 150 | n => n, fun | n => n⟩
theorem sortRows : Go.Proofs.SlLaysF.n6 Try.prog sortRows_ren :=
 {
  mixed := by kernel_rfl,
  f6 := ⟨Try.f96.name, by decide, Try.func96.trans (congrArg some (by kernel_rfl))⟩,
  f14 := ⟨Try.f112.name, by decide, Try.func112.trans (congrArg some (by kernel_rfl))⟩,
  f15 := Try.func113.trans (congrArg some (by kernel_rfl)),
  f20 := ⟨Try.f117.name, by decide, Try.func117.trans (congrArg some (by kernel_rfl))⟩,
  f21 := ⟨Try.f118.name, by decide, Try.func118.trans (congrArg some (by kernel_rfl))⟩,
  f22 := ⟨Try.f119.name, by decide, Try.func119.trans (congrArg some (by kernel_rfl))⟩,
  f23 := ⟨Try.f120.name, by decide, Try.func120.trans (congrArg some (by kernel_rfl))⟩,
  f24 := ⟨Try.f121.name, by decide, Try.func121.trans (congrArg some (by kernel_rfl))⟩,
  f25 := ⟨Try.f122.name, by decide, Try.func122.trans (congrArg some (by kernel_rfl))⟩,
  f26 := ⟨Try.f123.name, by decide, Try.func123.trans (congrArg some (by kernel_rfl))⟩,
  f27 := ⟨Try.f124.name, by decide, Try.func124.trans (congrArg some (by kernel_rfl))⟩,
  f28 := Try.func125.trans (congrArg some (by kernel_rfl)),
  f29 := Try.func126.trans (congrArg some (by kernel_rfl)),
  f46 := ⟨Try.f128.name, by decide, Try.func128.trans (congrArg some (by kernel_rfl))⟩,
  f47 := Try.func129.trans (congrArg some (by kernel_rfl)),
  f48 := Try.func130.trans (congrArg some (by kernel_rfl)),
  f49 := ⟨Try.f131.name, by decide, Try.func131.trans (congrArg some (by kernel_rfl))⟩,
  f50 := ⟨Try.f132.name, by decide, Try.func132.trans (congrArg some (by kernel_rfl))⟩,
  f57 := ⟨Try.f134.name, by decide, Try.func134.trans (congrArg some (by kernel_rfl))⟩,
  t0 := Try.underlying0,
  a0 := Try.isAgg0,
  z0 := Try.sizeOf0,
  v0 := Try.zeroValue0,
  t3 := Try.underlying3,
  a3 := Try.isAgg3,
  z3 := Try.sizeOf3,
  v3 := Try.zeroValue3,
  t4 := Try.underlying4,
  a4 := Try.isAgg4,
  z4 := Try.sizeOf4,
  v4 := Try.zeroValue4,
  t5 := Try.underlying5,
  a5 := Try.isAgg5,
  z5 := Try.sizeOf5,
  v5 := Try.zeroValue5,
  t9 := Try.underlying9,
  a9 := Try.isAgg9,
  z9 := Try.sizeOf9,
  v9 := Try.zeroValue9,
  t22 := Try.underlying23,
  a22 := Try.isAgg23,
  z22 := Try.sizeOf23,
  v22 := Try.zeroValue23,
  a24 := Try.isAgg31,
  z24 := Try.sizeOf31,
  t25 := Try.underlying92,
  a25 := Try.isAgg92,
  z25 := Try.sizeOf92,
  v25 := Try.zeroValue92,
  t39 := Try.underlying124,
  a39 := Try.isAgg124,
  z39 := Try.sizeOf124,
  v39 := Try.zeroValue124,
  t45 := Try.underlying133,
  a45 := Try.isAgg133,
  z45 := Try.sizeOf133,
  v45 := Try.zeroValue133,
  t46 := Try.underlying134,
  a46 := Try.isAgg134,
  z46 := Try.sizeOf134,
  v46 := Try.zeroValue134,
  t50 := Try.underlying99,
  a50 := Try.isAgg99,
  z50 := Try.sizeOf99,
  v50 := Try.zeroValue99,
  t53 := Try.underlying140,
  a53 := Try.isAgg140,
  z53 := Try.sizeOf140,
  v53 := Try.zeroValue140,
  t55 := Try.underlying142,
  a55 := Try.isAgg142,
  z55 := Try.sizeOf142,
  v55 := Try.zeroValue142,
  t66 := Try.underlying143,
  a66 := Try.isAgg143,
  z66 := Try.sizeOf143,
  v66 := Try.zeroValue143,
  t70 := Try.underlying147,
  a70 := Try.isAgg147,
  z70 := Try.sizeOf147,
  v70 := Try.zeroValue147,
  t76 := Try.underlying149,
  a76 := Try.isAgg149,
  z76 := Try.sizeOf149,
  v76 := Try.zeroValue149,
  t77 := Try.underlying150,
  a77 := Try.isAgg150,
  z77 := Try.sizeOf150,
  v77 := Try.zeroValue150 }

theorem sortRowsOK : SortC Try.prog 96 68 (.slice (.named 1)) RowsOK srtRows :=
 SortC.make noGlob (fun _ => rfl) sortRows rfl ⟨Try.func96, by kernel_rfl, rfl⟩ (fun n h => by cases h) icompareRows_ok rfl rfl (cf := icompareRows)
  (fun xs ⟨wd, h⟩ => ⟨fun r => VR r ∧ r.length = wd, h, rows_sortable wd, fun _ _ _ _ => trivial, fun _ _ _ _ => rfl⟩)
  srtRows_len (fun xs _ => srtRows_perm xs) (fun xs ⟨wd, h⟩ => (srtRows_sorted xs).imp_of_mem fun {a b} ha hb hab => by
   have h1 := h a (srtRows_mem.1 ha); have h2 := h b (srtRows_mem.1 hb); rw [iRows_lex h2.1 h1.1 (by omega)]
   exact of_decide_eq_false hab)

def collect_l0 (width : Int) : List (List Val) → (List (List Val)) → (List (List Val)) ⊕ Tab
 | [], ar22 => .inl ar22
 | v8 :: l, ar22 => (bif ((length ar22 : Int) == 400) then (.inr (Tab.mk width ([] : List (List Val)))) else (collect_l0 width l (ar22 ++ ([(icopied v8)] : List (List Val)))))

def collect (width : Int) (rows : List (List Val)) : Tab := (Sum.elim (fun z => (fun (ar22 : List (List Val)) => (Tab.mk width (srtRows ar22))) z) (fun r => r) (collect_l0 width rows ([] : List (List Val))))

def collect_sp : FnSpec := mkSpec [.val (.int .i64), .clo 97 (.slice (.slice (.named 1)))] [.val (.named 2)] (fun (width : Int) (rows : List (List Val)) => RowsOK rows) (fun (width : Int) (rows : List (List Val)) => [⟨(.named 2), (collect width rows)⟩])

theorem collect_ok : FnOK Try.prog 62 collect_sp := by
 have hC : CtxOK Try.prog (mkCtx tyL [(95, icopied_sp)]) := CtxOK.cons icopied_ok (CtxOK.nil tyOK); have hM : Try.prog.follows .mixedOrders = true := Try.checked.mixed; have hC1 := hC.rebase 1000; refine FnOK.of_bodyR Try.func62 (by kernel_rfl) rfl (C := (mkCtx tyL [(95, icopied_sp)])) hC.ty (by kernel_rfl) ?_; intro (width : Int) (rows : List (List Val)) hwf hpre E hro; have hpre : RowsOK rows := hpre; have e0 : collect width rows = collect width rows := rfl; refine seq (r1U hC [1, 2, 4] [8, 16] [(2, .ref 8 1 0), (4, .ref 16 1 0)] [(8, .box 1 [.int .i64 width]), (16, .box 1 [.int .i64 0, .nilsl])] ?_); refine seq (r1U hC [1, 2, 4, 5] [8, 16, 20] [(5, .ref 20 1 0)] [(20, .box 1 [.nilsl])] ?_); refine seq (seq (r1U hC [2, 4, 5, 7] [8, 16, 20] [(7, .clo 97 [.dref (.slice (.slice (.named 1))) (rows : List (List Val))])] [] ?_)); refine block (AW.adoptB 20 1 0 22 [.nilsl] (.slice (.named 1)) (by kernel_rfl) (by kernel_rfl) (by kernel_rfl) ?_); refine kp [2, 4, 5, 7] [8, 16, 20, 22] ⟨[(2, .ref 8 1 0), (4, .ref 16 1 0), (5, .ref 20 1 0), (7, .clo 97 [.dref (.slice (.slice (.named 1))) (rows : List (List Val))])], [(8, .box 1 [.int .i64 width]), (16, .box 1 [.int .i64 0, .nilsl]), (20, .box 1 [.arr 22 1]), (22, .arr 1 (.slice (.named 1)) (([] : List (List Val)) : List (List Val)))]⟩ ?_; refine cutQ (α := (List (List Val))) (fun x => ⟨[(2, .ref 8 1 0), (4, .ref 16 1 0), (5, .ref 20 1 0), (7, .clo 97 [.dref (.slice (.slice (.named 1))) (rows : List (List Val))])], [(8, .box 1 [.int .i64 width]), (16, .box 1 [.int .i64 0, .nilsl]), (20, .box 1 [.arr 22 1]), (22, .arr 1 (.slice (.named 1)) (x : List (List Val)))]⟩) (fun x => ((∀ r ∈ x, r ∈ rows) ∧ length x ≤ 400) ∧ (collect_l0 width rows ([] : List (List Val))) = (.inl x)) ?_ ?_
 ·
  skip; refine AW.rangeFuncP (α := (List (List Val))) hro Try.func97 rfl rfl (by rfl) (by decide) (fun x => ⟨[(2, .ref 8 1 0), (4, .ref 16 1 0), (5, .ref 20 1 0), (7, .clo 97 [.dref (.slice (.slice (.named 1))) (rows : List (List Val))])], [(8, .box 1 [.int .i64 width]), (16, .box 1 [.int .i64 0, .nilsl]), (20, .box 1 [.arr 22 1]), (22, .arr 1 (.slice (.named 1)) (x : List (List Val)))]⟩) (fun k x => ((∀ r ∈ x, r ∈ rows) ∧ length x ≤ 400) ∧ (collect_l0 width rows ([] : List (List Val))) = collect_l0 width (drop k rows) x) (List.map (SV.data (.slice (.named 1))) (rows : List (List Val))) [2, 4, 5, 7] [8, 16, 20, 22] (fun x => by kernel_rfl) ([] : List (List Val)) values_hit (by kernel_rfl) ⟨?_, by rw [List.drop_zero]⟩ ?_ ?_
  · exact ⟨fun r hr => (by cases hr), Nat.zero_le _⟩
  ·
   intro k ar22 sv hsv hR E1; obtain ⟨hI0, he28⟩ := hR; obtain ⟨v8, hd30, rfl, hy31⟩ : ∃ y : List Val, drop k rows = y :: drop (k + 1) rows ∧ sv = SV.data (.slice (.named 1)) y ∧ y ∈ rows := els_data hsv; have e29 : (collect_l0 width rows ([] : List (List Val))) = collect_l0 width (v8 :: drop (k + 1) rows) ar22 := he28.trans (by rw [hd30]); have hym := hy31; have hyl := hpre.len hy31; refine kp [2, 4, 5, 7, 8, 1002, 1004, 1005, 1007] [8, 16, 20, 22] ⟨[(2, .ref 8 1 0), (4, .ref 16 1 0), (5, .ref 20 1 0), (7, .clo 97 [.dref (.slice (.slice (.named 1))) (rows : List (List Val))]), (8, .data (.slice (.named 1)) (v8 : List Val)), (1002, .ref 8 1 0), (1004, .ref 16 1 0), (1005, .ref 20 1 0), (1007, .clo 97 [.dref (.slice (.slice (.named 1))) (rows : List (List Val))])], [(8, .box 1 [.int .i64 width]), (16, .box 1 [.int .i64 0, .nilsl]), (20, .box 1 [.arr 22 1]), (22, .arr 1 (.slice (.named 1)) (ar22 : List (List Val)))]⟩ ?_; refine AW.wf_arr (id := 22) (ep := 1) (t := (.slice (.named 1))) (xs := (ar22 : List (List Val))) (by kernel_rfl) fun ha32 _ => ?_; replace ha32 : (length ar22 : Int) ≤ 4294967296 := ha32; refine r1U hC1 [2, 4, 5, 6, 1002, 1004, 1005, 1007] [8, 16, 20, 22] [(6, .data (.slice (.named 1)) (v8 : List Val))] [] ?_; intro E32; refine block (seq (seq (AW.wf_arr (id := 22) (ep := 1) (t := (.slice (.named 1))) (xs := (ar22 : List (List Val))) (by kernel_rfl) fun ha33 _ => ?_))); replace ha33 : (length ar22 : Int) ≤ 4294967296 := ha33; refine r1U hC1 [2, 4, 5, 6, 11, 1002, 1004, 1005, 1007] [8, 16, 20, 22] [(11, .bool ((length ar22 : Int) == 400))] [] ?_; refine cdE e29 ?_ ?_
   · intro h34q e35; refine seq (AW.wf_arr (id := 22) (ep := 1) (t := (.slice (.named 1))) (xs := (ar22 : List (List Val))) (by kernel_rfl) fun ha36 _ => ?_); replace ha36 : (length ar22 : Int) ≤ 4294967296 := ha36; refine r1U hC1 [4, 1002, 1004, 1005, 1007] [8, 16, 20, 22] [] [(16, .box 1 [.int .i64 width, .nilsl])] ?_; refine ret ?_; have e37 := e0.trans (elim_r e35); exact rS (.named 2) e37
   ·
    intro h38q e39; refine kpU [5, 6, 1002, 1004, 1005, 1007] [8, 16, 20, 22] [] [] ?_; refine AW.skip (AW.wf_arr (id := 22) (ep := 1) (t := (.slice (.named 1))) (xs := (ar22 : List (List Val))) (by kernel_rfl) fun ha40 _ => ?_); replace ha40 : (length ar22 : Int) ≤ 4294967296 := ha40; refine d0U hC1 hM [1002, 1004, 1005, 1007] [8, 16, 20, 22] [] [(22, .arr 1 (.slice (.named 1)) ((ar22 ++ ([(icopied v8)] : List (List Val))) : List (List Val)))] [((length v8 : Int) ≤ 4294967296), ((length ar22 : Int) + (length ([(icopied v8)] : List (List Val)) : Int) ≤ 4294967296)] ?_ ?_
    ·
     exact ⟨(by omega), (by (simp only [lens] at *; omega)), trivial⟩
    refine ⟨(ar22 ++ ([(icopied v8)] : List (List Val))), by kernel_rfl, ?_, e39⟩; refine ⟨fun r hr => ?_, by simp only [List.length_append, List.length_cons, List.length_nil]; omega⟩; rcases List.mem_append.1 hr with h | h
    · exact hI0.1 r h
    · rw [List.mem_singleton.1 h, icopied_eq]; exact hym
  · intro ar22 hR; obtain ⟨hI0, he28⟩ := hR; have e29 : (collect_l0 width rows ([] : List (List Val))) = collect_l0 width [] ar22 := he28.trans (by rw [List.drop_of_length_le (show length rows ≤ _ from Nat.le_of_eq (List.length_map (SV.data (.slice (.named 1)))).symm)]); refine meet ar22 (by kernel_rfl) ⟨?_, e29⟩; exact hI0
 ·
  intro ar22 hR; obtain ⟨hJ0, e41⟩ := hR; have e42 := e0.trans (elim_l e41); refine seq (AW.wf_arr (id := 22) (ep := 1) (t := (.slice (.named 1))) (xs := (ar22 : List (List Val))) (by kernel_rfl) fun ha43 _ => ?_); replace ha43 : (length ar22 : Int) ≤ 4294967296 := ha43; refine AW.regionO [0, 1] (by rfl) ?_
  refine AWO.runU hC false [] [0] [1] [2, 4, 5, 19] [8, 16, 20, 22]
   [(19, .arr 22 1)] []
   [] (by rfl) (by kernel_rfl) ?_ ?_
  · exact trivial
  refine AWO.sort (id := 22) (ep := 1) (xs := (ar22 : List (List Val))) sortRowsOK (by rfl) (by rfl) (by kernel_rfl) (by kernel_rfl) (by kernel_rfl) ?_ ?_
  · exact hpre.sub hJ0.1
  refine AWO.keepU [2, 4, 5] [8, 16, 20, 22] [] [(22, .arr 1 (.slice (.named 1)) ((srtRows ar22) : List (List Val)))] (by kernel_rfl) ?_
  refine AWO.runU hC false [] [] [] [2, 4, 5] [8, 16, 20, 22]
   [] []
   [] (by rfl) (by kernel_rfl) ?_ ?_
  · exact trivial
  refine AWO.nil ?_; refine seq (AW.wf_arr (id := 22) (ep := 1) (t := (.slice (.named 1))) (xs := ((srtRows ar22) : List (List Val))) (by kernel_rfl) fun ha44 _ => ?_); replace ha44 : (length (srtRows ar22) : Int) ≤ 4294967296 := ha44; refine r1U hC [4] [16, 22] [] [(16, .box 1 [.int .i64 width, .arr 22 1])] ?_; exact ret (rS (.named 2) e42)

end
end Go.Proofs.Ytjcjpeckfikfkaa
