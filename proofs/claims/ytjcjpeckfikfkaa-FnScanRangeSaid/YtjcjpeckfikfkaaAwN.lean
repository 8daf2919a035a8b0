/-
  A part of the proof of this claim (AwN): what functions of the program compute, and plain facts of that. No conditions.
-/
import Derived.Test.YtjcjpeckfikfkaaAwM
set_option linter.all false
namespace Go.Proofs.Ytjcjpeckfikfkaa
open Go Go.Am
noncomputable section

theorem two_ok {a b : List (List Val)} (h : a.length ≤ 1000) (h' : b.length ≤ 1000) : ((List.length [a, b] : Nat) : Int) ≤ 1000 ∧ ∀ k : Nat, k < List.length [a, b] → ((List.length (List.getD [a, b] k []) : Nat) : Int) ≤ 1000000 := by
 refine ⟨by simp, fun k hk => ?_⟩
 match k with
 | 0 => show ((List.length a : Nat) : Int) ≤ 1000000; omega
 | 1 => show ((List.length b : Nat) : Int) ≤ 1000000; omega
 | k + 2 => simp at hk; omega

theorem concat_pair (a b : List (List Val)) : concat [a, b] = a ++ b := by
 rw [concat_eq]
 simp

theorem union_rows {a b : Tab} (ha : ValidTable a = true) (hb : ValidTable b = true) (hw : a.Width = b.Width) : RowsOK (valuesF (concat [a.Rows, b.Rows])) := by
 have ha := ValidTable_iff.1 ha
 have hb := ValidTable_iff.1 hb
 show RowsOK (concat [a.Rows, b.Rows])
 rw [concat_pair]
 refine ⟨a.Width.toNat, fun r hr => ?_⟩
 have g : ∀ {t : Tab}, VT t → r ∈ t.Rows → VR r ∧ r.length = t.Width.toNat := fun {t} ht hm => by
  obtain ⟨i, hi, rfl⟩ := getD_mem_row hm
  have := ht.rows i hi
  refine ⟨this.1, ?_⟩
  have h2 : (((t.Rows.getD i []).length : Nat) : Int) = t.Width := this.2
  omega
 rcases List.mem_append.1 hr with h | h
 ·
  exact g ha h
 ·
  rw [hw]; exact g hb h

def iUnionAll (a : Tab) (b : Tab) : Tab × Bool := (bif (bif (bif (!(ValidTable a)) then true else (!(ValidTable b))) then true else ((Tab.Width a) != (Tab.Width b))) then ((Tab.mk 0 ([] : List (List Val))), false) else ((collect (Tab.Width a) (valuesF (concat ([(Tab.Rows a), (Tab.Rows b)] : List (List (List Val)))))), true))

def iUnionAll_sp : FnSpec := mkSpec [.val (.named 2), .val (.named 2)] [.val (.named 2), .val .bool] (fun (a : Tab) (b : Tab) => True) (fun (a : Tab) (b : Tab) => [⟨(.named 2), ((iUnionAll a b).1)⟩, ⟨.bool, ((iUnionAll a b).2)⟩])

theorem iUnionAll_ok : FnOK Try.prog 37 iUnionAll_sp := by
 have hC : CtxOK Try.prog (mkCtx tyL [(19, ValidTable_sp), (62, collect_sp), (63, valuesF_sp), (82, concat_sp)]) := CtxOK.cons ValidTable_ok (CtxOK.cons collect_ok (CtxOK.cons valuesF_ok (CtxOK.cons concat_ok (CtxOK.nil tyOK))))
 have hM : Try.prog.follows .mixedOrders = true := Try.checked.mixed
 refine FnOK.of_body Try.func37 (by kernel_rfl) rfl (C := (mkCtx tyL [(19, ValidTable_sp), (62, collect_sp), (63, valuesF_sp), (82, concat_sp)])) hC.ty (by kernel_rfl) ?_
 intro (a : Tab) (b : Tab) hwf hpre E
 have hpre : True := hpre
 have hw_a : Wf ⟨(.named 2), (a : Tab)⟩ := hwf _ (List.Mem.head _)
 have hr_a_Width : -9223372036854775808 ≤ Tab.Width a ∧ Tab.Width a ≤ 9223372036854775807 := (hw_a.field (tv := ⟨(.int .i64), Tab.Width a⟩) (List.Mem.head _)).int_inv
 have hl_a_Rows : ((List.length (Tab.Rows a) : Nat) : Int) ≤ 9223372036854775807 := (hw_a.field (tv := ⟨(.slice (.slice (.named 1))), Tab.Rows a⟩) (List.Mem.tail _ (List.Mem.head _))).len
 have hw_b : Wf ⟨(.named 2), (b : Tab)⟩ := hwf _ (List.Mem.tail _ (List.Mem.head _))
 have hr_b_Width : -9223372036854775808 ≤ Tab.Width b ∧ Tab.Width b ≤ 9223372036854775807 := (hw_b.field (tv := ⟨(.int .i64), Tab.Width b⟩) (List.Mem.head _)).int_inv
 have hl_b_Rows : ((List.length (Tab.Rows b) : Nat) : Int) ≤ 9223372036854775807 := (hw_b.field (tv := ⟨(.slice (.slice (.named 1))), Tab.Rows b⟩) (List.Mem.tail _ (List.Mem.head _))).len
 have e0 : iUnionAll a b = iUnionAll a b := rfl
 refine AW.seq (AW.r1 hC [2, 3, 4] [8, 12, 16] ⟨[(2, .ref 8 1 0), (3, .ref 12 1 0), (4, .ref 16 1 0)], [(8, .box 1 [.int .i64 (Tab.Width a), .data (.slice (.slice (.named 1))) ((Tab.Rows a) : List (List Val))]), (12, .box 1 [.int .i64 (Tab.Width b), .data (.slice (.slice (.named 1))) ((Tab.Rows b) : List (List Val))]), (16, .box 1 [.int .i64 0, .nilsl])]⟩ ?_)
 refine AW.seq (AW.seq (AW.r0 hC [2, 3, 4, 20] [8, 12, 16] ⟨[(2, .ref 8 1 0), (3, .ref 12 1 0), (4, .ref 16 1 0), (20, .bool (bif (bif (!(ValidTable a)) then true else (!(ValidTable b))) then true else ((Tab.Width a) != (Tab.Width b))))], [(8, .box 1 [.int .i64 (Tab.Width a), .data (.slice (.slice (.named 1))) ((Tab.Rows a) : List (List Val))]), (12, .box 1 [.int .i64 (Tab.Width b), .data (.slice (.slice (.named 1))) ((Tab.Rows b) : List (List Val))]), (16, .box 1 [.int .i64 0, .nilsl])]⟩ [(True), (((!(ValidTable a)) = false) → (((!(ValidTable a)) = false))), (((!(ValidTable a)) = false) → (True)), (((!(ValidTable a)) = false) → (((!(ValidTable a)) = false))), (((!(ValidTable a)) = false) → (((!(ValidTable a)) = false))), (((bif (!(ValidTable a)) then true else (!(ValidTable b))) = false) → (((bif (!(ValidTable a)) then true else (!(ValidTable b))) = false))), (((bif (!(ValidTable a)) then true else (!(ValidTable b))) = false) → (((bif (!(ValidTable a)) then true else (!(ValidTable b))) = false))), (((bif (!(ValidTable a)) then true else (!(ValidTable b))) = false) → (((bif (!(ValidTable a)) then true else (!(ValidTable b))) = false))), (((bif (!(ValidTable a)) then true else (!(ValidTable b))) = false) → (((bif (!(ValidTable a)) then true else (!(ValidTable b))) = false))), (((bif (!(ValidTable a)) then true else (!(ValidTable b))) = false) → (((bif (!(ValidTable a)) then true else (!(ValidTable b))) = false)))] ?_ ?_))
 ·
  refine ⟨?_, ?_, ?_, ?_, ?_, ?_, ?_, ?_, ?_, ?_, trivial⟩
  ·
   trivial
  ·
   intro g1
   have g1p0 : (ValidTable a) = true := (Go.Am.not_neg g1)
   assumption
  ·
   intro g2
   have g2p0 : (ValidTable a) = true := (Go.Am.not_neg g2)
   trivial
  ·
   intro g3
   have g3p0 : (ValidTable a) = true := (Go.Am.not_neg g3)
   assumption
  ·
   intro g4
   have g4p0 : (ValidTable a) = true := (Go.Am.not_neg g4)
   assumption
  ·
   intro g5
   have g5p0 : ((ValidTable a) = true) ∧ ((ValidTable b) = true) := (And.imp (fun h => (Go.Am.not_neg h)) (fun h => (Go.Am.not_neg h)) (Go.Am.or_neg g5))
   assumption
  ·
   intro g6
   have g6p0 : ((ValidTable a) = true) ∧ ((ValidTable b) = true) := (And.imp (fun h => (Go.Am.not_neg h)) (fun h => (Go.Am.not_neg h)) (Go.Am.or_neg g6))
   assumption
  ·
   intro g7
   have g7p0 : ((ValidTable a) = true) ∧ ((ValidTable b) = true) := (And.imp (fun h => (Go.Am.not_neg h)) (fun h => (Go.Am.not_neg h)) (Go.Am.or_neg g7))
   assumption
  ·
   intro g8
   have g8p0 : ((ValidTable a) = true) ∧ ((ValidTable b) = true) := (And.imp (fun h => (Go.Am.not_neg h)) (fun h => (Go.Am.not_neg h)) (Go.Am.or_neg g8))
   assumption
  ·
   intro g9
   have g9p0 : ((ValidTable a) = true) ∧ ((ValidTable b) = true) := (And.imp (fun h => (Go.Am.not_neg h)) (fun h => (Go.Am.not_neg h)) (Go.Am.or_neg g9))
   assumption
 refine AW.cd (bif (bif (!(ValidTable a)) then true else (!(ValidTable b))) then true else ((Tab.Width a) != (Tab.Width b))) ?_ ?_
 ·
  intro h10
  have h10q : (((ValidTable a) = false) ∨ ((ValidTable b) = false)) ∨ ((Tab.Width a) ≠ (Tab.Width b)) := (Or.imp (fun h => (Or.imp (fun h => (Go.Am.not_pos h)) (fun h => (Go.Am.not_pos h)) (Go.Am.or_pos h))) (fun h => (Go.Am.bne_pos h)) (Go.Am.or_pos h10))
  have e11 := e0.trans (Go.Am.bif_t h10)
  refine AW.seq (AW.r1 hC [4, 5] [16] ⟨[(4, .ref 16 1 0), (5, .bool false)], [(16, .box 1 [.int .i64 0, .nilsl])]⟩ ?_)
  exact AW.ret (AW.retE (β := Tab × Bool) (fun v => [⟨(.named 2), v.1⟩, ⟨.bool, v.2⟩]) (fun v => []) (v := ((Tab.mk 0 ([] : List (List Val))), false)) e11 (by kernel_rfl) rfl rfl)
 ·
  intro h12
  have h12q : (((ValidTable a) = true) ∧ ((ValidTable b) = true)) ∧ ((Tab.Width a) = (Tab.Width b)) := (And.imp (fun h => (And.imp (fun h => (Go.Am.not_neg h)) (fun h => (Go.Am.not_neg h)) (Go.Am.or_neg h))) (fun h => (Go.Am.bne_neg h)) (Go.Am.or_neg h12))
  have e13 := e0.trans (Go.Am.bif_f h12)
  refine AW.kp [2, 3, 4] [8, 12, 16] ⟨[(2, .ref 8 1 0), (3, .ref 12 1 0), (4, .ref 16 1 0)], [(8, .box 1 [.int .i64 (Tab.Width a), .data (.slice (.slice (.named 1))) ((Tab.Rows a) : List (List Val))]), (12, .box 1 [.int .i64 (Tab.Width b), .data (.slice (.slice (.named 1))) ((Tab.Rows b) : List (List Val))]), (16, .box 1 [.int .i64 0, .nilsl])]⟩ ?_
  refine AW.skip (AW.seq (AW.d0 hC hM [4, 5] [16] ⟨[(4, .ref 16 1 0), (5, .bool true)], [(16, .box 1 [.int .i64 (Tab.Width (collect (Tab.Width a) (valuesF (concat ([(Tab.Rows a), (Tab.Rows b)] : List (List (List Val))))))), .data (.slice (.slice (.named 1))) ((Tab.Rows (collect (Tab.Width a) (valuesF (concat ([(Tab.Rows a), (Tab.Rows b)] : List (List (List Val))))))) : List (List Val))])]⟩ [((List.length ([(Tab.Rows a), (Tab.Rows b)] : List (List (List Val))) : Int) ≤ 1000 ∧ (∀ jj : Nat, jj < ([(Tab.Rows a), (Tab.Rows b)] : List (List (List Val))).length → ((List.length (List.getD ([(Tab.Rows a), (Tab.Rows b)] : List (List (List Val))) jj []) : Nat) : Int) ≤ 1000000)), (True), (RowsOK (valuesF (concat ([(Tab.Rows a), (Tab.Rows b)] : List (List (List Val))))))] ?_ ?_))
  ·
   refine ⟨?_, ?_, ?_, trivial⟩
   ·
    exact two_ok (by have := (ValidTable_iff.1 h12q.1.1).n4; omega) (by have := (ValidTable_iff.1 h12q.1.2).n4; omega)
   ·
    trivial
   ·
    exact union_rows (by first | exact h12q.1.1) (by first | exact h12q.1.2) h12q.2
  exact AW.ret (AW.retE (β := Tab × Bool) (fun v => [⟨(.named 2), v.1⟩, ⟨.bool, v.2⟩]) (fun v => []) (v := ((collect (Tab.Width a) (valuesF (concat ([(Tab.Rows a), (Tab.Rows b)] : List (List (List Val)))))), true)) e13 (by kernel_rfl) rfl rfl)

def iCountRow_l0 (t : Tab) (row : List Val) : Nat → Int → Int → Int
 | 0, i1, j1 => i1
 | k + 1, i1, j1 => (bif (decide (i1 < j1)) then (bif (decide ((icompareRows (List.getD (Tab.Rows t) (Int.toNat ((i1 + j1) / 2 ^ 1)) []) row) < 0)) then (iCountRow_l0 t row k (((i1 + j1) / 2 ^ 1) + 1) j1) else (iCountRow_l0 t row k i1 ((i1 + j1) / 2 ^ 1))) else i1)

def iCountRow_l1 (t : Tab) (row : List Val) (i1 : Int) : Nat → Nat → Nat → Nat
 | 0, count, v35 => count
 | k + 1, count, v35 => (bif (decide (((v35 : Nat) : Int) < ((List.length (List.drop (Int.toNat i1) (Tab.Rows t)) : Nat) : Int))) then (bif ((icompareRows (List.getD (List.drop (Int.toNat i1) (Tab.Rows t)) v35 []) row) != 0) then count else (iCountRow_l1 t row i1 k (count + 1) (v35 + 1))) else count)

def iCountRow (t : Tab) (row : List Val) : Int := (bif (!(ValidTable t)) then (-1) else (bif (bif (((List.length row : Nat) : Int) != (Tab.Width t)) then true else (!(ivalidRow row))) then 0 else (Go.Am.andThen (iCountRow_l0 t row (Int.toNat (((List.length (Tab.Rows t) : Nat) : Int) - 0) + 1) 0 ((List.length (Tab.Rows t) : Nat) : Int)) (fun z => (fun (i1 : Int) => (Go.Am.andThen (iCountRow_l1 t row i1 ((List.length (List.drop (Int.toNat i1) (Tab.Rows t))) - 0 + 1) 0 0) (fun z => (fun (count : Nat) => ((count : Nat) : Int)) z))) z))))

def iCountRow_sp : FnSpec := mkSpec [.val (.named 2), .val (.slice (.named 1))] [.val (.int .i64)] (fun (t : Tab) (row : List Val) => True) (fun (t : Tab) (row : List Val) => [⟨(.int .i64), (iCountRow t row)⟩])

theorem iCountRow_ok : FnOK Try.prog 28 iCountRow_sp := by
 have hC : CtxOK Try.prog (mkCtx tyL [(19, ValidTable_sp), (61, ivalidRow_sp), (68, icompareRows_sp)]) := CtxOK.cons ValidTable_ok (CtxOK.cons ivalidRow_ok (CtxOK.cons icompareRows_ok (CtxOK.nil tyOK)))
 have hC1 := hC.rebase 1000
 refine FnOK.of_body Try.func28 (by kernel_rfl) rfl (C := (mkCtx tyL [(19, ValidTable_sp), (61, ivalidRow_sp), (68, icompareRows_sp)])) hC.ty (by kernel_rfl) ?_
 intro (t : Tab) (row : List Val) hwf hpre E
 have hpre : True := hpre
 have hw_t : Wf ⟨(.named 2), (t : Tab)⟩ := hwf _ (List.Mem.head _)
 have hr_t_Width : -9223372036854775808 ≤ Tab.Width t ∧ Tab.Width t ≤ 9223372036854775807 := (hw_t.field (tv := ⟨(.int .i64), Tab.Width t⟩) (List.Mem.head _)).int_inv
 have hl_t_Rows : ((List.length (Tab.Rows t) : Nat) : Int) ≤ 9223372036854775807 := (hw_t.field (tv := ⟨(.slice (.slice (.named 1))), Tab.Rows t⟩) (List.Mem.tail _ (List.Mem.head _))).len
 have hw_row : Wf ⟨(.slice (.named 1)), (row : List Val)⟩ := hwf _ (List.Mem.tail _ (List.Mem.head _))
 have hl_row : ((List.length row : Nat) : Int) ≤ 9223372036854775807 := hw_row.len
 have e0 : iCountRow t row = iCountRow t row := rfl
 refine AW.seq (AW.r1 hC [1, 2] [8] ⟨[(1, .data (.slice (.named 1)) (row : List Val)), (2, .ref 8 1 0)], [(8, .box 1 [.int .i64 (Tab.Width t), .data (.slice (.slice (.named 1))) ((Tab.Rows t) : List (List Val))])]⟩ ?_)
 refine AW.seq (AW.seq (AW.r0 hC [1, 2, 12] [8] ⟨[(1, .data (.slice (.named 1)) (row : List Val)), (2, .ref 8 1 0), (12, .bool (!(ValidTable t)))], [(8, .box 1 [.int .i64 (Tab.Width t), .data (.slice (.slice (.named 1))) ((Tab.Rows t) : List (List Val))])]⟩ [(True)] ?_ ?_))
 ·
  refine ⟨?_, trivial⟩
  ·
   trivial
 refine AW.cd (!(ValidTable t)) ?_ ?_
 ·
  intro h1
  have h1q : (ValidTable t) = false := (Go.Am.not_pos h1)
  have e2 := e0.trans (Go.Am.bif_t h1)
  refine AW.seq (AW.r1 hC [4] [] ⟨[(4, .int .i64 (-1))], []⟩ ?_)
  exact AW.ret (AW.retE (β := Int) (fun v => [⟨(.int .i64), v⟩]) (fun v => []) (v := (-1)) e2 (by kernel_rfl) rfl rfl)
 ·
  intro h3
  have h3q : (ValidTable t) = true := (Go.Am.not_neg h3)
  have e4 := e0.trans (Go.Am.bif_f h3)
  refine AW.kp [1, 2] [8] ⟨[(1, .data (.slice (.named 1)) (row : List Val)), (2, .ref 8 1 0)], [(8, .box 1 [.int .i64 (Tab.Width t), .data (.slice (.slice (.named 1))) ((Tab.Rows t) : List (List Val))])]⟩ ?_
  refine AW.skip (AW.seq (AW.seq ?_))
  have hn4 := (ValidTable_iff.1 h3q).n4
  refine AW.r0 hC [1, 2, 22] [8] ⟨[(1, .data (.slice (.named 1)) (row : List Val)), (2, .ref 8 1 0), (22, .bool (bif (((List.length row : Nat) : Int) != (Tab.Width t)) then true else (!(ivalidRow row))))], [(8, .box 1 [.int .i64 (Tab.Width t), .data (.slice (.slice (.named 1))) ((Tab.Rows t) : List (List Val))])]⟩ [(((((List.length row : Nat) : Int) != (Tab.Width t)) = false) → (((((List.length row : Nat) : Int) != (Tab.Width t)) = false))), (((((List.length row : Nat) : Int) != (Tab.Width t)) = false) → (True)), (((((List.length row : Nat) : Int) != (Tab.Width t)) = false) → (((((List.length row : Nat) : Int) != (Tab.Width t)) = false))), (((((List.length row : Nat) : Int) != (Tab.Width t)) = false) → (((((List.length row : Nat) : Int) != (Tab.Width t)) = false)))] ?_ ?_
  ·
   refine ⟨?_, ?_, ?_, ?_, trivial⟩
   ·
    intro g5
    have g5p0 : ((List.length row : Nat) : Int) = (Tab.Width t) := (Go.Am.bne_neg g5)
    assumption
   ·
    intro g6
    have g6p0 : ((List.length row : Nat) : Int) = (Tab.Width t) := (Go.Am.bne_neg g6)
    trivial
   ·
    intro g7
    have g7p0 : ((List.length row : Nat) : Int) = (Tab.Width t) := (Go.Am.bne_neg g7)
    assumption
   ·
    intro g8
    have g8p0 : ((List.length row : Nat) : Int) = (Tab.Width t) := (Go.Am.bne_neg g8)
    assumption
  refine AW.cd (bif (((List.length row : Nat) : Int) != (Tab.Width t)) then true else (!(ivalidRow row))) ?_ ?_
  ·
   intro h9
   have h9q : (((List.length row : Nat) : Int) ≠ (Tab.Width t)) ∨ ((ivalidRow row) = false) := (Or.imp (fun h => (Go.Am.bne_pos h)) (fun h => (Go.Am.not_pos h)) (Go.Am.or_pos h9))
   have e10 := e4.trans (Go.Am.bif_t h9)
   refine AW.seq (AW.r1 hC [4] [] ⟨[(4, .int .i64 0)], []⟩ ?_)
   exact AW.ret (AW.retE (β := Int) (fun v => [⟨(.int .i64), v⟩]) (fun v => []) (v := 0) e10 (by kernel_rfl) rfl rfl)
  ·
   intro h11
   have h11q : (((List.length row : Nat) : Int) = (Tab.Width t)) ∧ ((ivalidRow row) = true) := (And.imp (fun h => (Go.Am.bne_neg h)) (fun h => (Go.Am.not_neg h)) (Go.Am.or_neg h11))
   have e12 := e4.trans (Go.Am.bif_f h11)
   refine AW.kp [1, 2] [8] ⟨[(1, .data (.slice (.named 1)) (row : List Val)), (2, .ref 8 1 0)], [(8, .box 1 [.int .i64 (Tab.Width t), .data (.slice (.slice (.named 1))) ((Tab.Rows t) : List (List Val))])]⟩ ?_
   refine AW.skip (AW.seq (AW.regionO [0, 1, 2, 3, 4, 5, 6, 7, 8] (by rfl) ?_))
   refine AWO.run hC false [] [0, 1, 2] [3, 4, 5, 6, 7, 8] [1, 2, 25, 26] [8]
    ⟨[(1, .data (.slice (.named 1)) (row : List Val)), (2, .ref 8 1 0), (25, .data (.slice (.slice (.named 1))) ((Tab.Rows t) : List (List Val))), (26, .data (.slice (.named 1)) (row : List Val))], [(8, .box 1 [.int .i64 (Tab.Width t), .data (.slice (.slice (.named 1))) ((Tab.Rows t) : List (List Val))])]⟩
    [] (by rfl) (by kernel_rfl) ?_ ?_
   ·
    exact trivial
   refine AWO.call hC.ty (vs := [.data (.slice (.slice (.named 1))) ((Tab.Rows t) : List (List Val)), .data (.slice (.named 1)) (row : List Val), .clo 68 []]) (caps := []) (by rfl) rfl (.inl rfl) (by decide) (by kernel_rfl) (by kernel_rfl) Try.func76 (by kernel_rfl) rfl (by kernel_rfl) ?_
   intro o1 ho1
   refine AW.kp [0, 1, 2, 1001, 1002] [8] ⟨[(0, .data (.slice (.slice (.named 1))) ((Tab.Rows t) : List (List Val))), (1, .data (.slice (.named 1)) (row : List Val)), (2, .clo 68 []), (1001, .data (.slice (.named 1)) (row : List Val)), (1002, .ref 8 1 0)], [(8, .box 1 [.int .i64 (Tab.Width t), .data (.slice (.slice (.named 1))) ((Tab.Rows t) : List (List Val))])]⟩ ?_
   refine AW.seq (AW.r1 hC1 [0, 1, 2, 1001, 1002] [8] ⟨[(0, .data (.slice (.slice (.named 1))) ((Tab.Rows t) : List (List Val))), (1, .data (.slice (.named 1)) (row : List Val)), (2, .clo 68 []), (1001, .data (.slice (.named 1)) (row : List Val)), (1002, .ref 8 1 0)], [(8, .box 1 [.int .i64 (Tab.Width t), .data (.slice (.slice (.named 1))) ((Tab.Rows t) : List (List Val))])]⟩ ?_)
   refine AW.seq (AW.r1 hC1 [0, 1, 2, 8, 1001, 1002] [8] ⟨[(0, .data (.slice (.slice (.named 1))) ((Tab.Rows t) : List (List Val))), (1, .data (.slice (.named 1)) (row : List Val)), (2, .clo 68 []), (8, .int .i64 ((List.length (Tab.Rows t) : Nat) : Int)), (1001, .data (.slice (.named 1)) (row : List Val)), (1002, .ref 8 1 0)], [(8, .box 1 [.int .i64 (Tab.Width t), .data (.slice (.slice (.named 1))) ((Tab.Rows t) : List (List Val))])]⟩ ?_)
   refine AW.seq (AW.r1 hC1 [0, 1, 2, 8, 9, 10, 1001, 1002] [8] ⟨[(0, .data (.slice (.slice (.named 1))) ((Tab.Rows t) : List (List Val))), (1, .data (.slice (.named 1)) (row : List Val)), (2, .clo 68 []), (8, .int .i64 ((List.length (Tab.Rows t) : Nat) : Int)), (9, .int .i64 0), (10, .int .i64 ((List.length (Tab.Rows t) : Nat) : Int)), (1001, .data (.slice (.named 1)) (row : List Val)), (1002, .ref 8 1 0)], [(8, .box 1 [.int .i64 (Tab.Width t), .data (.slice (.slice (.named 1))) ((Tab.Rows t) : List (List Val))])]⟩ ?_)
   refine AW.seq (AW.cutQ (α := Int) (fun x => ⟨[(0, .data (.slice (.slice (.named 1))) ((Tab.Rows t) : List (List Val))), (1, .data (.slice (.named 1)) (row : List Val)), (2, .clo 68 []), (8, .int .i64 ((List.length (Tab.Rows t) : Nat) : Int)), (9, .int .i64 x), (1001, .data (.slice (.named 1)) (row : List Val)), (1002, .ref 8 1 0)], [(8, .box 1 [.int .i64 (Tab.Width t), .data (.slice (.slice (.named 1))) ((Tab.Rows t) : List (List Val))])]⟩) (fun x => (0 ≤ x ∧ x ≤ List.length (Tab.Rows t)) ∧ (iCountRow_l0 t row (Int.toNat (((List.length (Tab.Rows t) : Nat) : Int) - 0) + 1) 0 ((List.length (Tab.Rows t) : Nat) : Int)) = x) ?_ ?_)
   ·
    skip
    refine AW.block (AW.loop (α := Int × Int) (fun x => ⟨[(0, .data (.slice (.slice (.named 1))) ((Tab.Rows t) : List (List Val))), (1, .data (.slice (.named 1)) (row : List Val)), (2, .clo 68 []), (8, .int .i64 ((List.length (Tab.Rows t) : Nat) : Int)), (9, .int .i64 x.1), (10, .int .i64 x.2), (1001, .data (.slice (.named 1)) (row : List Val)), (1002, .ref 8 1 0)], [(8, .box 1 [.int .i64 (Tab.Width t), .data (.slice (.slice (.named 1))) ((Tab.Rows t) : List (List Val))])]⟩) (fun x => ((0 ≤ x.1 ∧ x.1 ≤ x.2) ∧ x.2 ≤ List.length (Tab.Rows t)) ∧ ∃ k, Int.toNat (x.2 - x.1) < k ∧ (iCountRow_l0 t row (Int.toNat (((List.length (Tab.Rows t) : Nat) : Int) - 0) + 1) 0 ((List.length (Tab.Rows t) : Nat) : Int)) = iCountRow_l0 t row k x.1 x.2) (fun x => Int.toNat (x.2 - x.1)) (0, ((List.length (Tab.Rows t) : Nat) : Int)) (by kernel_rfl) ⟨?_, _, Nat.lt_succ_self _, rfl⟩ ?_)
    ·
     show (0 ≤ 0 ∧ 0 ≤ ((List.length (Tab.Rows t) : Nat) : Int)) ∧ ((List.length (Tab.Rows t) : Nat) : Int) ≤ List.length (Tab.Rows t)
     omega
    ·
     intro x hR
     obtain ⟨i1, j1⟩ := x
     obtain ⟨hI0, k52, hk50, e51⟩ := hR
     replace hI0 : (0 ≤ i1 ∧ i1 ≤ j1) ∧ j1 ≤ List.length (Tab.Rows t) := hI0
     replace hk50 : Int.toNat (j1 - i1) < k52 := hk50
     obtain ⟨k52q, rfl⟩ : ∃ k, k52 = k + 1 := ⟨k52 - 1, by omega⟩
     refine AW.seq (AW.seq (AW.r1 hC1 [0, 1, 2, 8, 9, 10, 17, 1001, 1002] [8] ⟨[(0, .data (.slice (.slice (.named 1))) ((Tab.Rows t) : List (List Val))), (1, .data (.slice (.named 1)) (row : List Val)), (2, .clo 68 []), (8, .int .i64 ((List.length (Tab.Rows t) : Nat) : Int)), (9, .int .i64 i1), (10, .int .i64 j1), (17, .bool (decide (i1 < j1))), (1001, .data (.slice (.named 1)) (row : List Val)), (1002, .ref 8 1 0)], [(8, .box 1 [.int .i64 (Tab.Width t), .data (.slice (.slice (.named 1))) ((Tab.Rows t) : List (List Val))])]⟩ ?_))
     refine AW.cd (decide (i1 < j1)) ?_ ?_
     ·
      intro h53
      have h53q : i1 < j1 := (of_decide_eq_true h53)
      have e54 := e51.trans (Go.Am.bif_t h53)
      refine AW.kp [0, 1, 2, 8, 9, 10, 1001, 1002] [8] ⟨[(0, .data (.slice (.slice (.named 1))) ((Tab.Rows t) : List (List Val))), (1, .data (.slice (.named 1)) (row : List Val)), (2, .clo 68 []), (8, .int .i64 ((List.length (Tab.Rows t) : Nat) : Int)), (9, .int .i64 i1), (10, .int .i64 j1), (1001, .data (.slice (.named 1)) (row : List Val)), (1002, .ref 8 1 0)], [(8, .box 1 [.int .i64 (Tab.Width t), .data (.slice (.slice (.named 1))) ((Tab.Rows t) : List (List Val))])]⟩ ?_
      refine AW.skip (AW.block (AW.seq (AW.r0 hC1 [0, 1, 2, 8, 9, 10, 11, 1001, 1002] [8] ⟨[(0, .data (.slice (.slice (.named 1))) ((Tab.Rows t) : List (List Val))), (1, .data (.slice (.named 1)) (row : List Val)), (2, .clo 68 []), (8, .int .i64 ((List.length (Tab.Rows t) : Nat) : Int)), (9, .int .i64 i1), (10, .int .i64 j1), (11, .int .i64 ((i1 + j1) / 2 ^ 1)), (1001, .data (.slice (.named 1)) (row : List Val)), (1002, .ref 8 1 0)], [(8, .box 1 [.int .i64 (Tab.Width t), .data (.slice (.slice (.named 1))) ((Tab.Rows t) : List (List Val))])]⟩ [(-9223372036854775808 ≤ (i1 + j1) ∧ (i1 + j1) ≤ 9223372036854775807), (0 ≤ (i1 + j1) ∧ (i1 + j1) ≤ 18446744073709551615), (0 ≤ (1 : Int) ∧ (1 : Int) ≤ 64), (-9223372036854775808 ≤ ((i1 + j1) / 2 ^ 1) ∧ ((i1 + j1) / 2 ^ 1) ≤ 9223372036854775807)] ?_ ?_)))
      ·
       refine ⟨?_, ?_, ?_, ?_, trivial⟩
       ·
        omega
       ·
        omega
       ·
        omega
       ·
        omega
      refine AW.seq (AW.r0 hC1 [0, 1, 2, 8, 9, 10, 11, 31, 1001, 1002] [8] ⟨[(0, .data (.slice (.slice (.named 1))) ((Tab.Rows t) : List (List Val))), (1, .data (.slice (.named 1)) (row : List Val)), (2, .clo 68 []), (8, .int .i64 ((List.length (Tab.Rows t) : Nat) : Int)), (9, .int .i64 i1), (10, .int .i64 j1), (11, .int .i64 ((i1 + j1) / 2 ^ 1)), (31, .bool (decide ((icompareRows (List.getD (Tab.Rows t) (Int.toNat ((i1 + j1) / 2 ^ 1)) []) row) < 0))), (1001, .data (.slice (.named 1)) (row : List Val)), (1002, .ref 8 1 0)], [(8, .box 1 [.int .i64 (Tab.Width t), .data (.slice (.slice (.named 1))) ((Tab.Rows t) : List (List Val))])]⟩ [(0 ≤ ((i1 + j1) / 2 ^ 1) ∧ ((i1 + j1) / 2 ^ 1) < ((List.length (Tab.Rows t) : Nat) : Int)), (True)] ?_ ?_)
      ·
       refine ⟨?_, ?_, trivial⟩
       ·
        omega
       ·
        trivial
      refine AW.cd (decide ((icompareRows (List.getD (Tab.Rows t) (Int.toNat ((i1 + j1) / 2 ^ 1)) []) row) < 0)) ?_ ?_
      ·
       intro h55
       have h55q : (icompareRows (List.getD (Tab.Rows t) (Int.toNat ((i1 + j1) / 2 ^ 1)) []) row) < 0 := (of_decide_eq_true h55)
       have e56 := e54.trans (Go.Am.bif_t h55)
       refine AW.r0 hC1 [0, 1, 2, 8, 9, 10, 1001, 1002] [8] ⟨[(0, .data (.slice (.slice (.named 1))) ((Tab.Rows t) : List (List Val))), (1, .data (.slice (.named 1)) (row : List Val)), (2, .clo 68 []), (8, .int .i64 ((List.length (Tab.Rows t) : Nat) : Int)), (9, .int .i64 (((i1 + j1) / 2 ^ 1) + 1)), (10, .int .i64 j1), (1001, .data (.slice (.named 1)) (row : List Val)), (1002, .ref 8 1 0)], [(8, .box 1 [.int .i64 (Tab.Width t), .data (.slice (.slice (.named 1))) ((Tab.Rows t) : List (List Val))])]⟩ [(-9223372036854775808 ≤ (((i1 + j1) / 2 ^ 1) + 1) ∧ (((i1 + j1) / 2 ^ 1) + 1) ≤ 9223372036854775807)] ?_ ?_
       ·
        refine ⟨?_, trivial⟩
        ·
         omega
       refine AW.back (x := (i1, j1)) ((((i1 + j1) / 2 ^ 1) + 1), j1) (by kernel_rfl) ⟨?_, k52q, ?_, e56⟩ ?_
       ·
        show (0 ≤ (((i1 + j1) / 2 ^ 1) + 1) ∧ (((i1 + j1) / 2 ^ 1) + 1) ≤ j1) ∧ j1 ≤ List.length (Tab.Rows t)
        omega
       ·
        show Int.toNat (j1 - (((i1 + j1) / 2 ^ 1) + 1)) < k52q
        omega
       ·
        show Int.toNat (j1 - (((i1 + j1) / 2 ^ 1) + 1)) < Int.toNat (j1 - i1)
        omega
      ·
       intro h57
       have h57q : ¬ ((icompareRows (List.getD (Tab.Rows t) (Int.toNat ((i1 + j1) / 2 ^ 1)) []) row) < 0) := (of_decide_eq_false h57)
       have e58 := e54.trans (Go.Am.bif_f h57)
       refine AW.r1 hC1 [0, 1, 2, 8, 9, 10, 1001, 1002] [8] ⟨[(0, .data (.slice (.slice (.named 1))) ((Tab.Rows t) : List (List Val))), (1, .data (.slice (.named 1)) (row : List Val)), (2, .clo 68 []), (8, .int .i64 ((List.length (Tab.Rows t) : Nat) : Int)), (9, .int .i64 i1), (10, .int .i64 ((i1 + j1) / 2 ^ 1)), (1001, .data (.slice (.named 1)) (row : List Val)), (1002, .ref 8 1 0)], [(8, .box 1 [.int .i64 (Tab.Width t), .data (.slice (.slice (.named 1))) ((Tab.Rows t) : List (List Val))])]⟩ ?_
       refine AW.back (x := (i1, j1)) (i1, ((i1 + j1) / 2 ^ 1)) (by kernel_rfl) ⟨?_, k52q, ?_, e58⟩ ?_
       ·
        show (0 ≤ i1 ∧ i1 ≤ ((i1 + j1) / 2 ^ 1)) ∧ ((i1 + j1) / 2 ^ 1) ≤ List.length (Tab.Rows t)
        omega
       ·
        show Int.toNat (((i1 + j1) / 2 ^ 1) - i1) < k52q
        omega
       ·
        show Int.toNat (((i1 + j1) / 2 ^ 1) - i1) < Int.toNat (j1 - i1)
        omega
     ·
      intro h59
      have h59q : ¬ (i1 < j1) := (of_decide_eq_false h59)
      have e60 := e51.trans (Go.Am.bif_f h59)
      refine AW.kp [0, 1, 2, 8, 9, 1001, 1002] [8] ⟨[(0, .data (.slice (.slice (.named 1))) ((Tab.Rows t) : List (List Val))), (1, .data (.slice (.named 1)) (row : List Val)), (2, .clo 68 []), (8, .int .i64 ((List.length (Tab.Rows t) : Nat) : Int)), (9, .int .i64 i1), (1001, .data (.slice (.named 1)) (row : List Val)), (1002, .ref 8 1 0)], [(8, .box 1 [.int .i64 (Tab.Width t), .data (.slice (.slice (.named 1))) ((Tab.Rows t) : List (List Val))])]⟩ ?_
      refine AW.exit ?_
      refine AW.meet i1 (by kernel_rfl) ⟨?_, e60⟩
      show 0 ≤ i1 ∧ i1 ≤ List.length (Tab.Rows t)
      omega
   ·
    intro i1 hR
    obtain ⟨hJ0, e61⟩ := hR
    replace hJ0 : 0 ≤ i1 ∧ i1 ≤ List.length (Tab.Rows t) := hJ0
    have e62 := e12.trans (Go.Am.then_eq e61)
    refine AW.seq (AW.r0 hC1 [6, 7, 1001, 1002] [8] ⟨[(6, .int .i64 i1), (7, .bool (bif (decide (i1 < ((List.length (Tab.Rows t) : Nat) : Int))) then ((icompareRows (List.getD (Tab.Rows t) (Int.toNat i1) []) row) == 0) else false)), (1001, .data (.slice (.named 1)) (row : List Val)), (1002, .ref 8 1 0)], [(8, .box 1 [.int .i64 (Tab.Width t), .data (.slice (.slice (.named 1))) ((Tab.Rows t) : List (List Val))])]⟩ [(((decide (i1 < ((List.length (Tab.Rows t) : Nat) : Int))) = true) → (((decide (i1 < ((List.length (Tab.Rows t) : Nat) : Int))) = true))), (((decide (i1 < ((List.length (Tab.Rows t) : Nat) : Int))) = true) → (((decide (i1 < ((List.length (Tab.Rows t) : Nat) : Int))) = true))), (((decide (i1 < ((List.length (Tab.Rows t) : Nat) : Int))) = true) → (0 ≤ i1 ∧ i1 < ((List.length (Tab.Rows t) : Nat) : Int))), (((decide (i1 < ((List.length (Tab.Rows t) : Nat) : Int))) = true) → (((decide (i1 < ((List.length (Tab.Rows t) : Nat) : Int))) = true))), (((decide (i1 < ((List.length (Tab.Rows t) : Nat) : Int))) = true) → (((decide (i1 < ((List.length (Tab.Rows t) : Nat) : Int))) = true))), (((decide (i1 < ((List.length (Tab.Rows t) : Nat) : Int))) = true) → (((decide (i1 < ((List.length (Tab.Rows t) : Nat) : Int))) = true))), (((decide (i1 < ((List.length (Tab.Rows t) : Nat) : Int))) = true) → (((decide (i1 < ((List.length (Tab.Rows t) : Nat) : Int))) = true))), (((decide (i1 < ((List.length (Tab.Rows t) : Nat) : Int))) = true) → (True)), (((decide (i1 < ((List.length (Tab.Rows t) : Nat) : Int))) = true) → (((decide (i1 < ((List.length (Tab.Rows t) : Nat) : Int))) = true))), (((decide (i1 < ((List.length (Tab.Rows t) : Nat) : Int))) = true) → (((decide (i1 < ((List.length (Tab.Rows t) : Nat) : Int))) = true)))] ?_ ?_)
    ·
     refine ⟨?_, ?_, ?_, ?_, ?_, ?_, ?_, ?_, ?_, ?_, trivial⟩
     ·
      intro g63
      have g63p0 : i1 < ((List.length (Tab.Rows t) : Nat) : Int) := (of_decide_eq_true g63)
      assumption
     ·
      intro g64
      have g64p0 : i1 < ((List.length (Tab.Rows t) : Nat) : Int) := (of_decide_eq_true g64)
      assumption
     ·
      intro g65
      have g65p0 : i1 < ((List.length (Tab.Rows t) : Nat) : Int) := (of_decide_eq_true g65)
      omega
     ·
      intro g66
      have g66p0 : i1 < ((List.length (Tab.Rows t) : Nat) : Int) := (of_decide_eq_true g66)
      assumption
     ·
      intro g67
      have g67p0 : i1 < ((List.length (Tab.Rows t) : Nat) : Int) := (of_decide_eq_true g67)
      assumption
     ·
      intro g68
      have g68p0 : i1 < ((List.length (Tab.Rows t) : Nat) : Int) := (of_decide_eq_true g68)
      assumption
     ·
      intro g69
      have g69p0 : i1 < ((List.length (Tab.Rows t) : Nat) : Int) := (of_decide_eq_true g69)
      assumption
     ·
      intro g70
      have g70p0 : i1 < ((List.length (Tab.Rows t) : Nat) : Int) := (of_decide_eq_true g70)
      trivial
     ·
      intro g71
      have g71p0 : i1 < ((List.length (Tab.Rows t) : Nat) : Int) := (of_decide_eq_true g71)
      assumption
     ·
      intro g72
      have g72p0 : i1 < ((List.length (Tab.Rows t) : Nat) : Int) := (of_decide_eq_true g72)
      assumption
    refine AW.ret ?_
    refine ⟨[.int .i64 i1, .bool (bif (decide (i1 < ((List.length (Tab.Rows t) : Nat) : Int))) then ((icompareRows (List.getD (Tab.Rows t) (Int.toNat i1) []) row) == 0) else false)], by kernel_rfl, ?_⟩
    refine AWO.keep [1, 2, 27] [8] ⟨[(1, .data (.slice (.named 1)) (row : List Val)), (2, .ref 8 1 0), (27, .tup [.int .i64 i1, .bool (bif (decide (i1 < ((List.length (Tab.Rows t) : Nat) : Int))) then ((icompareRows (List.getD (Tab.Rows t) (Int.toNat i1) []) row) == 0) else false)])], [(8, .box 1 [.int .i64 (Tab.Width t), .data (.slice (.slice (.named 1))) ((Tab.Rows t) : List (List Val))])]⟩ (by kernel_rfl) ?_
    refine AWO.run hC false [] [4, 5, 6, 7, 8] [] [1, 2, 5] [8]
     ⟨[(1, .data (.slice (.named 1)) (row : List Val)), (2, .ref 8 1 0), (5, .int .i64 i1)], [(8, .box 1 [.int .i64 (Tab.Width t), .data (.slice (.slice (.named 1))) ((Tab.Rows t) : List (List Val))])]⟩
     [] (by rfl) (by kernel_rfl) ?_ ?_
    ·
     exact trivial
    refine AWO.nil ?_
    refine AW.seq (AW.r1 hC [1, 2, 5, 7] [8] ⟨[(1, .data (.slice (.named 1)) (row : List Val)), (2, .ref 8 1 0), (5, .int .i64 i1), (7, .int .i64 0)], [(8, .box 1 [.int .i64 (Tab.Width t), .data (.slice (.slice (.named 1))) ((Tab.Rows t) : List (List Val))])]⟩ ?_)
    refine AW.seq (AW.seq (AW.r0 hC [1, 7, 33, 34, 35] [] ⟨[(1, .data (.slice (.named 1)) (row : List Val)), (7, .int .i64 0), (33, .data (.slice (.slice (.named 1))) ((List.drop (Int.toNat i1) (Tab.Rows t)) : List (List Val))), (34, .int .i64 ((List.length (List.drop (Int.toNat i1) (Tab.Rows t)) : Nat) : Int)), (35, .int .i64 0)], []⟩ [(0 ≤ i1 ∧ i1 ≤ ((List.length (Tab.Rows t) : Nat) : Int))] ?_ ?_))
    ·
     refine ⟨?_, trivial⟩
     ·
      omega
    refine AW.cutQ (α := Nat) (fun x => ⟨[(7, .int .i64 ((x : Nat) : Int))], []⟩) (fun x => (True) ∧ (iCountRow_l1 t row i1 ((List.length (List.drop (Int.toNat i1) (Tab.Rows t))) - 0 + 1) 0 0) = x) ?_ ?_
    ·
     skip
     refine AW.block (AW.loop (α := Nat × Nat) (fun x => ⟨[(1, .data (.slice (.named 1)) (row : List Val)), (7, .int .i64 ((x.1 : Nat) : Int)), (33, .data (.slice (.slice (.named 1))) ((List.drop (Int.toNat i1) (Tab.Rows t)) : List (List Val))), (34, .int .i64 ((List.length (List.drop (Int.toNat i1) (Tab.Rows t)) : Nat) : Int)), (35, .int .i64 ((x.2 : Nat) : Int))], []⟩) (fun x => (x.1 ≤ x.2) ∧ ∃ k, (List.length (List.drop (Int.toNat i1) (Tab.Rows t))) - x.2 < k ∧ (iCountRow_l1 t row i1 ((List.length (List.drop (Int.toNat i1) (Tab.Rows t))) - 0 + 1) 0 0) = iCountRow_l1 t row i1 k x.1 x.2) (fun x => (List.length (List.drop (Int.toNat i1) (Tab.Rows t))) - x.2) (0, 0) (by kernel_rfl) ⟨?_, _, Nat.lt_succ_self _, rfl⟩ ?_)
     ·
      show 0 ≤ 0
      omega
     ·
      intro x hR
      obtain ⟨count, v35⟩ := x
      obtain ⟨hI1, k99, hk97, e98⟩ := hR
      replace hI1 : count ≤ v35 := hI1
      replace hk97 : (List.length (List.drop (Int.toNat i1) (Tab.Rows t))) - v35 < k99 := hk97
      obtain ⟨k99q, rfl⟩ : ∃ k, k99 = k + 1 := ⟨k99 - 1, by omega⟩
      refine AW.seq (AW.r1 hC [1, 7, 33, 34, 35, 36] [] ⟨[(1, .data (.slice (.named 1)) (row : List Val)), (7, .int .i64 ((count : Nat) : Int)), (33, .data (.slice (.slice (.named 1))) ((List.drop (Int.toNat i1) (Tab.Rows t)) : List (List Val))), (34, .int .i64 ((List.length (List.drop (Int.toNat i1) (Tab.Rows t)) : Nat) : Int)), (35, .int .i64 ((v35 : Nat) : Int)), (36, .bool (decide (((v35 : Nat) : Int) < ((List.length (List.drop (Int.toNat i1) (Tab.Rows t)) : Nat) : Int))))], []⟩ ?_)
      refine AW.seq (AW.cd (decide (((v35 : Nat) : Int) < ((List.length (List.drop (Int.toNat i1) (Tab.Rows t)) : Nat) : Int))) ?_ ?_)
      ·
       intro h100
       have h100q : ((v35 : Nat) : Int) < ((List.length (List.drop (Int.toNat i1) (Tab.Rows t)) : Nat) : Int) := (of_decide_eq_true h100)
       have e101 := e98.trans (Go.Am.bif_t h100)
       refine AW.kp [1, 7, 33, 34, 35] [] ⟨[(1, .data (.slice (.named 1)) (row : List Val)), (7, .int .i64 ((count : Nat) : Int)), (33, .data (.slice (.slice (.named 1))) ((List.drop (Int.toNat i1) (Tab.Rows t)) : List (List Val))), (34, .int .i64 ((List.length (List.drop (Int.toNat i1) (Tab.Rows t)) : Nat) : Int)), (35, .int .i64 ((v35 : Nat) : Int))], []⟩ ?_
       refine AW.skip (AW.seq (AW.block (AW.seq (AW.r0 hC [1, 7, 9, 33, 34, 35] [] ⟨[(1, .data (.slice (.named 1)) (row : List Val)), (7, .int .i64 ((count : Nat) : Int)), (9, .data (.slice (.named 1)) ((List.getD (List.drop (Int.toNat i1) (Tab.Rows t)) v35 []) : List Val)), (33, .data (.slice (.slice (.named 1))) ((List.drop (Int.toNat i1) (Tab.Rows t)) : List (List Val))), (34, .int .i64 ((List.length (List.drop (Int.toNat i1) (Tab.Rows t)) : Nat) : Int)), (35, .int .i64 ((v35 : Nat) : Int))], []⟩ [(0 ≤ ((v35 : Nat) : Int) ∧ ((v35 : Nat) : Int) < ((List.length (List.drop (Int.toNat i1) (Tab.Rows t)) : Nat) : Int))] ?_ ?_))))
       ·
        refine ⟨?_, trivial⟩
        ·
         omega
       refine AW.seq (AW.seq (AW.r0 hC [1, 7, 33, 34, 35, 42] [] ⟨[(1, .data (.slice (.named 1)) (row : List Val)), (7, .int .i64 ((count : Nat) : Int)), (33, .data (.slice (.slice (.named 1))) ((List.drop (Int.toNat i1) (Tab.Rows t)) : List (List Val))), (34, .int .i64 ((List.length (List.drop (Int.toNat i1) (Tab.Rows t)) : Nat) : Int)), (35, .int .i64 ((v35 : Nat) : Int)), (42, .bool ((icompareRows (List.getD (List.drop (Int.toNat i1) (Tab.Rows t)) v35 []) row) != 0))], []⟩ [(True)] ?_ ?_))
       ·
        refine ⟨?_, trivial⟩
        ·
         trivial
       refine AW.cd ((icompareRows (List.getD (List.drop (Int.toNat i1) (Tab.Rows t)) v35 []) row) != 0) ?_ ?_
       ·
        intro h102
        have h102q : (icompareRows (List.getD (List.drop (Int.toNat i1) (Tab.Rows t)) v35 []) row) ≠ 0 := (Go.Am.bne_pos h102)
        have e103 := e101.trans (Go.Am.bif_t h102)
        refine AW.kp [7] [] ⟨[(7, .int .i64 ((count : Nat) : Int))], []⟩ ?_
        refine AW.exit ?_
        refine AW.meet count (by kernel_rfl) ⟨?_, e103⟩
        show True
        trivial
       ·
        intro h104
        have h104q : (icompareRows (List.getD (List.drop (Int.toNat i1) (Tab.Rows t)) v35 []) row) = 0 := (Go.Am.bne_neg h104)
        have e105 := e101.trans (Go.Am.bif_f h104)
        refine AW.kp [1, 7, 33, 34, 35] [] ⟨[(1, .data (.slice (.named 1)) (row : List Val)), (7, .int .i64 ((count : Nat) : Int)), (33, .data (.slice (.slice (.named 1))) ((List.drop (Int.toNat i1) (Tab.Rows t)) : List (List Val))), (34, .int .i64 ((List.length (List.drop (Int.toNat i1) (Tab.Rows t)) : Nat) : Int)), (35, .int .i64 ((v35 : Nat) : Int))], []⟩ ?_
        refine AW.skip (AW.r0 hC [1, 7, 33, 34, 35] [] ⟨[(1, .data (.slice (.named 1)) (row : List Val)), (7, .int .i64 ((count + 1 : Nat) : Int)), (33, .data (.slice (.slice (.named 1))) ((List.drop (Int.toNat i1) (Tab.Rows t)) : List (List Val))), (34, .int .i64 ((List.length (List.drop (Int.toNat i1) (Tab.Rows t)) : Nat) : Int)), (35, .int .i64 ((v35 : Nat) : Int))], []⟩ [(-9223372036854775808 ≤ ((count + 1 : Nat) : Int) ∧ ((count + 1 : Nat) : Int) ≤ 9223372036854775807)] ?_ ?_)
        ·
         refine ⟨?_, trivial⟩
         ·
          simp only [lens] at *; omega
        refine AW.r0 hC [1, 7, 33, 34, 35] [] ⟨[(1, .data (.slice (.named 1)) (row : List Val)), (7, .int .i64 ((count + 1 : Nat) : Int)), (33, .data (.slice (.slice (.named 1))) ((List.drop (Int.toNat i1) (Tab.Rows t)) : List (List Val))), (34, .int .i64 ((List.length (List.drop (Int.toNat i1) (Tab.Rows t)) : Nat) : Int)), (35, .int .i64 ((v35 + 1 : Nat) : Int))], []⟩ [(-9223372036854775808 ≤ ((v35 + 1 : Nat) : Int) ∧ ((v35 + 1 : Nat) : Int) ≤ 9223372036854775807)] ?_ ?_
        ·
         refine ⟨?_, trivial⟩
         ·
          simp only [lens] at *; omega
        refine AW.back (x := (count, v35)) (count + 1, v35 + 1) (by kernel_rfl) ⟨?_, k99q, ?_, e105⟩ ?_
        ·
         show (count + 1) ≤ (v35 + 1)
         omega
        ·
         show (List.length (List.drop (Int.toNat i1) (Tab.Rows t))) - (v35 + 1) < k99q
         omega
        ·
         show (List.length (List.drop (Int.toNat i1) (Tab.Rows t))) - (v35 + 1) < (List.length (List.drop (Int.toNat i1) (Tab.Rows t))) - v35
         omega
      ·
       intro h106
       have h106q : ¬ (((v35 : Nat) : Int) < ((List.length (List.drop (Int.toNat i1) (Tab.Rows t)) : Nat) : Int)) := (of_decide_eq_false h106)
       have e107 := e98.trans (Go.Am.bif_f h106)
       refine AW.kp [7] [] ⟨[(7, .int .i64 ((count : Nat) : Int))], []⟩ ?_
       refine AW.exit ?_
       refine AW.meet count (by kernel_rfl) ⟨?_, e107⟩
       show True
       trivial
    ·
     intro count hR
     obtain ⟨hJ1, e108⟩ := hR
     replace hJ1 : True := hJ1
     have e109 := e62.trans (Go.Am.then_eq e108)
     refine AW.seq (AW.r1 hC [4] [] ⟨[(4, .int .i64 ((count : Nat) : Int))], []⟩ ?_)
     exact AW.ret (AW.retE (β := Int) (fun v => [⟨(.int .i64), v⟩]) (fun v => []) (v := ((count : Nat) : Int)) e109 (by kernel_rfl) rfl rfl)

end
end Go.Proofs.Ytjcjpeckfikfkaa
