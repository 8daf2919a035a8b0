/-
  A part of the proof of this claim (AyH): what functions of the program compute, and plain facts of that. No conditions.
-/
import Derived.Test.YtjcjpeckfikfkaaAwF
set_option linter.all false
namespace Go.Proofs.Ytjcjpeckfikfkaa
open Go Go.Am
noncomputable section

def hasColumn (t : Tab) (col : Int) : Bool := (bif (bif (ValidTable t) then (decide (0 ≤ col)) else false) then (decide (col < (Tab.Width t))) else false)

def hasColumn_sp : FnSpec := mkSpec [.val (.named 2), .val (.int .i64)] [.val .bool] (fun (t : Tab) (col : Int) => True) (fun (t : Tab) (col : Int) => [⟨.bool, (hasColumn t col)⟩])

theorem hasColumn_ok : FnOK Try.prog 84 hasColumn_sp := by
 have hC : CtxOK Try.prog (mkCtx tyL [(19, ValidTable_sp)]) := CtxOK.cons ValidTable_ok (CtxOK.nil tyOK)
 refine FnOK.of_body Try.func84 (by kernel_rfl) rfl (C := (mkCtx tyL [(19, ValidTable_sp)])) hC.ty (by kernel_rfl) ?_
 intro (t : Tab) (col : Int) hwf hpre E
 have hpre : True := hpre
 have hw_t : Wf ⟨(.named 2), (t : Tab)⟩ := hwf _ (List.Mem.head _)
 have hr_t_Width : -9223372036854775808 ≤ Tab.Width t ∧ Tab.Width t ≤ 9223372036854775807 := (hw_t.field (tv := ⟨(.int .i64), Tab.Width t⟩) (List.Mem.head _)).int_inv
 have hl_t_Rows : ((List.length (Tab.Rows t) : Nat) : Int) ≤ 9223372036854775807 := (hw_t.field (tv := ⟨(.slice (.slice (.named 1))), Tab.Rows t⟩) (List.Mem.tail _ (List.Mem.head _))).len
 have hw_col : Wf ⟨(.int .i64), (col : Int)⟩ := hwf _ (List.Mem.tail _ (List.Mem.head _))
 have hr_col : -9223372036854775808 ≤ col ∧ col ≤ 9223372036854775807 := hw_col.int_inv
 have e0 : hasColumn t col = hasColumn t col := rfl
 refine AW.seq (AW.r1 hC [1, 2] [8] ⟨[(1, .int .i64 col), (2, .ref 8 1 0)], [(8, .box 1 [.int .i64 (Tab.Width t), .data (.slice (.slice (.named 1))) ((Tab.Rows t) : List (List Val))])]⟩ ?_)
 refine AW.seq (AW.r0 hC [4] [] ⟨[(4, .bool (bif (bif (ValidTable t) then (decide (0 ≤ col)) else false) then (decide (col < (Tab.Width t))) else false))], []⟩ [(True), (((ValidTable t) = true) → (((ValidTable t) = true))), (((ValidTable t) = true) → (((ValidTable t) = true))), (((bif (ValidTable t) then (decide (0 ≤ col)) else false) = true) → (((bif (ValidTable t) then (decide (0 ≤ col)) else false) = true))), (((bif (ValidTable t) then (decide (0 ≤ col)) else false) = true) → (((bif (ValidTable t) then (decide (0 ≤ col)) else false) = true))), (((bif (ValidTable t) then (decide (0 ≤ col)) else false) = true) → (((bif (ValidTable t) then (decide (0 ≤ col)) else false) = true))), (((bif (ValidTable t) then (decide (0 ≤ col)) else false) = true) → (((bif (ValidTable t) then (decide (0 ≤ col)) else false) = true)))] ?_ ?_)
 ·
  refine ⟨?_, ?_, ?_, ?_, ?_, ?_, ?_, trivial⟩
  ·
   trivial
  ·
   intro g1
   have g1p0 : (ValidTable t) = true := g1
   assumption
  ·
   intro g2
   have g2p0 : (ValidTable t) = true := g2
   assumption
  ·
   intro g3
   have g3p0 : ((ValidTable t) = true) ∧ (0 ≤ col) := (And.imp (fun h => h) (fun h => (of_decide_eq_true h)) (Go.Am.and_pos g3))
   assumption
  ·
   intro g4
   have g4p0 : ((ValidTable t) = true) ∧ (0 ≤ col) := (And.imp (fun h => h) (fun h => (of_decide_eq_true h)) (Go.Am.and_pos g4))
   assumption
  ·
   intro g5
   have g5p0 : ((ValidTable t) = true) ∧ (0 ≤ col) := (And.imp (fun h => h) (fun h => (of_decide_eq_true h)) (Go.Am.and_pos g5))
   assumption
  ·
   intro g6
   have g6p0 : ((ValidTable t) = true) ∧ (0 ≤ col) := (And.imp (fun h => h) (fun h => (of_decide_eq_true h)) (Go.Am.and_pos g6))
   assumption
 exact AW.ret (AW.retE (β := Bool) (fun v => [⟨.bool, v⟩]) (fun v => []) (v := (bif (bif (ValidTable t) then (decide (0 ≤ col)) else false) then (decide (col < (Tab.Width t))) else false)) e0 (by kernel_rfl) rfl rfl)

theorem hasColumn_iff {t : Tab} {col : Int} : hasColumn t col = true ↔ VT t ∧ 0 ≤ col ∧ col < t.Width := by
 unfold hasColumn
 rw [← ValidTable_iff]
 cases ValidTable t with
 | false => simp
 | true => by_cases h : 0 ≤ col <;> simp [h]

theorem col_ok {t : Tab} {col : Int} (h : hasColumn t col = true) : ∀ row ∈ t.Rows, 0 ≤ col ∧ col < (List.length row : Int) := by
 obtain ⟨hv, h1, h2⟩ := hasColumn_iff.1 h
 intro row hr
 obtain ⟨i, hi, rfl⟩ := getD_mem_row hr
 have h3 : (((t.Rows.getD i []).length : Nat) : Int) = t.Width := (hv.rows i hi).2
 omega

theorem sr_ok {t : Tab} {col : Int} (h : validTable t = true ∧ inRange col 0 (t.Width - 1) = true) : 0 ≤ col ∧ ∀ i < t.Rows.length, col < (((t.Rows.getD i []).length : Nat) : Int) := by
 have hv := validTable_iff.1 h.1
 have h1 := inRange_iff.1 h.2
 refine ⟨h1.1, fun i hi => ?_⟩
 have h3 : (((t.Rows.getD i []).length : Nat) : Int) = t.Width := (hv.rows i hi).2
 omega

end
end Go.Proofs.Ytjcjpeckfikfkaa


namespace Go.Proofs.Ytjcjpeckfikfkaa
open Go Go.Am
noncomputable section

def idxCmp (i : Int) (j : Int) (t : Tab) (col : Int) : Int := (compareInt (Val.N (List.getD (List.getD (Tab.Rows t) (Int.toNat i) []) (Int.toNat col) Val.zero)) (Val.N (List.getD (List.getD (Tab.Rows t) (Int.toNat j) []) (Int.toNat col) Val.zero)))

def idxCmp_sp : FnSpec := mkSpec [.val (.int .i64), .val (.int .i64), .rd (.named 2), .rd (.int .i64)] [.val (.int .i64)] (fun (i : Int) (j : Int) (t : Tab) (col : Int) => (0 ≤ i ∧ i < (List.length t.Rows : Int)) ∧ (0 ≤ j ∧ j < (List.length t.Rows : Int)) ∧ 0 ≤ col ∧ ∀ k, k < List.length t.Rows → col < (List.length (List.getD t.Rows k []) : Int)) (fun (i : Int) (j : Int) (t : Tab) (col : Int) => [⟨(.int .i64), (idxCmp i j t col)⟩])

theorem idxCmp_ok : FnOK Try.prog 86 idxCmp_sp := by
 have hC : CtxOK Try.prog (mkCtx tyL [(87, compareInt_sp)]) := CtxOK.cons compareInt_ok (CtxOK.nil tyOK)
 have hM : Try.prog.follows .mixedOrders = true := Try.checked.mixed
 refine FnOK.of_body Try.func86 (by kernel_rfl) rfl (C := (mkCtx tyL [(87, compareInt_sp)])) hC.ty (by kernel_rfl) ?_
 intro (i : Int) (j : Int) (t : Tab) (col : Int) hwf hpre E
 have hpre : (0 ≤ i ∧ i < (List.length t.Rows : Int)) ∧ (0 ≤ j ∧ j < (List.length t.Rows : Int)) ∧ 0 ≤ col ∧ ∀ k, k < List.length t.Rows → col < (List.length (List.getD t.Rows k []) : Int) := hpre
 have hw_i : Wf ⟨(.int .i64), (i : Int)⟩ := hwf _ (List.Mem.head _)
 have hr_i : -9223372036854775808 ≤ i ∧ i ≤ 9223372036854775807 := hw_i.int_inv
 have hw_j : Wf ⟨(.int .i64), (j : Int)⟩ := hwf _ (List.Mem.tail _ (List.Mem.head _))
 have hr_j : -9223372036854775808 ≤ j ∧ j ≤ 9223372036854775807 := hw_j.int_inv
 have hw_t : Wf ⟨(.named 2), (t : Tab)⟩ := hwf _ (List.Mem.tail _ (List.Mem.tail _ (List.Mem.head _)))
 have hr_t_Width : -9223372036854775808 ≤ Tab.Width t ∧ Tab.Width t ≤ 9223372036854775807 := (hw_t.field (tv := ⟨(.int .i64), Tab.Width t⟩) (List.Mem.head _)).int_inv
 have hl_t_Rows : ((List.length (Tab.Rows t) : Nat) : Int) ≤ 9223372036854775807 := (hw_t.field (tv := ⟨(.slice (.slice (.named 1))), Tab.Rows t⟩) (List.Mem.tail _ (List.Mem.head _))).len
 have hw_col : Wf ⟨(.int .i64), (col : Int)⟩ := hwf _ (List.Mem.tail _ (List.Mem.tail _ (List.Mem.tail _ (List.Mem.head _))))
 have hr_col : -9223372036854775808 ≤ col ∧ col ≤ 9223372036854775807 := hw_col.int_inv
 have e0 : idxCmp i j t col = idxCmp i j t col := rfl
 refine AW.seq (AW.r1 hC [0, 1, 2, 3] [] ⟨[(0, .int .i64 i), (1, .int .i64 j), (2, .dref (.named 2) (t : Tab)), (3, .dref (.int .i64) (col : Int))], []⟩ ?_)
 refine AW.seq (AW.d0 hC hM [6] [] ⟨[(6, .int .i64 (compareInt (Val.N (List.getD (List.getD (Tab.Rows t) (Int.toNat i) []) (Int.toNat col) Val.zero)) (Val.N (List.getD (List.getD (Tab.Rows t) (Int.toNat j) []) (Int.toNat col) Val.zero))))], []⟩ [(0 ≤ i ∧ i < ((List.length (Tab.Rows t) : Nat) : Int)), (0 ≤ col ∧ col < ((List.length (List.getD (Tab.Rows t) (Int.toNat i) []) : Nat) : Int)), (0 ≤ j ∧ j < ((List.length (Tab.Rows t) : Nat) : Int)), (0 ≤ col ∧ col < ((List.length (List.getD (Tab.Rows t) (Int.toNat j) []) : Nat) : Int)), (True)] ?_ ?_)
 ·
  refine ⟨?_, ?_, ?_, ?_, ?_, trivial⟩
  ·
   omega
  ·
   have := hpre.2.2.2 i.toNat (by omega); omega
  ·
   omega
  ·
   have := hpre.2.2.2 j.toNat (by omega); omega
  ·
   trivial
 exact AW.ret (AW.retE (β := Int) (fun v => [⟨(.int .i64), v⟩]) (fun v => []) (v := (compareInt (Val.N (List.getD (List.getD (Tab.Rows t) (Int.toNat i) []) (Int.toNat col) Val.zero)) (Val.N (List.getD (List.getD (Tab.Rows t) (Int.toNat j) []) (Int.toNat col) Val.zero)))) e0 (by kernel_rfl) rfl rfl)

end
end Go.Proofs.Ytjcjpeckfikfkaa
