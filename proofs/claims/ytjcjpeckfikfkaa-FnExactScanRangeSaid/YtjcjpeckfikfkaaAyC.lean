/-
  A part of the proof of this claim (AyC): what functions of the program compute, and plain facts of that. No conditions.
-/
import Derived.Test.YtjcjpeckfikfkaaAwE
import Derived.Test.YtjcjpeckfikfkaaAyB
import Derived.Test.YtjcjpeckfikfkaaAwL
set_option linter.all false
namespace Go.Proofs.Ytjcjpeckfikfkaa
open Go Go.Am
noncomputable section

def hasColumn (t : Tab) (col : Int) : Bool := (bif (bif (ValidTable t) then (decide (0 ≤ col)) else false) then (decide (col < (Tab.Width t))) else false)

def hasColumn_sp : FnSpec := mkSpec [.val (.named 2), .val (.int .i64)] [.val .bool] (fun (t : Tab) (col : Int) => True) (fun (t : Tab) (col : Int) => [⟨.bool, (hasColumn t col)⟩])

theorem hasColumn_ok : FnOK Try.prog 84 hasColumn_sp := by
 have hC : CtxOK Try.prog (mkCtx tyL [(19, ValidTable_sp)]) := CtxOK.cons ValidTable_ok (CtxOK.nil tyOK)
 refine FnOK.of_body Try.func84 (by kernel_rfl) rfl (C := (mkCtx tyL [(19, ValidTable_sp)])) hC.ty (by kernel_rfl) ?_
 intro (t : Tab) (col : Int) hwf hpre E
 have hpre : True := hpre
 have hw_t : Wf ⟨(.named 2), (t : Tab)⟩ := hwf _ (List.Mem.head _)
 have hr_t_Width : -9223372036854775808 ≤ Tab.Width t ∧ Tab.Width t ≤ 9223372036854775807 := (hw_t.field (tv := ⟨(.int .i64), Tab.Width t⟩) (List.Mem.head _)).int_inv
 have hl_t_Rows : ((List.length (Tab.Rows t) : Nat) : Int) ≤ 9223372036854775807 := (hw_t.field (tv := ⟨(.slice (.slice (.named 1))), Tab.Rows t⟩) (List.Mem.tail _ (List.Mem.head _))).len
 have hw_col : Wf ⟨(.int .i64), (col : Int)⟩ := hwf _ (List.Mem.tail _ (List.Mem.head _))
 have hr_col : -9223372036854775808 ≤ col ∧ col ≤ 9223372036854775807 := hw_col.int_inv
 have e0 : hasColumn t col = hasColumn t col := rfl
 refine AW.seq (AW.r1 hC [1, 2] [8] ⟨[(1, .int .i64 col), (2, .ref 8 1 0)], [(8, .box 1 [.int .i64 (Tab.Width t), .data (.slice (.slice (.named 1))) ((Tab.Rows t) : List (List Val))])]⟩ ?_)
 refine AW.seq (AW.r0 hC [4] [] ⟨[(4, .bool (bif (bif (ValidTable t) then (decide (0 ≤ col)) else false) then (decide (col < (Tab.Width t))) else false))], []⟩ [(True), (((ValidTable t) = true) → (((ValidTable t) = true))), (((ValidTable t) = true) → (((ValidTable t) = true))), (((bif (ValidTable t) then (decide (0 ≤ col)) else false) = true) → (((bif (ValidTable t) then (decide (0 ≤ col)) else false) = true))), (((bif (ValidTable t) then (decide (0 ≤ col)) else false) = true) → (((bif (ValidTable t) then (decide (0 ≤ col)) else false) = true))), (((bif (ValidTable t) then (decide (0 ≤ col)) else false) = true) → (((bif (ValidTable t) then (decide (0 ≤ col)) else false) = true))), (((bif (ValidTable t) then (decide (0 ≤ col)) else false) = true) → (((bif (ValidTable t) then (decide (0 ≤ col)) else false) = true)))] ?_ ?_)
 ·
  refine ⟨?_, ?_, ?_, ?_, ?_, ?_, ?_, trivial⟩
  ·
   trivial
  ·
   intro g1
   have g1p0 : (ValidTable t) = true := g1
   assumption
  ·
   intro g2
   have g2p0 : (ValidTable t) = true := g2
   assumption
  ·
   intro g3
   have g3p0 : ((ValidTable t) = true) ∧ (0 ≤ col) := (And.imp (fun h => h) (fun h => (of_decide_eq_true h)) (Go.Am.and_pos g3))
   assumption
  ·
   intro g4
   have g4p0 : ((ValidTable t) = true) ∧ (0 ≤ col) := (And.imp (fun h => h) (fun h => (of_decide_eq_true h)) (Go.Am.and_pos g4))
   assumption
  ·
   intro g5
   have g5p0 : ((ValidTable t) = true) ∧ (0 ≤ col) := (And.imp (fun h => h) (fun h => (of_decide_eq_true h)) (Go.Am.and_pos g5))
   assumption
  ·
   intro g6
   have g6p0 : ((ValidTable t) = true) ∧ (0 ≤ col) := (And.imp (fun h => h) (fun h => (of_decide_eq_true h)) (Go.Am.and_pos g6))
   assumption
 exact AW.ret (AW.retE (β := Bool) (fun v => [⟨.bool, v⟩]) (fun v => []) (v := (bif (bif (ValidTable t) then (decide (0 ≤ col)) else false) then (decide (col < (Tab.Width t))) else false)) e0 (by kernel_rfl) rfl rfl)

theorem hasColumn_iff {t : Tab} {col : Int} : hasColumn t col = true ↔ VT t ∧ 0 ≤ col ∧ col < t.Width := by
 unfold hasColumn
 rw [← ValidTable_iff]
 cases ValidTable t with
 | false => simp
 | true => by_cases h : 0 ≤ col <;> simp [h]

theorem col_ok {t : Tab} {col : Int} (h : hasColumn t col = true) : ∀ row ∈ t.Rows, 0 ≤ col ∧ col < (List.length row : Int) := by
 obtain ⟨hv, h1, h2⟩ := hasColumn_iff.1 h
 intro row hr
 obtain ⟨i, hi, rfl⟩ := getD_mem_row hr
 have h3 : (((t.Rows.getD i []).length : Nat) : Int) = t.Width := (hv.rows i hi).2
 omega

theorem sr_ok {t : Tab} {col : Int} (h : validTable t = true ∧ inRange col 0 (t.Width - 1) = true) : 0 ≤ col ∧ ∀ i < t.Rows.length, col < (((t.Rows.getD i []).length : Nat) : Int) := by
 have hv := validTable_iff.1 h.1
 have h1 := inRange_iff.1 h.2
 refine ⟨h1.1, fun i hi => ?_⟩
 have h3 : (((t.Rows.getD i []).length : Nat) : Int) = t.Width := (hv.rows i hi).2
 omega

end
end Go.Proofs.Ytjcjpeckfikfkaa


namespace Go.Proofs.Ytjcjpeckfikfkaa
open Go Go.Am
noncomputable section

theorem kept_mem {rows : List (List Val)} {r : Rng} {col : Int} {x : List Val} (h : x ∈ keptRows rows r col) : x ∈ rows := (List.mem_filter.1 h).1

def iScanRange_l0 : List (List Val) → (List (List Val)) → (List (List Val))
 | [], ar8022 => ar8022
 | v8 :: l, ar8022 => (iScanRange_l0 l (ar8022 ++ ([(icopied v8)] : List (List Val))))

def iScanRange (t : Tab) (col : Int) (r : Rng) : Tab × Bool := (bif (!(hasColumn t col)) then ((Tab.mk 0 ([] : List (List Val))), false) else (Go.Am.andThen (iScanRange_l0 (keptRows (Tab.Rows t) r col) ([] : List (List Val))) (fun z => (fun (ar8022 : List (List Val)) => ((Tab.mk (Tab.Width t) (srtRows ar8022)), true)) z)))

end
end Go.Proofs.Ytjcjpeckfikfkaa
