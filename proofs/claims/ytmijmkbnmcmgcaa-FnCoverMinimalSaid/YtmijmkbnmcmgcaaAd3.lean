/-
  A part of the proof of this claim (Ad3): what functions of the program compute, and plain facts of that. No conditions.
-/
import Derived.Test.YtmijmkbnmcmgcaaAdL
set_option linter.all false
namespace Go.Proofs.Ytmijmkbnmcmgcaa
open Go Go.Am
noncomputable section

theorem validDep_iff {fds : List Dep} {w : Int} : validDependencies fds w = true ↔ (1 ≤ w ∧ w ≤ 6) ∧ fds.length ≤ 8 ∧ ∀ f ∈ fds, depValid f w = true := by
 rw [valid_eq]
 exact ValidDependencies_iff

theorem dep64 {fds : List Dep} {w : Int} {f : Dep} (h : ValidDependencies fds w = true) (hf : f ∈ fds) :
  (0 ≤ f.From ∧ f.From < 64) ∧ ∀ f ∈ fds, (0 ≤ f.From ∧ f.From < 64) ∧ (0 ≤ f.To ∧ f.To < 64) := by
 obtain ⟨_, _, h2⟩ := ValidDependencies_iff.1 h
 exact deps64 h (ivalidSet_iff.2 (depValid_iff.1 (h2 f hf)).1)

theorem sdep64 {fds : List Dep} {w : Int} {f : Dep} (h : validDependencies fds w = true) (hf : f ∈ fds) :
  (0 ≤ f.From ∧ f.From < 64) ∧ ∀ f ∈ fds, (0 ≤ f.From ∧ f.From < 64) ∧ (0 ≤ f.To ∧ f.To < 64) := dep64 (valid_eq fds w ▸ h) hf

theorem iIsKey_valid {fds : List Dep} {w s : Int} (h : ValidDependencies fds w = true) (hs : ivalidSet s w = true) : iIsKey fds w s = (closureOf fds s == (1 : Int) * 2 ^ w.toNat - 1) := by
 unfold iIsKey
 rw [h, hs, closure_eq (inR_of_valid h)]
 simp

theorem iIsKey_dep {fds : List Dep} {w : Int} {f : Dep} (h : ValidDependencies fds w = true) (hf : f ∈ fds) : iIsKey fds w f.From = (closureOf fds f.From == (1 : Int) * 2 ^ w.toNat - 1) := by
 obtain ⟨_, _, h2⟩ := ValidDependencies_iff.1 h
 exact iIsKey_valid h (ivalidSet_iff.2 (depValid_iff.1 (h2 f hf)).1)

def IsNormalForm_l0 (fds : List Dep) (width : Int) : Nat → Nat → Unit ⊕ Bool
 | 0, i => .inl ()
 | k + 1, i => (bif (decide (((i : Nat) : Int) < ((List.length fds : Nat) : Int))) then (bif (bif ((bits .and .i64 (Dep.To (List.getD fds i Dep.zero)) (Dep.From (List.getD fds i Dep.zero))) != (Dep.To (List.getD fds i Dep.zero))) then ((closureOf fds (Dep.From (List.getD fds i Dep.zero))) != (((1 : Int) * 2 ^ (Int.toNat width)) - 1)) else false) then (.inr false) else (IsNormalForm_l0 fds width k (i + 1))) else (.inl ()))

def IsNormalForm (fds : List Dep) (width : Int) : Bool := (bif (!(validDependencies fds width)) then false else (Sum.elim (fun _ => true) (fun r => r) (IsNormalForm_l0 fds width ((List.length fds) - 0 + 1) 0)))

def IsNormalForm_sp : FnSpec := mkSpec [.val (.slice (.named 0)), .val (.int .i64)] [.val .bool] (fun (fds : List Dep) (width : Int) => True) (fun (fds : List Dep) (width : Int) => [⟨.bool, (IsNormalForm fds width)⟩])

theorem IsNormalForm_ok : FnOK Try.prog 19 IsNormalForm_sp := by
 have hC : CtxOK Try.prog (mkCtx tyL [(36, validDependencies_sp), (38, closureOf_sp)]) := CtxOK.cons validDependencies_ok (CtxOK.cons closureOf_ok (CtxOK.nil tyOK))
 have hM : Try.prog.follows .mixedOrders = true := Try.checked.mixed
 refine FnOK.of_body Try.func19 (by kernel_rfl) rfl (C := (mkCtx tyL [(36, validDependencies_sp), (38, closureOf_sp)])) hC.ty (by kernel_rfl) ?_
 intro (fds : List Dep) (width : Int) hwf hpre E
 have hpre : True := hpre
 have hw_fds : Wf ⟨(.slice (.named 0)), (fds : List Dep)⟩ := hwf _ (List.Mem.head _)
 have hl_fds : ((List.length fds : Nat) : Int) ≤ 9223372036854775807 := hw_fds.len
 have hw_width : Wf ⟨(.int .i64), (width : Int)⟩ := hwf _ (List.Mem.tail _ (List.Mem.head _))
 have hr_width : -9223372036854775808 ≤ width ∧ width ≤ 9223372036854775807 := hw_width.int_inv
 have e0 : IsNormalForm fds width = IsNormalForm fds width := rfl
 refine AW.seq (AW.r1 hC [0, 1] [] ⟨[(0, .data (.slice (.named 0)) (fds : List Dep)), (1, .int .i64 width)], []⟩ ?_)
 refine AW.seq (AW.seq (AW.r0 hC [0, 1, 9] [] ⟨[(0, .data (.slice (.named 0)) (fds : List Dep)), (1, .int .i64 width), (9, .bool (!(validDependencies fds width)))], []⟩ [(True)] ?_ ?_))
 ·
  refine ⟨?_, trivial⟩
  ·
   trivial
 refine AW.cd (!(validDependencies fds width)) ?_ ?_
 ·
  intro h1
  have h1q : (validDependencies fds width) = false := (Go.Am.not_pos h1)
  have e2 := e0.trans (Go.Am.bif_t h1)
  refine AW.seq (AW.r1 hC [4] [] ⟨[(4, .bool false)], []⟩ ?_)
  exact AW.ret (AW.retE (β := Bool) (fun v => [⟨.bool, v⟩]) (fun v => []) (v := false) e2 (by kernel_rfl) rfl rfl)
 ·
  intro h3
  have h3q : (validDependencies fds width) = true := (Go.Am.not_neg h3)
  have e4 := e0.trans (Go.Am.bif_f h3)
  refine AW.kp [0, 1] [] ⟨[(0, .data (.slice (.named 0)) (fds : List Dep)), (1, .int .i64 width)], []⟩ ?_
  refine AW.skip (AW.seq (AW.seq (AW.r1 hC [0, 1, 5] [] ⟨[(0, .data (.slice (.named 0)) (fds : List Dep)), (1, .int .i64 width), (5, .int .i64 0)], []⟩ ?_)))
  refine AW.cutQ (α := Unit) (fun x => ⟨[], []⟩) (fun x => (True) ∧ (IsNormalForm_l0 fds width ((List.length fds) - 0 + 1) 0) = (.inl ())) ?_ ?_
  ·
   skip
   refine AW.block (AW.loop (α := Nat) (fun x => ⟨[(0, .data (.slice (.named 0)) (fds : List Dep)), (1, .int .i64 width), (5, .int .i64 ((x : Nat) : Int))], []⟩) (fun x => (True) ∧ ∃ k, (List.length fds) - x < k ∧ (IsNormalForm_l0 fds width ((List.length fds) - 0 + 1) 0) = IsNormalForm_l0 fds width k x) (fun x => (List.length fds) - x) 0 (by kernel_rfl) ⟨?_, _, Nat.lt_succ_self _, rfl⟩ ?_)
   ·
    show True
    exact trivial
   ·
    intro i hR
    obtain ⟨hI0, k34, hk32, e33⟩ := hR
    replace hI0 : True := hI0
    replace hk32 : (List.length fds) - i < k34 := hk32
    obtain ⟨k34q, rfl⟩ : ∃ k, k34 = k + 1 := ⟨k34 - 1, by omega⟩
    refine AW.seq (AW.seq (AW.r1 hC [0, 1, 5, 13] [] ⟨[(0, .data (.slice (.named 0)) (fds : List Dep)), (1, .int .i64 width), (5, .int .i64 ((i : Nat) : Int)), (13, .bool (decide (((i : Nat) : Int) < ((List.length fds : Nat) : Int))))], []⟩ ?_))
    refine AW.cd (decide (((i : Nat) : Int) < ((List.length fds : Nat) : Int))) ?_ ?_
    ·
     intro h35
     have h35q : ((i : Nat) : Int) < ((List.length fds : Nat) : Int) := (of_decide_eq_true h35)
     have e36 := e33.trans (Go.Am.bif_t h35)
     refine AW.kp [0, 1, 5] [] ⟨[(0, .data (.slice (.named 0)) (fds : List Dep)), (1, .int .i64 width), (5, .int .i64 ((i : Nat) : Int))], []⟩ ?_
     refine AW.skip (AW.seq (AW.block (AW.seq (AW.d0 hC hM [0, 1, 5, 45] [] ⟨[(0, .data (.slice (.named 0)) (fds : List Dep)), (1, .int .i64 width), (5, .int .i64 ((i : Nat) : Int)), (45, .bool (bif ((bits .and .i64 (Dep.To (List.getD fds i Dep.zero)) (Dep.From (List.getD fds i Dep.zero))) != (Dep.To (List.getD fds i Dep.zero))) then ((closureOf fds (Dep.From (List.getD fds i Dep.zero))) != (((1 : Int) * 2 ^ (Int.toNat width)) - 1)) else false))], []⟩ [(0 ≤ ((i : Nat) : Int) ∧ ((i : Nat) : Int) < ((List.length fds : Nat) : Int)), (0 ≤ ((i : Nat) : Int) ∧ ((i : Nat) : Int) < ((List.length fds : Nat) : Int)), (0 ≤ ((i : Nat) : Int) ∧ ((i : Nat) : Int) < ((List.length fds : Nat) : Int)), ((((bits .and .i64 (Dep.To (List.getD fds i Dep.zero)) (Dep.From (List.getD fds i Dep.zero))) != (Dep.To (List.getD fds i Dep.zero))) = true) → ((((bits .and .i64 (Dep.To (List.getD fds i Dep.zero)) (Dep.From (List.getD fds i Dep.zero))) != (Dep.To (List.getD fds i Dep.zero))) = true))), ((((bits .and .i64 (Dep.To (List.getD fds i Dep.zero)) (Dep.From (List.getD fds i Dep.zero))) != (Dep.To (List.getD fds i Dep.zero))) = true) → ((((bits .and .i64 (Dep.To (List.getD fds i Dep.zero)) (Dep.From (List.getD fds i Dep.zero))) != (Dep.To (List.getD fds i Dep.zero))) = true))), ((((bits .and .i64 (Dep.To (List.getD fds i Dep.zero)) (Dep.From (List.getD fds i Dep.zero))) != (Dep.To (List.getD fds i Dep.zero))) = true) → (0 ≤ ((i : Nat) : Int) ∧ ((i : Nat) : Int) < ((List.length fds : Nat) : Int))), ((((bits .and .i64 (Dep.To (List.getD fds i Dep.zero)) (Dep.From (List.getD fds i Dep.zero))) != (Dep.To (List.getD fds i Dep.zero))) = true) → ((((bits .and .i64 (Dep.To (List.getD fds i Dep.zero)) (Dep.From (List.getD fds i Dep.zero))) != (Dep.To (List.getD fds i Dep.zero))) = true))), ((((bits .and .i64 (Dep.To (List.getD fds i Dep.zero)) (Dep.From (List.getD fds i Dep.zero))) != (Dep.To (List.getD fds i Dep.zero))) = true) → ((((bits .and .i64 (Dep.To (List.getD fds i Dep.zero)) (Dep.From (List.getD fds i Dep.zero))) != (Dep.To (List.getD fds i Dep.zero))) = true))), ((((bits .and .i64 (Dep.To (List.getD fds i Dep.zero)) (Dep.From (List.getD fds i Dep.zero))) != (Dep.To (List.getD fds i Dep.zero))) = true) → ((((bits .and .i64 (Dep.To (List.getD fds i Dep.zero)) (Dep.From (List.getD fds i Dep.zero))) != (Dep.To (List.getD fds i Dep.zero))) = true))), ((((bits .and .i64 (Dep.To (List.getD fds i Dep.zero)) (Dep.From (List.getD fds i Dep.zero))) != (Dep.To (List.getD fds i Dep.zero))) = true) → ((((bits .and .i64 (Dep.To (List.getD fds i Dep.zero)) (Dep.From (List.getD fds i Dep.zero))) != (Dep.To (List.getD fds i Dep.zero))) = true))), ((((bits .and .i64 (Dep.To (List.getD fds i Dep.zero)) (Dep.From (List.getD fds i Dep.zero))) != (Dep.To (List.getD fds i Dep.zero))) = true) → ((0 ≤ (Dep.From (List.getD fds i Dep.zero)) ∧ (Dep.From (List.getD fds i Dep.zero)) < 64) ∧ ∀ f ∈ fds, (0 ≤ f.From ∧ f.From < 64) ∧ (0 ≤ f.To ∧ f.To < 64))), ((((bits .and .i64 (Dep.To (List.getD fds i Dep.zero)) (Dep.From (List.getD fds i Dep.zero))) != (Dep.To (List.getD fds i Dep.zero))) = true) → ((((bits .and .i64 (Dep.To (List.getD fds i Dep.zero)) (Dep.From (List.getD fds i Dep.zero))) != (Dep.To (List.getD fds i Dep.zero))) = true))), ((((bits .and .i64 (Dep.To (List.getD fds i Dep.zero)) (Dep.From (List.getD fds i Dep.zero))) != (Dep.To (List.getD fds i Dep.zero))) = true) → (0 ≤ width ∧ width ≤ 64)), ((((bits .and .i64 (Dep.To (List.getD fds i Dep.zero)) (Dep.From (List.getD fds i Dep.zero))) != (Dep.To (List.getD fds i Dep.zero))) = true) → (-9223372036854775808 ≤ ((1 : Int) * 2 ^ (Int.toNat width)) ∧ ((1 : Int) * 2 ^ (Int.toNat width)) ≤ 9223372036854775807)), ((((bits .and .i64 (Dep.To (List.getD fds i Dep.zero)) (Dep.From (List.getD fds i Dep.zero))) != (Dep.To (List.getD fds i Dep.zero))) = true) → ((((bits .and .i64 (Dep.To (List.getD fds i Dep.zero)) (Dep.From (List.getD fds i Dep.zero))) != (Dep.To (List.getD fds i Dep.zero))) = true))), ((((bits .and .i64 (Dep.To (List.getD fds i Dep.zero)) (Dep.From (List.getD fds i Dep.zero))) != (Dep.To (List.getD fds i Dep.zero))) = true) → (-9223372036854775808 ≤ (((1 : Int) * 2 ^ (Int.toNat width)) - 1) ∧ (((1 : Int) * 2 ^ (Int.toNat width)) - 1) ≤ 9223372036854775807)), ((((bits .and .i64 (Dep.To (List.getD fds i Dep.zero)) (Dep.From (List.getD fds i Dep.zero))) != (Dep.To (List.getD fds i Dep.zero))) = true) → ((((bits .and .i64 (Dep.To (List.getD fds i Dep.zero)) (Dep.From (List.getD fds i Dep.zero))) != (Dep.To (List.getD fds i Dep.zero))) = true))), ((((bits .and .i64 (Dep.To (List.getD fds i Dep.zero)) (Dep.From (List.getD fds i Dep.zero))) != (Dep.To (List.getD fds i Dep.zero))) = true) → ((((bits .and .i64 (Dep.To (List.getD fds i Dep.zero)) (Dep.From (List.getD fds i Dep.zero))) != (Dep.To (List.getD fds i Dep.zero))) = true))), ((((bits .and .i64 (Dep.To (List.getD fds i Dep.zero)) (Dep.From (List.getD fds i Dep.zero))) != (Dep.To (List.getD fds i Dep.zero))) = true) → ((((bits .and .i64 (Dep.To (List.getD fds i Dep.zero)) (Dep.From (List.getD fds i Dep.zero))) != (Dep.To (List.getD fds i Dep.zero))) = true)))] ?_ ?_))))
     ·
      refine ⟨?_, ?_, ?_, ?_, ?_, ?_, ?_, ?_, ?_, ?_, ?_, ?_, ?_, ?_, ?_, ?_, ?_, ?_, ?_, trivial⟩
      ·
       omega
      ·
       omega
      ·
       omega
      ·
       intro g37
       have g37p0 : (bits .and .i64 (Dep.To (List.getD fds i Dep.zero)) (Dep.From (List.getD fds i Dep.zero))) ≠ (Dep.To (List.getD fds i Dep.zero)) := (Go.Am.bne_pos g37)
       assumption
      ·
       intro g38
       have g38p0 : (bits .and .i64 (Dep.To (List.getD fds i Dep.zero)) (Dep.From (List.getD fds i Dep.zero))) ≠ (Dep.To (List.getD fds i Dep.zero)) := (Go.Am.bne_pos g38)
       assumption
      ·
       intro g39
       have g39p0 : (bits .and .i64 (Dep.To (List.getD fds i Dep.zero)) (Dep.From (List.getD fds i Dep.zero))) ≠ (Dep.To (List.getD fds i Dep.zero)) := (Go.Am.bne_pos g39)
       omega
      ·
       intro g40
       have g40p0 : (bits .and .i64 (Dep.To (List.getD fds i Dep.zero)) (Dep.From (List.getD fds i Dep.zero))) ≠ (Dep.To (List.getD fds i Dep.zero)) := (Go.Am.bne_pos g40)
       assumption
      ·
       intro g41
       have g41p0 : (bits .and .i64 (Dep.To (List.getD fds i Dep.zero)) (Dep.From (List.getD fds i Dep.zero))) ≠ (Dep.To (List.getD fds i Dep.zero)) := (Go.Am.bne_pos g41)
       assumption
      ·
       intro g42
       have g42p0 : (bits .and .i64 (Dep.To (List.getD fds i Dep.zero)) (Dep.From (List.getD fds i Dep.zero))) ≠ (Dep.To (List.getD fds i Dep.zero)) := (Go.Am.bne_pos g42)
       assumption
      ·
       intro g43
       have g43p0 : (bits .and .i64 (Dep.To (List.getD fds i Dep.zero)) (Dep.From (List.getD fds i Dep.zero))) ≠ (Dep.To (List.getD fds i Dep.zero)) := (Go.Am.bne_pos g43)
       assumption
      ·
       intro g44
       have g44p0 : (bits .and .i64 (Dep.To (List.getD fds i Dep.zero)) (Dep.From (List.getD fds i Dep.zero))) ≠ (Dep.To (List.getD fds i Dep.zero)) := (Go.Am.bne_pos g44)
       exact sdep64 h3q (getD_mem fds i Dep.zero (by omega))
      ·
       intro g45
       have g45p0 : (bits .and .i64 (Dep.To (List.getD fds i Dep.zero)) (Dep.From (List.getD fds i Dep.zero))) ≠ (Dep.To (List.getD fds i Dep.zero)) := (Go.Am.bne_pos g45)
       assumption
      ·
       intro g46
       have g46p0 : (bits .and .i64 (Dep.To (List.getD fds i Dep.zero)) (Dep.From (List.getD fds i Dep.zero))) ≠ (Dep.To (List.getD fds i Dep.zero)) := (Go.Am.bne_pos g46)
       have hv := (validDep_iff.1 h3q).1
       omega
      ·
       intro g47
       have g47p0 : (bits .and .i64 (Dep.To (List.getD fds i Dep.zero)) (Dep.From (List.getD fds i Dep.zero))) ≠ (Dep.To (List.getD fds i Dep.zero)) := (Go.Am.bne_pos g47)
       have hv := (validDep_iff.1 h3q).1
       have := pow64 (w := width) hv.2 (by omega)
       omega
      ·
       intro g48
       have g48p0 : (bits .and .i64 (Dep.To (List.getD fds i Dep.zero)) (Dep.From (List.getD fds i Dep.zero))) ≠ (Dep.To (List.getD fds i Dep.zero)) := (Go.Am.bne_pos g48)
       assumption
      ·
       intro g49
       have g49p0 : (bits .and .i64 (Dep.To (List.getD fds i Dep.zero)) (Dep.From (List.getD fds i Dep.zero))) ≠ (Dep.To (List.getD fds i Dep.zero)) := (Go.Am.bne_pos g49)
       have hv := (validDep_iff.1 h3q).1
       have := pow64 (w := width) hv.2 (by omega)
       omega
      ·
       intro g50
       have g50p0 : (bits .and .i64 (Dep.To (List.getD fds i Dep.zero)) (Dep.From (List.getD fds i Dep.zero))) ≠ (Dep.To (List.getD fds i Dep.zero)) := (Go.Am.bne_pos g50)
       assumption
      ·
       intro g51
       have g51p0 : (bits .and .i64 (Dep.To (List.getD fds i Dep.zero)) (Dep.From (List.getD fds i Dep.zero))) ≠ (Dep.To (List.getD fds i Dep.zero)) := (Go.Am.bne_pos g51)
       assumption
      ·
       intro g52
       have g52p0 : (bits .and .i64 (Dep.To (List.getD fds i Dep.zero)) (Dep.From (List.getD fds i Dep.zero))) ≠ (Dep.To (List.getD fds i Dep.zero)) := (Go.Am.bne_pos g52)
       assumption
     refine AW.cd (bif ((bits .and .i64 (Dep.To (List.getD fds i Dep.zero)) (Dep.From (List.getD fds i Dep.zero))) != (Dep.To (List.getD fds i Dep.zero))) then ((closureOf fds (Dep.From (List.getD fds i Dep.zero))) != (((1 : Int) * 2 ^ (Int.toNat width)) - 1)) else false) ?_ ?_
     ·
      intro h53
      have h53q : ((bits .and .i64 (Dep.To (List.getD fds i Dep.zero)) (Dep.From (List.getD fds i Dep.zero))) ≠ (Dep.To (List.getD fds i Dep.zero))) ∧ ((closureOf fds (Dep.From (List.getD fds i Dep.zero))) ≠ (((1 : Int) * 2 ^ (Int.toNat width)) - 1)) := (And.imp (fun h => (Go.Am.bne_pos h)) (fun h => (Go.Am.bne_pos h)) (Go.Am.and_pos h53))
      have e54 := e36.trans (Go.Am.bif_t h53)
      refine AW.seq (AW.r1 hC [4] [] ⟨[(4, .bool false)], []⟩ ?_)
      refine AW.ret ?_
      have e55 := e4.trans (Go.Am.elim_r e54)
      exact AW.retE (β := Bool) (fun v => [⟨.bool, v⟩]) (fun v => []) (v := false) e55 (by kernel_rfl) rfl rfl
     ·
      intro h56
      have h56q : ((bits .and .i64 (Dep.To (List.getD fds i Dep.zero)) (Dep.From (List.getD fds i Dep.zero))) = (Dep.To (List.getD fds i Dep.zero))) ∨ ((closureOf fds (Dep.From (List.getD fds i Dep.zero))) = (((1 : Int) * 2 ^ (Int.toNat width)) - 1)) := (Or.imp (fun h => (Go.Am.bne_neg h)) (fun h => (Go.Am.bne_neg h)) (Go.Am.and_neg h56))
      have e57 := e36.trans (Go.Am.bif_f h56)
      refine AW.kp [0, 1, 5] [] ⟨[(0, .data (.slice (.named 0)) (fds : List Dep)), (1, .int .i64 width), (5, .int .i64 ((i : Nat) : Int))], []⟩ ?_
      refine AW.skip (AW.r0 hC [0, 1, 5] [] ⟨[(0, .data (.slice (.named 0)) (fds : List Dep)), (1, .int .i64 width), (5, .int .i64 ((i + 1 : Nat) : Int))], []⟩ [(-9223372036854775808 ≤ ((i + 1 : Nat) : Int) ∧ ((i + 1 : Nat) : Int) ≤ 9223372036854775807)] ?_ ?_)
      ·
       refine ⟨?_, trivial⟩
       ·
        omega
      refine AW.back (x := i) (i + 1) (by kernel_rfl) ⟨?_, k34q, ?_, e57⟩ ?_
      ·
       show True
       assumption
      ·
       show (List.length fds) - (i + 1) < k34q
       omega
      ·
       show (List.length fds) - (i + 1) < (List.length fds) - i
       omega
    ·
     intro h58
     have h58q : ¬ (((i : Nat) : Int) < ((List.length fds : Nat) : Int)) := (of_decide_eq_false h58)
     have e59 := e33.trans (Go.Am.bif_f h58)
     refine AW.kp [] [] ⟨[], []⟩ ?_
     refine AW.exit ?_
     refine AW.meet () (by kernel_rfl) ⟨?_, e59⟩
     show True
     assumption
  ·
   intro x hR
   obtain ⟨hJ0, e60⟩ := hR
   replace hJ0 : True := hJ0
   have e61 := e4.trans (Go.Am.elim_l e60)
   refine AW.seq (AW.r1 hC [4] [] ⟨[(4, .bool true)], []⟩ ?_)
   exact AW.ret (AW.retE (β := Bool) (fun v => [⟨.bool, v⟩]) (fun v => []) (v := true) e61 (by kernel_rfl) rfl rfl)

def iIsNormalForm_l0 (fds : List Dep) (width : Int) : Nat → Nat → Unit ⊕ Bool
 | 0, v13 => .inl ()
 | k + 1, v13 => (bif (decide (((v13 : Nat) : Int) < ((List.length fds : Nat) : Int))) then (bif (bif (!(contains (Dep.From (List.getD fds v13 Dep.zero)) (Dep.To (List.getD fds v13 Dep.zero)))) then (!(iIsKey fds width (Dep.From (List.getD fds v13 Dep.zero)))) else false) then (.inr false) else (iIsNormalForm_l0 fds width k (v13 + 1))) else (.inl ()))

def iIsNormalForm (fds : List Dep) (width : Int) : Bool := (bif (!(ValidDependencies fds width)) then false else (Sum.elim (fun _ => true) (fun r => r) (iIsNormalForm_l0 fds width ((List.length fds) - 0 + 1) 0)))

def iIsNormalForm_sp : FnSpec := mkSpec [.val (.slice (.named 0)), .val (.int .i64)] [.val .bool] (fun (fds : List Dep) (width : Int) => True) (fun (fds : List Dep) (width : Int) => [⟨.bool, (iIsNormalForm fds width)⟩])

theorem iIsNormalForm_ok : FnOK Try.prog 20 iIsNormalForm_sp := by
 have hC : CtxOK Try.prog (mkCtx tyL [(15, iIsKey_sp), (18, ValidDependencies_sp), (46, contains_sp)]) := CtxOK.cons iIsKey_ok (CtxOK.cons ValidDependencies_ok (CtxOK.cons contains_ok (CtxOK.nil tyOK)))
 refine FnOK.of_body Try.func20 (by kernel_rfl) rfl (C := (mkCtx tyL [(15, iIsKey_sp), (18, ValidDependencies_sp), (46, contains_sp)])) hC.ty (by kernel_rfl) ?_
 intro (fds : List Dep) (width : Int) hwf hpre E
 have hpre : True := hpre
 have hw_fds : Wf ⟨(.slice (.named 0)), (fds : List Dep)⟩ := hwf _ (List.Mem.head _)
 have hl_fds : ((List.length fds : Nat) : Int) ≤ 9223372036854775807 := hw_fds.len
 have hw_width : Wf ⟨(.int .i64), (width : Int)⟩ := hwf _ (List.Mem.tail _ (List.Mem.head _))
 have hr_width : -9223372036854775808 ≤ width ∧ width ≤ 9223372036854775807 := hw_width.int_inv
 have e0 : iIsNormalForm fds width = iIsNormalForm fds width := rfl
 refine AW.seq (AW.r1 hC [0, 1] [] ⟨[(0, .data (.slice (.named 0)) (fds : List Dep)), (1, .int .i64 width)], []⟩ ?_)
 refine AW.seq (AW.seq (AW.r0 hC [0, 1, 10] [] ⟨[(0, .data (.slice (.named 0)) (fds : List Dep)), (1, .int .i64 width), (10, .bool (!(ValidDependencies fds width)))], []⟩ [(True)] ?_ ?_))
 ·
  refine ⟨?_, trivial⟩
  ·
   trivial
 refine AW.cd (!(ValidDependencies fds width)) ?_ ?_
 ·
  intro h1
  have h1q : (ValidDependencies fds width) = false := (Go.Am.not_pos h1)
  have e2 := e0.trans (Go.Am.bif_t h1)
  refine AW.seq (AW.r1 hC [4] [] ⟨[(4, .bool false)], []⟩ ?_)
  exact AW.ret (AW.retE (β := Bool) (fun v => [⟨.bool, v⟩]) (fun v => []) (v := false) e2 (by kernel_rfl) rfl rfl)
 ·
  intro h3
  have h3q : (ValidDependencies fds width) = true := (Go.Am.not_neg h3)
  have e4 := e0.trans (Go.Am.bif_f h3)
  refine AW.kp [0, 1] [] ⟨[(0, .data (.slice (.named 0)) (fds : List Dep)), (1, .int .i64 width)], []⟩ ?_
  refine AW.skip (AW.seq (AW.seq (AW.r1 hC [0, 1, 11, 12, 13] [] ⟨[(0, .data (.slice (.named 0)) (fds : List Dep)), (1, .int .i64 width), (11, .data (.slice (.named 0)) (fds : List Dep)), (12, .int .i64 ((List.length fds : Nat) : Int)), (13, .int .i64 0)], []⟩ ?_)))
  refine AW.cutQ (α := Unit) (fun x => ⟨[], []⟩) (fun x => (True) ∧ (iIsNormalForm_l0 fds width ((List.length fds) - 0 + 1) 0) = (.inl ())) ?_ ?_
  ·
   skip
   refine AW.block (AW.loop (α := Nat) (fun x => ⟨[(0, .data (.slice (.named 0)) (fds : List Dep)), (1, .int .i64 width), (11, .data (.slice (.named 0)) (fds : List Dep)), (12, .int .i64 ((List.length fds : Nat) : Int)), (13, .int .i64 ((x : Nat) : Int))], []⟩) (fun x => (True) ∧ ∃ k, (List.length fds) - x < k ∧ (iIsNormalForm_l0 fds width ((List.length fds) - 0 + 1) 0) = iIsNormalForm_l0 fds width k x) (fun x => (List.length fds) - x) 0 (by kernel_rfl) ⟨?_, _, Nat.lt_succ_self _, rfl⟩ ?_)
   ·
    show True
    exact trivial
   ·
    intro v13 hR
    obtain ⟨hI0, k34, hk32, e33⟩ := hR
    replace hI0 : True := hI0
    replace hk32 : (List.length fds) - v13 < k34 := hk32
    obtain ⟨k34q, rfl⟩ : ∃ k, k34 = k + 1 := ⟨k34 - 1, by omega⟩
    refine AW.seq (AW.r1 hC [0, 1, 11, 12, 13, 14] [] ⟨[(0, .data (.slice (.named 0)) (fds : List Dep)), (1, .int .i64 width), (11, .data (.slice (.named 0)) (fds : List Dep)), (12, .int .i64 ((List.length fds : Nat) : Int)), (13, .int .i64 ((v13 : Nat) : Int)), (14, .bool (decide (((v13 : Nat) : Int) < ((List.length fds : Nat) : Int))))], []⟩ ?_)
    refine AW.seq (AW.cd (decide (((v13 : Nat) : Int) < ((List.length fds : Nat) : Int))) ?_ ?_)
    ·
     intro h35
     have h35q : ((v13 : Nat) : Int) < ((List.length fds : Nat) : Int) := (of_decide_eq_true h35)
     have e36 := e33.trans (Go.Am.bif_t h35)
     refine AW.kp [0, 1, 11, 12, 13] [] ⟨[(0, .data (.slice (.named 0)) (fds : List Dep)), (1, .int .i64 width), (11, .data (.slice (.named 0)) (fds : List Dep)), (12, .int .i64 ((List.length fds : Nat) : Int)), (13, .int .i64 ((v13 : Nat) : Int))], []⟩ ?_
     refine AW.skip (AW.seq (AW.block (AW.seq (AW.r0 hC [0, 1, 6, 11, 12, 13] [24] ⟨[(0, .data (.slice (.named 0)) (fds : List Dep)), (1, .int .i64 width), (6, .ref 24 1 0), (11, .data (.slice (.named 0)) (fds : List Dep)), (12, .int .i64 ((List.length fds : Nat) : Int)), (13, .int .i64 ((v13 : Nat) : Int))], [(24, .box 1 [.int .i64 (Dep.From (List.getD fds v13 Dep.zero)), .int .i64 (Dep.To (List.getD fds v13 Dep.zero))])]⟩ [(0 ≤ ((v13 : Nat) : Int) ∧ ((v13 : Nat) : Int) < ((List.length fds : Nat) : Int))] ?_ ?_))))
     ·
      refine ⟨?_, trivial⟩
      ·
       omega
     refine AW.seq (AW.r0 hC [0, 1, 11, 12, 13, 30] [] ⟨[(0, .data (.slice (.named 0)) (fds : List Dep)), (1, .int .i64 width), (11, .data (.slice (.named 0)) (fds : List Dep)), (12, .int .i64 ((List.length fds : Nat) : Int)), (13, .int .i64 ((v13 : Nat) : Int)), (30, .bool (bif (!(contains (Dep.From (List.getD fds v13 Dep.zero)) (Dep.To (List.getD fds v13 Dep.zero)))) then (!(iIsKey fds width (Dep.From (List.getD fds v13 Dep.zero)))) else false))], []⟩ [(True), (((!(contains (Dep.From (List.getD fds v13 Dep.zero)) (Dep.To (List.getD fds v13 Dep.zero)))) = true) → (((!(contains (Dep.From (List.getD fds v13 Dep.zero)) (Dep.To (List.getD fds v13 Dep.zero)))) = true))), (((!(contains (Dep.From (List.getD fds v13 Dep.zero)) (Dep.To (List.getD fds v13 Dep.zero)))) = true) → (((!(contains (Dep.From (List.getD fds v13 Dep.zero)) (Dep.To (List.getD fds v13 Dep.zero)))) = true))), (((!(contains (Dep.From (List.getD fds v13 Dep.zero)) (Dep.To (List.getD fds v13 Dep.zero)))) = true) → (((!(contains (Dep.From (List.getD fds v13 Dep.zero)) (Dep.To (List.getD fds v13 Dep.zero)))) = true))), (((!(contains (Dep.From (List.getD fds v13 Dep.zero)) (Dep.To (List.getD fds v13 Dep.zero)))) = true) → (((!(contains (Dep.From (List.getD fds v13 Dep.zero)) (Dep.To (List.getD fds v13 Dep.zero)))) = true))), (((!(contains (Dep.From (List.getD fds v13 Dep.zero)) (Dep.To (List.getD fds v13 Dep.zero)))) = true) → (True)), (((!(contains (Dep.From (List.getD fds v13 Dep.zero)) (Dep.To (List.getD fds v13 Dep.zero)))) = true) → (((!(contains (Dep.From (List.getD fds v13 Dep.zero)) (Dep.To (List.getD fds v13 Dep.zero)))) = true))), (((!(contains (Dep.From (List.getD fds v13 Dep.zero)) (Dep.To (List.getD fds v13 Dep.zero)))) = true) → (((!(contains (Dep.From (List.getD fds v13 Dep.zero)) (Dep.To (List.getD fds v13 Dep.zero)))) = true)))] ?_ ?_)
     ·
      refine ⟨?_, ?_, ?_, ?_, ?_, ?_, ?_, ?_, trivial⟩
      ·
       trivial
      ·
       intro g37
       have g37p0 : (contains (Dep.From (List.getD fds v13 Dep.zero)) (Dep.To (List.getD fds v13 Dep.zero))) = false := (Go.Am.not_pos g37)
       assumption
      ·
       intro g38
       have g38p0 : (contains (Dep.From (List.getD fds v13 Dep.zero)) (Dep.To (List.getD fds v13 Dep.zero))) = false := (Go.Am.not_pos g38)
       assumption
      ·
       intro g39
       have g39p0 : (contains (Dep.From (List.getD fds v13 Dep.zero)) (Dep.To (List.getD fds v13 Dep.zero))) = false := (Go.Am.not_pos g39)
       assumption
      ·
       intro g40
       have g40p0 : (contains (Dep.From (List.getD fds v13 Dep.zero)) (Dep.To (List.getD fds v13 Dep.zero))) = false := (Go.Am.not_pos g40)
       assumption
      ·
       intro g41
       have g41p0 : (contains (Dep.From (List.getD fds v13 Dep.zero)) (Dep.To (List.getD fds v13 Dep.zero))) = false := (Go.Am.not_pos g41)
       trivial
      ·
       intro g42
       have g42p0 : (contains (Dep.From (List.getD fds v13 Dep.zero)) (Dep.To (List.getD fds v13 Dep.zero))) = false := (Go.Am.not_pos g42)
       assumption
      ·
       intro g43
       have g43p0 : (contains (Dep.From (List.getD fds v13 Dep.zero)) (Dep.To (List.getD fds v13 Dep.zero))) = false := (Go.Am.not_pos g43)
       assumption
     refine AW.cd (bif (!(contains (Dep.From (List.getD fds v13 Dep.zero)) (Dep.To (List.getD fds v13 Dep.zero)))) then (!(iIsKey fds width (Dep.From (List.getD fds v13 Dep.zero)))) else false) ?_ ?_
     ·
      intro h44
      have h44q : ((contains (Dep.From (List.getD fds v13 Dep.zero)) (Dep.To (List.getD fds v13 Dep.zero))) = false) ∧ ((iIsKey fds width (Dep.From (List.getD fds v13 Dep.zero))) = false) := (And.imp (fun h => (Go.Am.not_pos h)) (fun h => (Go.Am.not_pos h)) (Go.Am.and_pos h44))
      have e45 := e36.trans (Go.Am.bif_t h44)
      refine AW.seq (AW.r1 hC [4] [] ⟨[(4, .bool false)], []⟩ ?_)
      refine AW.ret ?_
      have e46 := e4.trans (Go.Am.elim_r e45)
      exact AW.retE (β := Bool) (fun v => [⟨.bool, v⟩]) (fun v => []) (v := false) e46 (by kernel_rfl) rfl rfl
     ·
      intro h47
      have h47q : ((contains (Dep.From (List.getD fds v13 Dep.zero)) (Dep.To (List.getD fds v13 Dep.zero))) = true) ∨ ((iIsKey fds width (Dep.From (List.getD fds v13 Dep.zero))) = true) := (Or.imp (fun h => (Go.Am.not_neg h)) (fun h => (Go.Am.not_neg h)) (Go.Am.and_neg h47))
      have e48 := e36.trans (Go.Am.bif_f h47)
      refine AW.kp [0, 1, 11, 12, 13] [] ⟨[(0, .data (.slice (.named 0)) (fds : List Dep)), (1, .int .i64 width), (11, .data (.slice (.named 0)) (fds : List Dep)), (12, .int .i64 ((List.length fds : Nat) : Int)), (13, .int .i64 ((v13 : Nat) : Int))], []⟩ ?_
      refine AW.skip (AW.r0 hC [0, 1, 11, 12, 13] [] ⟨[(0, .data (.slice (.named 0)) (fds : List Dep)), (1, .int .i64 width), (11, .data (.slice (.named 0)) (fds : List Dep)), (12, .int .i64 ((List.length fds : Nat) : Int)), (13, .int .i64 ((v13 + 1 : Nat) : Int))], []⟩ [(-9223372036854775808 ≤ ((v13 + 1 : Nat) : Int) ∧ ((v13 + 1 : Nat) : Int) ≤ 9223372036854775807)] ?_ ?_)
      ·
       refine ⟨?_, trivial⟩
       ·
        omega
      refine AW.back (x := v13) (v13 + 1) (by kernel_rfl) ⟨?_, k34q, ?_, e48⟩ ?_
      ·
       show True
       assumption
      ·
       show (List.length fds) - (v13 + 1) < k34q
       omega
      ·
       show (List.length fds) - (v13 + 1) < (List.length fds) - v13
       omega
    ·
     intro h49
     have h49q : ¬ (((v13 : Nat) : Int) < ((List.length fds : Nat) : Int)) := (of_decide_eq_false h49)
     have e50 := e33.trans (Go.Am.bif_f h49)
     refine AW.kp [] [] ⟨[], []⟩ ?_
     refine AW.exit ?_
     refine AW.meet () (by kernel_rfl) ⟨?_, e50⟩
     show True
     assumption
  ·
   intro x hR
   obtain ⟨hJ0, e51⟩ := hR
   replace hJ0 : True := hJ0
   have e52 := e4.trans (Go.Am.elim_l e51)
   refine AW.seq (AW.r1 hC [4] [] ⟨[(4, .bool true)], []⟩ ?_)
   exact AW.ret (AW.retE (β := Bool) (fun v => [⟨.bool, v⟩]) (fun v => []) (v := true) e52 (by kernel_rfl) rfl rfl)

def FnExactIsNormalForm (aFds : List Dep) (aWidth : Int) : Bool := (bif (decide ((szDependencyS aFds 1048576) < 0)) then true else (bif ((iIsNormalForm (toDependencyS aFds) aWidth) != (IsNormalForm (toDependencyS aFds) aWidth)) then false else (bif (!(eqDependencyS (toDependencyS aFds) (toDependencyS aFds))) then false else true)))

def FnExactIsNormalForm_sp : FnSpec := mkSpec [.val (.slice (.named 0)), .val (.int .i64)] [.val .bool] (fun (aFds : List Dep) (aWidth : Int) => True) (fun (aFds : List Dep) (aWidth : Int) => [⟨.bool, (FnExactIsNormalForm aFds aWidth)⟩])

theorem FnExactIsNormalForm_ok : FnOK Try.prog 5 FnExactIsNormalForm_sp := by
 have hC : CtxOK Try.prog (mkCtx tyL [(12, szDependencyS_sp), (14, toDependencyS_sp), (16, eqDependencyS_sp), (19, IsNormalForm_sp), (20, iIsNormalForm_sp)]) := CtxOK.cons szDependencyS_ok (CtxOK.cons toDependencyS_ok (CtxOK.cons eqDependencyS_ok (CtxOK.cons IsNormalForm_ok (CtxOK.cons iIsNormalForm_ok (CtxOK.nil tyOK)))))
 refine FnOK.of_body Try.func5 (by kernel_rfl) rfl (C := (mkCtx tyL [(12, szDependencyS_sp), (14, toDependencyS_sp), (16, eqDependencyS_sp), (19, IsNormalForm_sp), (20, iIsNormalForm_sp)])) hC.ty (by kernel_rfl) ?_
 intro (aFds : List Dep) (aWidth : Int) hwf hpre E
 have hpre : True := hpre
 have hw_aFds : Wf ⟨(.slice (.named 0)), (aFds : List Dep)⟩ := hwf _ (List.Mem.head _)
 have hl_aFds : ((List.length aFds : Nat) : Int) ≤ 9223372036854775807 := hw_aFds.len
 have hw_aWidth : Wf ⟨(.int .i64), (aWidth : Int)⟩ := hwf _ (List.Mem.tail _ (List.Mem.head _))
 have hr_aWidth : -9223372036854775808 ≤ aWidth ∧ aWidth ≤ 9223372036854775807 := hw_aWidth.int_inv
 have e0 : FnExactIsNormalForm aFds aWidth = FnExactIsNormalForm aFds aWidth := rfl
 refine AW.seq (AW.r1 hC [0, 1] [] ⟨[(0, .data (.slice (.named 0)) (aFds : List Dep)), (1, .int .i64 aWidth)], []⟩ ?_)
 refine AW.seq (AW.r1 hC [0, 1, 5] [] ⟨[(0, .data (.slice (.named 0)) (aFds : List Dep)), (1, .int .i64 aWidth), (5, .int .i64 1048576)], []⟩ ?_)
 refine AW.seq (AW.r0 hC [0, 1, 5] [] ⟨[(0, .data (.slice (.named 0)) (aFds : List Dep)), (1, .int .i64 aWidth), (5, .int .i64 (szDependencyS aFds 1048576))], []⟩ [(0 ≤ (1048576 : Int))] ?_ ?_)
 ·
  refine ⟨?_, trivial⟩
  ·
   omega
 refine AW.seq (AW.seq (AW.r1 hC [0, 1, 13] [] ⟨[(0, .data (.slice (.named 0)) (aFds : List Dep)), (1, .int .i64 aWidth), (13, .bool (decide ((szDependencyS aFds 1048576) < 0)))], []⟩ ?_))
 refine AW.cd (decide ((szDependencyS aFds 1048576) < 0)) ?_ ?_
 ·
  intro h1
  have h1q : (szDependencyS aFds 1048576) < 0 := (of_decide_eq_true h1)
  have e2 := e0.trans (Go.Am.bif_t h1)
  refine AW.seq (AW.r1 hC [4] [] ⟨[(4, .bool true)], []⟩ ?_)
  exact AW.ret (AW.retE (β := Bool) (fun v => [⟨.bool, v⟩]) (fun v => []) (v := true) e2 (by kernel_rfl) rfl rfl)
 ·
  intro h3
  have h3q : ¬ ((szDependencyS aFds 1048576) < 0) := (of_decide_eq_false h3)
  have e4 := e0.trans (Go.Am.bif_f h3)
  refine AW.kp [0, 1] [] ⟨[(0, .data (.slice (.named 0)) (aFds : List Dep)), (1, .int .i64 aWidth)], []⟩ ?_
  refine AW.skip (AW.seq (AW.r0 hC [0, 1, 6] [] ⟨[(0, .data (.slice (.named 0)) (aFds : List Dep)), (1, .int .i64 aWidth), (6, .bool (IsNormalForm (toDependencyS aFds) aWidth))], []⟩ [((List.length aFds : Int) ≤ 1048576), (True)] ?_ ?_))
  ·
   refine ⟨?_, ?_, trivial⟩
   ·
    exact szDep_le (by assumption)
   ·
    trivial
  refine AW.seq (AW.r0 hC [0, 1, 6, 7] [76] ⟨[(0, .data (.slice (.named 0)) (aFds : List Dep)), (1, .int .i64 aWidth), (6, .bool (IsNormalForm (toDependencyS aFds) aWidth)), (7, .arr 76 1)], [(76, .arr 1 (.named 0) ((toDependencyS aFds) : List Dep))]⟩ [((List.length aFds : Int) ≤ 1048576)] ?_ ?_)
  ·
   refine ⟨?_, trivial⟩
   ·
    exact szDep_le (by assumption)
  refine AW.seq (AW.r0 hC [0, 6, 7, 8] [76] ⟨[(0, .data (.slice (.named 0)) (aFds : List Dep)), (6, .bool (IsNormalForm (toDependencyS aFds) aWidth)), (7, .arr 76 1), (8, .bool (iIsNormalForm (toDependencyS aFds) aWidth))], [(76, .arr 1 (.named 0) ((toDependencyS aFds) : List Dep))]⟩ [(True)] ?_ ?_)
  ·
   refine ⟨?_, trivial⟩
   ·
    trivial
  refine AW.seq (AW.seq (AW.r1 hC [0, 7, 25] [76] ⟨[(0, .data (.slice (.named 0)) (aFds : List Dep)), (7, .arr 76 1), (25, .bool ((iIsNormalForm (toDependencyS aFds) aWidth) != (IsNormalForm (toDependencyS aFds) aWidth)))], [(76, .arr 1 (.named 0) ((toDependencyS aFds) : List Dep))]⟩ ?_))
  refine AW.cd ((iIsNormalForm (toDependencyS aFds) aWidth) != (IsNormalForm (toDependencyS aFds) aWidth)) ?_ ?_
  ·
   intro h5
   have h5q : ((iIsNormalForm (toDependencyS aFds) aWidth) != (IsNormalForm (toDependencyS aFds) aWidth)) = true := h5
   have e6 := e4.trans (Go.Am.bif_t h5)
   refine AW.seq (AW.r1 hC [4] [] ⟨[(4, .bool false)], []⟩ ?_)
   exact AW.ret (AW.retE (β := Bool) (fun v => [⟨.bool, v⟩]) (fun v => []) (v := false) e6 (by kernel_rfl) rfl rfl)
  ·
   intro h7
   have h7q : ((iIsNormalForm (toDependencyS aFds) aWidth) != (IsNormalForm (toDependencyS aFds) aWidth)) = false := h7
   have e8 := e4.trans (Go.Am.bif_f h7)
   refine AW.kp [0, 7] [76] ⟨[(0, .data (.slice (.named 0)) (aFds : List Dep)), (7, .arr 76 1)], [(76, .arr 1 (.named 0) ((toDependencyS aFds) : List Dep))]⟩ ?_
   refine AW.skip (AW.seq (AW.seq (AW.r0 hC [30] [] ⟨[(30, .bool (!(eqDependencyS (toDependencyS aFds) (toDependencyS aFds))))], []⟩ [((List.length aFds : Int) ≤ 1048576), (True)] ?_ ?_)))
   ·
    refine ⟨?_, ?_, trivial⟩
    ·
     exact szDep_le (by assumption)
    ·
     trivial
   refine AW.cd (!(eqDependencyS (toDependencyS aFds) (toDependencyS aFds))) ?_ ?_
   ·
    intro h9
    have h9q : (eqDependencyS (toDependencyS aFds) (toDependencyS aFds)) = false := (Go.Am.not_pos h9)
    have e10 := e8.trans (Go.Am.bif_t h9)
    refine AW.seq (AW.r1 hC [4] [] ⟨[(4, .bool false)], []⟩ ?_)
    exact AW.ret (AW.retE (β := Bool) (fun v => [⟨.bool, v⟩]) (fun v => []) (v := false) e10 (by kernel_rfl) rfl rfl)
   ·
    intro h11
    have h11q : (eqDependencyS (toDependencyS aFds) (toDependencyS aFds)) = true := (Go.Am.not_neg h11)
    have e12 := e8.trans (Go.Am.bif_f h11)
    refine AW.kp [] [] ⟨[], []⟩ ?_
    refine AW.skip (AW.seq (AW.r1 hC [4] [] ⟨[(4, .bool true)], []⟩ ?_))
    exact AW.ret (AW.retE (β := Bool) (fun v => [⟨.bool, v⟩]) (fun v => []) (v := true) e12 (by kernel_rfl) rfl rfl)

theorem contains_getD {fds : List Dep} (h : InR fds) (i : Nat) : contains (fds.getD i Dep.zero).From (fds.getD i Dep.zero).To = (bits .and .i64 (fds.getD i Dep.zero).To (fds.getD i Dep.zero).From == (fds.getD i Dep.zero).To) :=
 contains_eq (inR_getD h i).2.1 (inR_getD h i).2.2

theorem normal_loops {fds : List Dep} {w : Int} (h : ValidDependencies fds w = true) : ∀ (k i : Nat), iIsNormalForm_l0 fds w k i = IsNormalForm_l0 fds w k i := by
 intro k
 induction k with
 | zero => intro i; rfl
 | succ k ih =>
  intro i
  simp only [iIsNormalForm_l0, IsNormalForm_l0]
  rw [contains_getD (inR_of_valid h)]
  by_cases hi : i < fds.length
  ·
   rw [iIsKey_dep h (getD_mem fds i Dep.zero hi), ih]
   rfl
  ·
   rw [show decide (((i : Nat) : Int) < ((List.length fds : Nat) : Int)) = false by simp; omega]
   rfl

theorem normal_eq (fds : List Dep) (w : Int) : iIsNormalForm fds w = IsNormalForm fds w := by
 unfold iIsNormalForm IsNormalForm
 rw [valid_eq]
 cases h : ValidDependencies fds w with
 | false => rfl
 | true => rw [normal_loops h]

theorem FnExactIsNormalForm_law (a : List Dep) (w : Int) : FnExactIsNormalForm a w = true := by
 unfold FnExactIsNormalForm
 rw [normal_eq, eqDependencyS_self]
 simp

end
end Go.Proofs.Ytmijmkbnmcmgcaa
