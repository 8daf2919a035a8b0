/-
  A part of the proof of this claim (AdX): what functions of the program compute, and plain facts of that. No conditions.
-/
import Derived.Test.YtmijmkbnmcmgcaaAdW
set_option linter.all false
namespace Go.Proofs.Ytmijmkbnmcmgcaa
open Go Go.Am
noncomputable section

def equalDependencies_l0 (a : List Dep) (b : List Dep) : Nat → Nat → Unit ⊕ Bool
 | 0, i => .inl ()
 | k + 1, i => (bif (decide (((i : Nat) : Int) < ((List.length a : Nat) : Int))) then (bif (!(bif ((Dep.From (List.getD a i Dep.zero)) == (Dep.From (List.getD b i Dep.zero))) then (bif ((Dep.To (List.getD a i Dep.zero)) == (Dep.To (List.getD b i Dep.zero))) then true else false) else false)) then (.inr false) else (equalDependencies_l0 a b k (i + 1))) else (.inl ()))

def equalDependencies (a : List Dep) (b : List Dep) : Bool := (bif (((List.length a : Nat) : Int) != ((List.length b : Nat) : Int)) then false else (Sum.elim (fun _ => true) (fun r => r) (equalDependencies_l0 a b ((List.length a) - 0 + 1) 0)))

def equalDependencies_sp : FnSpec := mkSpec [.val (.slice (.named 0)), .val (.slice (.named 0))] [.val .bool] (fun (a : List Dep) (b : List Dep) => True) (fun (a : List Dep) (b : List Dep) => [⟨.bool, (equalDependencies a b)⟩])

theorem equalDependencies_ok : FnOK Try.prog 32 equalDependencies_sp := by
 have hC : CtxOK Try.prog (mkCtx tyL []) := CtxOK.nil tyOK
 have hM : Try.prog.follows .mixedOrders = true := Try.checked.mixed
 refine FnOK.of_body Try.func32 (by kernel_rfl) rfl (C := (mkCtx tyL [])) hC.ty (by kernel_rfl) ?_
 intro (a : List Dep) (b : List Dep) hwf hpre E
 have hpre : True := hpre
 have hw_a : Wf ⟨(.slice (.named 0)), (a : List Dep)⟩ := hwf _ (List.Mem.head _)
 have hl_a : ((List.length a : Nat) : Int) ≤ 9223372036854775807 := hw_a.len
 have hw_b : Wf ⟨(.slice (.named 0)), (b : List Dep)⟩ := hwf _ (List.Mem.tail _ (List.Mem.head _))
 have hl_b : ((List.length b : Nat) : Int) ≤ 9223372036854775807 := hw_b.len
 have e0 : equalDependencies a b = equalDependencies a b := rfl
 refine AW.seq (AW.r1 hC [0, 1] [] ⟨[(0, .data (.slice (.named 0)) (a : List Dep)), (1, .data (.slice (.named 0)) (b : List Dep))], []⟩ ?_)
 refine AW.seq (AW.seq (AW.r1 hC [0, 1, 10] [] ⟨[(0, .data (.slice (.named 0)) (a : List Dep)), (1, .data (.slice (.named 0)) (b : List Dep)), (10, .bool (((List.length a : Nat) : Int) != ((List.length b : Nat) : Int)))], []⟩ ?_))
 refine AW.cd (((List.length a : Nat) : Int) != ((List.length b : Nat) : Int)) ?_ ?_
 ·
  intro h1
  have h1q : ((List.length a : Nat) : Int) ≠ ((List.length b : Nat) : Int) := (Go.Am.bne_pos h1)
  have e2 := e0.trans (Go.Am.bif_t h1)
  refine AW.seq (AW.r1 hC [4] [] ⟨[(4, .bool false)], []⟩ ?_)
  exact AW.ret (AW.retE (β := Bool) (fun v => [⟨.bool, v⟩]) (fun v => []) (v := false) e2 (by kernel_rfl) rfl rfl)
 ·
  intro h3
  have h3q : ((List.length a : Nat) : Int) = ((List.length b : Nat) : Int) := (Go.Am.bne_neg h3)
  have e4 := e0.trans (Go.Am.bif_f h3)
  refine AW.kp [0, 1] [] ⟨[(0, .data (.slice (.named 0)) (a : List Dep)), (1, .data (.slice (.named 0)) (b : List Dep))], []⟩ ?_
  refine AW.skip (AW.seq (AW.seq (AW.r1 hC [0, 1, 5] [] ⟨[(0, .data (.slice (.named 0)) (a : List Dep)), (1, .data (.slice (.named 0)) (b : List Dep)), (5, .int .i64 0)], []⟩ ?_)))
  refine AW.cutQ (α := Unit) (fun x => ⟨[], []⟩) (fun x => (True) ∧ (equalDependencies_l0 a b ((List.length a) - 0 + 1) 0) = (.inl ())) ?_ ?_
  ·
   skip
   refine AW.block (AW.loop (α := Nat) (fun x => ⟨[(0, .data (.slice (.named 0)) (a : List Dep)), (1, .data (.slice (.named 0)) (b : List Dep)), (5, .int .i64 ((x : Nat) : Int))], []⟩) (fun x => (True) ∧ ∃ k, (List.length a) - x < k ∧ (equalDependencies_l0 a b ((List.length a) - 0 + 1) 0) = equalDependencies_l0 a b k x) (fun x => (List.length a) - x) 0 (by kernel_rfl) ⟨?_, _, Nat.lt_succ_self _, rfl⟩ ?_)
   ·
    show True
    exact trivial
   ·
    intro i hR
    obtain ⟨hI0, k34, hk32, e33⟩ := hR
    replace hI0 : True := hI0
    replace hk32 : (List.length a) - i < k34 := hk32
    obtain ⟨k34q, rfl⟩ : ∃ k, k34 = k + 1 := ⟨k34 - 1, by omega⟩
    refine AW.seq (AW.seq (AW.r1 hC [0, 1, 5, 14] [] ⟨[(0, .data (.slice (.named 0)) (a : List Dep)), (1, .data (.slice (.named 0)) (b : List Dep)), (5, .int .i64 ((i : Nat) : Int)), (14, .bool (decide (((i : Nat) : Int) < ((List.length a : Nat) : Int))))], []⟩ ?_))
    refine AW.cd (decide (((i : Nat) : Int) < ((List.length a : Nat) : Int))) ?_ ?_
    ·
     intro h35
     have h35q : ((i : Nat) : Int) < ((List.length a : Nat) : Int) := (of_decide_eq_true h35)
     have e36 := e33.trans (Go.Am.bif_t h35)
     refine AW.kp [0, 1, 5] [] ⟨[(0, .data (.slice (.named 0)) (a : List Dep)), (1, .data (.slice (.named 0)) (b : List Dep)), (5, .int .i64 ((i : Nat) : Int))], []⟩ ?_
     refine AW.skip (AW.seq (AW.block (AW.seq (AW.d0 hC hM [0, 1, 5, 25] [] ⟨[(0, .data (.slice (.named 0)) (a : List Dep)), (1, .data (.slice (.named 0)) (b : List Dep)), (5, .int .i64 ((i : Nat) : Int)), (25, .bool (!(bif ((Dep.From (List.getD a i Dep.zero)) == (Dep.From (List.getD b i Dep.zero))) then (bif ((Dep.To (List.getD a i Dep.zero)) == (Dep.To (List.getD b i Dep.zero))) then true else false) else false)))], []⟩ [(0 ≤ ((i : Nat) : Int) ∧ ((i : Nat) : Int) < ((List.length a : Nat) : Int)), (0 ≤ ((i : Nat) : Int) ∧ ((i : Nat) : Int) < ((List.length b : Nat) : Int))] ?_ ?_))))
     ·
      refine ⟨?_, ?_, trivial⟩
      ·
       omega
      ·
       omega
     refine AW.cd (!(bif ((Dep.From (List.getD a i Dep.zero)) == (Dep.From (List.getD b i Dep.zero))) then (bif ((Dep.To (List.getD a i Dep.zero)) == (Dep.To (List.getD b i Dep.zero))) then true else false) else false)) ?_ ?_
     ·
      intro h37
      have h37q : ((Dep.From (List.getD a i Dep.zero)) ≠ (Dep.From (List.getD b i Dep.zero))) ∨ (((Dep.To (List.getD a i Dep.zero)) ≠ (Dep.To (List.getD b i Dep.zero))) ∨ (true = false)) := (Or.imp (fun h => (Go.Am.beq_neg h)) (fun h => (Or.imp (fun h => (Go.Am.beq_neg h)) (fun h => h) (Go.Am.and_neg h))) (Go.Am.and_neg (Go.Am.not_pos h37)))
      have e38 := e36.trans (Go.Am.bif_t h37)
      refine AW.seq (AW.r1 hC [4] [] ⟨[(4, .bool false)], []⟩ ?_)
      refine AW.ret ?_
      have e39 := e4.trans (Go.Am.elim_r e38)
      exact AW.retE (β := Bool) (fun v => [⟨.bool, v⟩]) (fun v => []) (v := false) e39 (by kernel_rfl) rfl rfl
     ·
      intro h40
      have h40q : ((Dep.From (List.getD a i Dep.zero)) = (Dep.From (List.getD b i Dep.zero))) ∧ (((Dep.To (List.getD a i Dep.zero)) = (Dep.To (List.getD b i Dep.zero))) ∧ (true = true)) := (And.imp (fun h => (Go.Am.beq_pos h)) (fun h => (And.imp (fun h => (Go.Am.beq_pos h)) (fun h => h) (Go.Am.and_pos h))) (Go.Am.and_pos (Go.Am.not_neg h40)))
      have e41 := e36.trans (Go.Am.bif_f h40)
      refine AW.kp [0, 1, 5] [] ⟨[(0, .data (.slice (.named 0)) (a : List Dep)), (1, .data (.slice (.named 0)) (b : List Dep)), (5, .int .i64 ((i : Nat) : Int))], []⟩ ?_
      refine AW.skip (AW.r0 hC [0, 1, 5] [] ⟨[(0, .data (.slice (.named 0)) (a : List Dep)), (1, .data (.slice (.named 0)) (b : List Dep)), (5, .int .i64 ((i + 1 : Nat) : Int))], []⟩ [(-9223372036854775808 ≤ ((i + 1 : Nat) : Int) ∧ ((i + 1 : Nat) : Int) ≤ 9223372036854775807)] ?_ ?_)
      ·
       refine ⟨?_, trivial⟩
       ·
        omega
      refine AW.back (x := i) (i + 1) (by kernel_rfl) ⟨?_, k34q, ?_, e41⟩ ?_
      ·
       show True
       assumption
      ·
       show (List.length a) - (i + 1) < k34q
       omega
      ·
       show (List.length a) - (i + 1) < (List.length a) - i
       omega
    ·
     intro h42
     have h42q : ¬ (((i : Nat) : Int) < ((List.length a : Nat) : Int)) := (of_decide_eq_false h42)
     have e43 := e33.trans (Go.Am.bif_f h42)
     refine AW.kp [] [] ⟨[], []⟩ ?_
     refine AW.exit ?_
     refine AW.meet () (by kernel_rfl) ⟨?_, e43⟩
     show True
     assumption
  ·
   intro x hR
   obtain ⟨hJ0, e44⟩ := hR
   replace hJ0 : True := hJ0
   have e45 := e4.trans (Go.Am.elim_l e44)
   refine AW.seq (AW.r1 hC [4] [] ⟨[(4, .bool true)], []⟩ ?_)
   exact AW.ret (AW.retE (β := Bool) (fun v => [⟨.bool, v⟩]) (fun v => []) (v := true) e45 (by kernel_rfl) rfl rfl)

theorem dep_in {f : Dep} {w : Int} (hw : 1 ≤ w ∧ w ≤ 6) (h : depValid f w = true) : (0 ≤ f.From ∧ f.From < 64) ∧ (0 ≤ f.To ∧ f.To < 64) := by
 have := depValid_iff.1 h
 exact ⟨⟨this.1.1, pow_le64 hw this.1.2⟩, ⟨this.2.1, pow_le64 hw this.2.2⟩⟩

def Implies (fds : List Dep) (width : Int) (f : Dep) : Bool := (bif (bif (ValidDependencies fds width) then (depValid f width) else false) then (iimplies fds f) else false)

def Implies_sp : FnSpec := mkSpec [.val (.slice (.named 0)), .val (.int .i64), .val (.named 0)] [.val .bool] (fun (fds : List Dep) (width : Int) (f : Dep) => True) (fun (fds : List Dep) (width : Int) (f : Dep) => [⟨.bool, (Implies fds width f)⟩])

theorem Implies_ok : FnOK Try.prog 34 Implies_sp := by
 have hC : CtxOK Try.prog (mkCtx tyL [(18, ValidDependencies_sp), (45, depValid_sp), (53, iimplies_sp)]) := CtxOK.cons ValidDependencies_ok (CtxOK.cons depValid_ok (CtxOK.cons iimplies_ok (CtxOK.nil tyOK)))
 refine FnOK.of_body Try.func34 (by kernel_rfl) rfl (C := (mkCtx tyL [(18, ValidDependencies_sp), (45, depValid_sp), (53, iimplies_sp)])) hC.ty (by kernel_rfl) ?_
 intro (fds : List Dep) (width : Int) (f : Dep) hwf hpre E
 have hpre : True := hpre
 have hw_fds : Wf ⟨(.slice (.named 0)), (fds : List Dep)⟩ := hwf _ (List.Mem.head _)
 have hl_fds : ((List.length fds : Nat) : Int) ≤ 9223372036854775807 := hw_fds.len
 have hw_width : Wf ⟨(.int .i64), (width : Int)⟩ := hwf _ (List.Mem.tail _ (List.Mem.head _))
 have hr_width : -9223372036854775808 ≤ width ∧ width ≤ 9223372036854775807 := hw_width.int_inv
 have hw_f : Wf ⟨(.named 0), (f : Dep)⟩ := hwf _ (List.Mem.tail _ (List.Mem.tail _ (List.Mem.head _)))
 have hr_f_From : -9223372036854775808 ≤ Dep.From f ∧ Dep.From f ≤ 9223372036854775807 := (hw_f.field (tv := ⟨(.int .i64), Dep.From f⟩) (List.Mem.head _)).int_inv
 have hr_f_To : -9223372036854775808 ≤ Dep.To f ∧ Dep.To f ≤ 9223372036854775807 := (hw_f.field (tv := ⟨(.int .i64), Dep.To f⟩) (List.Mem.tail _ (List.Mem.head _))).int_inv
 have e0 : Implies fds width f = Implies fds width f := rfl
 refine AW.seq (AW.r1 hC [0, 1, 5] [20] ⟨[(0, .data (.slice (.named 0)) (fds : List Dep)), (1, .int .i64 width), (5, .ref 20 1 0)], [(20, .box 1 [.int .i64 (Dep.From f), .int .i64 (Dep.To f)])]⟩ ?_)
 refine AW.seq (AW.r0 hC [6] [] ⟨[(6, .bool (bif (bif (ValidDependencies fds width) then (depValid f width) else false) then (iimplies fds f) else false))], []⟩ [(True), (((ValidDependencies fds width) = true) → (((ValidDependencies fds width) = true))), (((ValidDependencies fds width) = true) → (((ValidDependencies fds width) = true))), (((ValidDependencies fds width) = true) → (1 ≤ width ∧ width ≤ 6)), (((ValidDependencies fds width) = true) → (((ValidDependencies fds width) = true))), (((bif (ValidDependencies fds width) then (depValid f width) else false) = true) → (((bif (ValidDependencies fds width) then (depValid f width) else false) = true))), (((bif (ValidDependencies fds width) then (depValid f width) else false) = true) → (((bif (ValidDependencies fds width) then (depValid f width) else false) = true))), (((bif (ValidDependencies fds width) then (depValid f width) else false) = true) → (((0 ≤ f.From ∧ f.From < 64) ∧ (0 ≤ f.To ∧ f.To < 64)) ∧ OKL fds)), (((bif (ValidDependencies fds width) then (depValid f width) else false) = true) → (((bif (ValidDependencies fds width) then (depValid f width) else false) = true)))] ?_ ?_)
 ·
  refine ⟨?_, ?_, ?_, ?_, ?_, ?_, ?_, ?_, ?_, trivial⟩
  ·
   trivial
  ·
   intro g1
   have g1p0 : (ValidDependencies fds width) = true := g1
   assumption
  ·
   intro g2
   have g2p0 : (ValidDependencies fds width) = true := g2
   assumption
  ·
   intro g3
   have g3p0 : (ValidDependencies fds width) = true := g3
   exact (deps_ok g3p0).1
  ·
   intro g4
   have g4p0 : (ValidDependencies fds width) = true := g4
   assumption
  ·
   intro g5
   have g5p0 : ((ValidDependencies fds width) = true) ∧ ((depValid f width) = true) := (And.imp (fun h => h) (fun h => h) (Go.Am.and_pos g5))
   assumption
  ·
   intro g6
   have g6p0 : ((ValidDependencies fds width) = true) ∧ ((depValid f width) = true) := (And.imp (fun h => h) (fun h => h) (Go.Am.and_pos g6))
   assumption
  ·
   intro g7
   have g7p0 : ((ValidDependencies fds width) = true) ∧ ((depValid f width) = true) := (And.imp (fun h => h) (fun h => h) (Go.Am.and_pos g7))
   exact ⟨dep_in (deps_ok g7p0.1).1 g7p0.2, (deps_ok g7p0.1).2.2⟩
  ·
   intro g8
   have g8p0 : ((ValidDependencies fds width) = true) ∧ ((depValid f width) = true) := (And.imp (fun h => h) (fun h => h) (Go.Am.and_pos g8))
   assumption
 exact AW.ret (AW.retE (β := Bool) (fun v => [⟨.bool, v⟩]) (fun v => []) (v := (bif (bif (ValidDependencies fds width) then (depValid f width) else false) then (iimplies fds f) else false)) e0 (by kernel_rfl) rfl rfl)

def FnMinimalCover_l0 (code : List Int) : Nat → Nat → Unit ⊕ Bool
 | 0, i => .inl ()
 | k + 1, i => (bif (decide (((i : Nat) : Int) < ((List.length (iMinimalCover ((DrawMinimalCover code).1) ((DrawMinimalCover code).2)) : Nat) : Int))) then (bif (bif (bif (!(Implies ((DrawMinimalCover code).1) ((DrawMinimalCover code).2) (List.getD (iMinimalCover ((DrawMinimalCover code).1) ((DrawMinimalCover code).2)) i Dep.zero))) then true else ((bits .and .i64 (Dep.To (List.getD (iMinimalCover ((DrawMinimalCover code).1) ((DrawMinimalCover code).2)) i Dep.zero)) ((Dep.To (List.getD (iMinimalCover ((DrawMinimalCover code).1) ((DrawMinimalCover code).2)) i Dep.zero)) - 1)) != 0)) then true else ((bits .and .i64 (Dep.To (List.getD (iMinimalCover ((DrawMinimalCover code).1) ((DrawMinimalCover code).2)) i Dep.zero)) (Dep.From (List.getD (iMinimalCover ((DrawMinimalCover code).1) ((DrawMinimalCover code).2)) i Dep.zero))) != 0)) then (.inr false) else (FnMinimalCover_l0 code k (i + 1))) else (.inl ()))

def FnMinimalCover_l1 (code : List Int) : Nat → Nat → Unit ⊕ Bool
 | 0, i => .inl ()
 | k + 1, i => (bif (decide (((i : Nat) : Int) < ((List.length ((DrawMinimalCover code).1) : Nat) : Int))) then (bif (!(Implies (iMinimalCover ((DrawMinimalCover code).1) ((DrawMinimalCover code).2)) ((DrawMinimalCover code).2) (List.getD ((DrawMinimalCover code).1) i Dep.zero))) then (.inr false) else (FnMinimalCover_l1 code k (i + 1))) else (.inl ()))

def FnMinimalCover (code : List Int) : Bool := (bif (decide (1048576 < ((List.length code : Nat) : Int))) then true else (bif (bif (bif (!(equalDependencies (iMinimalCover ((DrawMinimalCover code).1) ((DrawMinimalCover code).2)) (MinimalCover ((DrawMinimalCover code).1) ((DrawMinimalCover code).2)))) then true else (!(ValidDependencies ((DrawMinimalCover code).1) ((DrawMinimalCover code).2)))) then true else (!(ValidDependencies (iMinimalCover ((DrawMinimalCover code).1) ((DrawMinimalCover code).2)) ((DrawMinimalCover code).2)))) then (equalDependencies (iMinimalCover ((DrawMinimalCover code).1) ((DrawMinimalCover code).2)) (MinimalCover ((DrawMinimalCover code).1) ((DrawMinimalCover code).2))) else (Sum.elim (fun _ => (Sum.elim (fun _ => true) (fun r => r) (FnMinimalCover_l1 code ((List.length ((DrawMinimalCover code).1)) - 0 + 1) 0))) (fun r => r) (FnMinimalCover_l0 code ((List.length (iMinimalCover ((DrawMinimalCover code).1) ((DrawMinimalCover code).2))) - 0 + 1) 0))))

def FnMinimalCover_sp : FnSpec := mkSpec [.val (.slice (.int .u8))] [.val .bool] (fun (code : List Int) => True) (fun (code : List Int) => [⟨.bool, (FnMinimalCover code)⟩])

theorem FnMinimalCover_ok : FnOK Try.prog 10 FnMinimalCover_sp := by
 have hC : CtxOK Try.prog (mkCtx tyL [(18, ValidDependencies_sp), (30, DrawMinimalCover_sp), (31, iMinimalCover_sp), (32, equalDependencies_sp), (33, MinimalCover_sp), (34, Implies_sp)]) := CtxOK.cons ValidDependencies_ok (CtxOK.cons DrawMinimalCover_ok (CtxOK.cons iMinimalCover_ok (CtxOK.cons equalDependencies_ok (CtxOK.cons MinimalCover_ok (CtxOK.cons Implies_ok (CtxOK.nil tyOK))))))
 have hM : Try.prog.follows .mixedOrders = true := Try.checked.mixed
 refine FnOK.of_body Try.func10 (by kernel_rfl) rfl (C := (mkCtx tyL [(18, ValidDependencies_sp), (30, DrawMinimalCover_sp), (31, iMinimalCover_sp), (32, equalDependencies_sp), (33, MinimalCover_sp), (34, Implies_sp)])) hC.ty (by kernel_rfl) ?_
 intro (code : List Int) hwf hpre E
 have hpre : True := hpre
 have hw_code : Wf ⟨(.slice (.int .u8)), (code : List Int)⟩ := hwf _ (List.Mem.head _)
 have hl_code : ((List.length code : Nat) : Int) ≤ 9223372036854775807 := hw_code.len
 have e0 : FnMinimalCover code = FnMinimalCover code := rfl
 refine AW.seq (AW.r1 hC [0] [] ⟨[(0, .data (.slice (.int .u8)) (code : List Int))], []⟩ ?_)
 refine AW.seq (AW.seq (AW.r1 hC [0, 10] [] ⟨[(0, .data (.slice (.int .u8)) (code : List Int)), (10, .bool (decide (1048576 < ((List.length code : Nat) : Int))))], []⟩ ?_))
 refine AW.cd (decide (1048576 < ((List.length code : Nat) : Int))) ?_ ?_
 ·
  intro h1
  have h1q : 1048576 < ((List.length code : Nat) : Int) := (of_decide_eq_true h1)
  have e2 := e0.trans (Go.Am.bif_t h1)
  refine AW.seq (AW.r1 hC [2] [] ⟨[(2, .bool true)], []⟩ ?_)
  exact AW.ret (AW.retE (β := Bool) (fun v => [⟨.bool, v⟩]) (fun v => []) (v := true) e2 (by kernel_rfl) rfl rfl)
 ·
  intro h3
  have h3q : ¬ (1048576 < ((List.length code : Nat) : Int)) := (of_decide_eq_false h3)
  have e4 := e0.trans (Go.Am.bif_f h3)
  refine AW.kp [0] [] ⟨[(0, .data (.slice (.int .u8)) (code : List Int))], []⟩ ?_
  refine AW.skip (AW.seq (AW.r0 hC [3, 4] [52] ⟨[(3, .arr 52 1), (4, .int .i64 ((DrawMinimalCover code).2))], [(52, .arr 1 (.named 0) (((DrawMinimalCover code).1) : List Dep))]⟩ [(True)] ?_ ?_))
  ·
   refine ⟨?_, trivial⟩
   ·
    trivial
  refine AW.seq (AW.frz 52 ⟨[(3, .data (.slice (.named 0)) (((DrawMinimalCover code).1) : List Dep)), (4, .int .i64 ((DrawMinimalCover code).2))], []⟩ (by kernel_rfl) ?_)
  refine AW.r0 hC [3, 4, 5] [] ⟨[(3, .data (.slice (.named 0)) (((DrawMinimalCover code).1) : List Dep)), (4, .int .i64 ((DrawMinimalCover code).2)), (5, .data (.slice (.named 0)) ((iMinimalCover ((DrawMinimalCover code).1) ((DrawMinimalCover code).2)) : List Dep))], []⟩ [(True)] ?_ ?_
  ·
   refine ⟨?_, trivial⟩
   ·
    trivial
  refine AW.seq (AW.seq (AW.r0 hC [3, 4, 5, 36] [] ⟨[(3, .data (.slice (.named 0)) (((DrawMinimalCover code).1) : List Dep)), (4, .int .i64 ((DrawMinimalCover code).2)), (5, .data (.slice (.named 0)) ((iMinimalCover ((DrawMinimalCover code).1) ((DrawMinimalCover code).2)) : List Dep)), (36, .bool (bif (bif (!(equalDependencies (iMinimalCover ((DrawMinimalCover code).1) ((DrawMinimalCover code).2)) (MinimalCover ((DrawMinimalCover code).1) ((DrawMinimalCover code).2)))) then true else (!(ValidDependencies ((DrawMinimalCover code).1) ((DrawMinimalCover code).2)))) then true else (!(ValidDependencies (iMinimalCover ((DrawMinimalCover code).1) ((DrawMinimalCover code).2)) ((DrawMinimalCover code).2)))))], []⟩ [(True), (True), (((!(equalDependencies (iMinimalCover ((DrawMinimalCover code).1) ((DrawMinimalCover code).2)) (MinimalCover ((DrawMinimalCover code).1) ((DrawMinimalCover code).2)))) = false) → (((!(equalDependencies (iMinimalCover ((DrawMinimalCover code).1) ((DrawMinimalCover code).2)) (MinimalCover ((DrawMinimalCover code).1) ((DrawMinimalCover code).2)))) = false))), (((!(equalDependencies (iMinimalCover ((DrawMinimalCover code).1) ((DrawMinimalCover code).2)) (MinimalCover ((DrawMinimalCover code).1) ((DrawMinimalCover code).2)))) = false) → (((!(equalDependencies (iMinimalCover ((DrawMinimalCover code).1) ((DrawMinimalCover code).2)) (MinimalCover ((DrawMinimalCover code).1) ((DrawMinimalCover code).2)))) = false))), (((!(equalDependencies (iMinimalCover ((DrawMinimalCover code).1) ((DrawMinimalCover code).2)) (MinimalCover ((DrawMinimalCover code).1) ((DrawMinimalCover code).2)))) = false) → (True)), (((!(equalDependencies (iMinimalCover ((DrawMinimalCover code).1) ((DrawMinimalCover code).2)) (MinimalCover ((DrawMinimalCover code).1) ((DrawMinimalCover code).2)))) = false) → (((!(equalDependencies (iMinimalCover ((DrawMinimalCover code).1) ((DrawMinimalCover code).2)) (MinimalCover ((DrawMinimalCover code).1) ((DrawMinimalCover code).2)))) = false))), (((!(equalDependencies (iMinimalCover ((DrawMinimalCover code).1) ((DrawMinimalCover code).2)) (MinimalCover ((DrawMinimalCover code).1) ((DrawMinimalCover code).2)))) = false) → (((!(equalDependencies (iMinimalCover ((DrawMinimalCover code).1) ((DrawMinimalCover code).2)) (MinimalCover ((DrawMinimalCover code).1) ((DrawMinimalCover code).2)))) = false))), (((bif (!(equalDependencies (iMinimalCover ((DrawMinimalCover code).1) ((DrawMinimalCover code).2)) (MinimalCover ((DrawMinimalCover code).1) ((DrawMinimalCover code).2)))) then true else (!(ValidDependencies ((DrawMinimalCover code).1) ((DrawMinimalCover code).2)))) = false) → (((bif (!(equalDependencies (iMinimalCover ((DrawMinimalCover code).1) ((DrawMinimalCover code).2)) (MinimalCover ((DrawMinimalCover code).1) ((DrawMinimalCover code).2)))) then true else (!(ValidDependencies ((DrawMinimalCover code).1) ((DrawMinimalCover code).2)))) = false))), (((bif (!(equalDependencies (iMinimalCover ((DrawMinimalCover code).1) ((DrawMinimalCover code).2)) (MinimalCover ((DrawMinimalCover code).1) ((DrawMinimalCover code).2)))) then true else (!(ValidDependencies ((DrawMinimalCover code).1) ((DrawMinimalCover code).2)))) = false) → (((bif (!(equalDependencies (iMinimalCover ((DrawMinimalCover code).1) ((DrawMinimalCover code).2)) (MinimalCover ((DrawMinimalCover code).1) ((DrawMinimalCover code).2)))) then true else (!(ValidDependencies ((DrawMinimalCover code).1) ((DrawMinimalCover code).2)))) = false))), (((bif (!(equalDependencies (iMinimalCover ((DrawMinimalCover code).1) ((DrawMinimalCover code).2)) (MinimalCover ((DrawMinimalCover code).1) ((DrawMinimalCover code).2)))) then true else (!(ValidDependencies ((DrawMinimalCover code).1) ((DrawMinimalCover code).2)))) = false) → (True)), (((bif (!(equalDependencies (iMinimalCover ((DrawMinimalCover code).1) ((DrawMinimalCover code).2)) (MinimalCover ((DrawMinimalCover code).1) ((DrawMinimalCover code).2)))) then true else (!(ValidDependencies ((DrawMinimalCover code).1) ((DrawMinimalCover code).2)))) = false) → (((bif (!(equalDependencies (iMinimalCover ((DrawMinimalCover code).1) ((DrawMinimalCover code).2)) (MinimalCover ((DrawMinimalCover code).1) ((DrawMinimalCover code).2)))) then true else (!(ValidDependencies ((DrawMinimalCover code).1) ((DrawMinimalCover code).2)))) = false))), (((bif (!(equalDependencies (iMinimalCover ((DrawMinimalCover code).1) ((DrawMinimalCover code).2)) (MinimalCover ((DrawMinimalCover code).1) ((DrawMinimalCover code).2)))) then true else (!(ValidDependencies ((DrawMinimalCover code).1) ((DrawMinimalCover code).2)))) = false) → (((bif (!(equalDependencies (iMinimalCover ((DrawMinimalCover code).1) ((DrawMinimalCover code).2)) (MinimalCover ((DrawMinimalCover code).1) ((DrawMinimalCover code).2)))) then true else (!(ValidDependencies ((DrawMinimalCover code).1) ((DrawMinimalCover code).2)))) = false)))] ?_ ?_))
  ·
   refine ⟨?_, ?_, ?_, ?_, ?_, ?_, ?_, ?_, ?_, ?_, ?_, ?_, trivial⟩
   ·
    trivial
   ·
    trivial
   ·
    intro g5
    have g5p0 : (equalDependencies (iMinimalCover ((DrawMinimalCover code).1) ((DrawMinimalCover code).2)) (MinimalCover ((DrawMinimalCover code).1) ((DrawMinimalCover code).2))) = true := (Go.Am.not_neg g5)
    assumption
   ·
    intro g6
    have g6p0 : (equalDependencies (iMinimalCover ((DrawMinimalCover code).1) ((DrawMinimalCover code).2)) (MinimalCover ((DrawMinimalCover code).1) ((DrawMinimalCover code).2))) = true := (Go.Am.not_neg g6)
    assumption
   ·
    intro g7
    have g7p0 : (equalDependencies (iMinimalCover ((DrawMinimalCover code).1) ((DrawMinimalCover code).2)) (MinimalCover ((DrawMinimalCover code).1) ((DrawMinimalCover code).2))) = true := (Go.Am.not_neg g7)
    trivial
   ·
    intro g8
    have g8p0 : (equalDependencies (iMinimalCover ((DrawMinimalCover code).1) ((DrawMinimalCover code).2)) (MinimalCover ((DrawMinimalCover code).1) ((DrawMinimalCover code).2))) = true := (Go.Am.not_neg g8)
    assumption
   ·
    intro g9
    have g9p0 : (equalDependencies (iMinimalCover ((DrawMinimalCover code).1) ((DrawMinimalCover code).2)) (MinimalCover ((DrawMinimalCover code).1) ((DrawMinimalCover code).2))) = true := (Go.Am.not_neg g9)
    assumption
   ·
    intro g10
    have g10p0 : ((equalDependencies (iMinimalCover ((DrawMinimalCover code).1) ((DrawMinimalCover code).2)) (MinimalCover ((DrawMinimalCover code).1) ((DrawMinimalCover code).2))) = true) ∧ ((ValidDependencies ((DrawMinimalCover code).1) ((DrawMinimalCover code).2)) = true) := (And.imp (fun h => (Go.Am.not_neg h)) (fun h => (Go.Am.not_neg h)) (Go.Am.or_neg g10))
    assumption
   ·
    intro g11
    have g11p0 : ((equalDependencies (iMinimalCover ((DrawMinimalCover code).1) ((DrawMinimalCover code).2)) (MinimalCover ((DrawMinimalCover code).1) ((DrawMinimalCover code).2))) = true) ∧ ((ValidDependencies ((DrawMinimalCover code).1) ((DrawMinimalCover code).2)) = true) := (And.imp (fun h => (Go.Am.not_neg h)) (fun h => (Go.Am.not_neg h)) (Go.Am.or_neg g11))
    assumption
   ·
    intro g12
    have g12p0 : ((equalDependencies (iMinimalCover ((DrawMinimalCover code).1) ((DrawMinimalCover code).2)) (MinimalCover ((DrawMinimalCover code).1) ((DrawMinimalCover code).2))) = true) ∧ ((ValidDependencies ((DrawMinimalCover code).1) ((DrawMinimalCover code).2)) = true) := (And.imp (fun h => (Go.Am.not_neg h)) (fun h => (Go.Am.not_neg h)) (Go.Am.or_neg g12))
    trivial
   ·
    intro g13
    have g13p0 : ((equalDependencies (iMinimalCover ((DrawMinimalCover code).1) ((DrawMinimalCover code).2)) (MinimalCover ((DrawMinimalCover code).1) ((DrawMinimalCover code).2))) = true) ∧ ((ValidDependencies ((DrawMinimalCover code).1) ((DrawMinimalCover code).2)) = true) := (And.imp (fun h => (Go.Am.not_neg h)) (fun h => (Go.Am.not_neg h)) (Go.Am.or_neg g13))
    assumption
   ·
    intro g14
    have g14p0 : ((equalDependencies (iMinimalCover ((DrawMinimalCover code).1) ((DrawMinimalCover code).2)) (MinimalCover ((DrawMinimalCover code).1) ((DrawMinimalCover code).2))) = true) ∧ ((ValidDependencies ((DrawMinimalCover code).1) ((DrawMinimalCover code).2)) = true) := (And.imp (fun h => (Go.Am.not_neg h)) (fun h => (Go.Am.not_neg h)) (Go.Am.or_neg g14))
    assumption
  refine AW.cd (bif (bif (!(equalDependencies (iMinimalCover ((DrawMinimalCover code).1) ((DrawMinimalCover code).2)) (MinimalCover ((DrawMinimalCover code).1) ((DrawMinimalCover code).2)))) then true else (!(ValidDependencies ((DrawMinimalCover code).1) ((DrawMinimalCover code).2)))) then true else (!(ValidDependencies (iMinimalCover ((DrawMinimalCover code).1) ((DrawMinimalCover code).2)) ((DrawMinimalCover code).2)))) ?_ ?_
  ·
   intro h15
   have h15q : (((equalDependencies (iMinimalCover ((DrawMinimalCover code).1) ((DrawMinimalCover code).2)) (MinimalCover ((DrawMinimalCover code).1) ((DrawMinimalCover code).2))) = false) ∨ ((ValidDependencies ((DrawMinimalCover code).1) ((DrawMinimalCover code).2)) = false)) ∨ ((ValidDependencies (iMinimalCover ((DrawMinimalCover code).1) ((DrawMinimalCover code).2)) ((DrawMinimalCover code).2)) = false) := (Or.imp (fun h => (Or.imp (fun h => (Go.Am.not_pos h)) (fun h => (Go.Am.not_pos h)) (Go.Am.or_pos h))) (fun h => (Go.Am.not_pos h)) (Go.Am.or_pos h15))
   have e16 := e4.trans (Go.Am.bif_t h15)
   refine AW.seq (AW.r0 hC [2] [] ⟨[(2, .bool (equalDependencies (iMinimalCover ((DrawMinimalCover code).1) ((DrawMinimalCover code).2)) (MinimalCover ((DrawMinimalCover code).1) ((DrawMinimalCover code).2))))], []⟩ [(True), (True)] ?_ ?_)
   ·
    refine ⟨?_, ?_, trivial⟩
    ·
     trivial
    ·
     trivial
   exact AW.ret (AW.retE (β := Bool) (fun v => [⟨.bool, v⟩]) (fun v => []) (v := (equalDependencies (iMinimalCover ((DrawMinimalCover code).1) ((DrawMinimalCover code).2)) (MinimalCover ((DrawMinimalCover code).1) ((DrawMinimalCover code).2)))) e16 (by kernel_rfl) rfl rfl)
  ·
   intro h17
   have h17q : (((equalDependencies (iMinimalCover ((DrawMinimalCover code).1) ((DrawMinimalCover code).2)) (MinimalCover ((DrawMinimalCover code).1) ((DrawMinimalCover code).2))) = true) ∧ ((ValidDependencies ((DrawMinimalCover code).1) ((DrawMinimalCover code).2)) = true)) ∧ ((ValidDependencies (iMinimalCover ((DrawMinimalCover code).1) ((DrawMinimalCover code).2)) ((DrawMinimalCover code).2)) = true) := (And.imp (fun h => (And.imp (fun h => (Go.Am.not_neg h)) (fun h => (Go.Am.not_neg h)) (Go.Am.or_neg h))) (fun h => (Go.Am.not_neg h)) (Go.Am.or_neg h17))
   have e18 := e4.trans (Go.Am.bif_f h17)
   refine AW.kp [3, 4, 5] [] ⟨[(3, .data (.slice (.named 0)) (((DrawMinimalCover code).1) : List Dep)), (4, .int .i64 ((DrawMinimalCover code).2)), (5, .data (.slice (.named 0)) ((iMinimalCover ((DrawMinimalCover code).1) ((DrawMinimalCover code).2)) : List Dep))], []⟩ ?_
   refine AW.skip (AW.seq (AW.seq ?_))
   have hv := deps_ok h17q.2
   have hv1 := deps_ok h17q.1.2
   refine AW.r1 hC [3, 4, 5, 6] [] ⟨[(3, .data (.slice (.named 0)) (((DrawMinimalCover code).1) : List Dep)), (4, .int .i64 ((DrawMinimalCover code).2)), (5, .data (.slice (.named 0)) ((iMinimalCover ((DrawMinimalCover code).1) ((DrawMinimalCover code).2)) : List Dep)), (6, .int .i64 0)], []⟩ ?_
   refine AW.cutQ (α := Unit) (fun x => ⟨[(3, .data (.slice (.named 0)) (((DrawMinimalCover code).1) : List Dep)), (4, .int .i64 ((DrawMinimalCover code).2)), (5, .data (.slice (.named 0)) ((iMinimalCover ((DrawMinimalCover code).1) ((DrawMinimalCover code).2)) : List Dep))], []⟩) (fun x => (True) ∧ (FnMinimalCover_l0 code ((List.length (iMinimalCover ((DrawMinimalCover code).1) ((DrawMinimalCover code).2))) - 0 + 1) 0) = (.inl ())) ?_ ?_
   ·
    skip
    refine AW.block (AW.loop (α := Nat) (fun x => ⟨[(3, .data (.slice (.named 0)) (((DrawMinimalCover code).1) : List Dep)), (4, .int .i64 ((DrawMinimalCover code).2)), (5, .data (.slice (.named 0)) ((iMinimalCover ((DrawMinimalCover code).1) ((DrawMinimalCover code).2)) : List Dep)), (6, .int .i64 ((x : Nat) : Int))], []⟩) (fun x => (True) ∧ ∃ k, (List.length (iMinimalCover ((DrawMinimalCover code).1) ((DrawMinimalCover code).2))) - x < k ∧ (FnMinimalCover_l0 code ((List.length (iMinimalCover ((DrawMinimalCover code).1) ((DrawMinimalCover code).2))) - 0 + 1) 0) = FnMinimalCover_l0 code k x) (fun x => (List.length (iMinimalCover ((DrawMinimalCover code).1) ((DrawMinimalCover code).2))) - x) 0 (by kernel_rfl) ⟨?_, _, Nat.lt_succ_self _, rfl⟩ ?_)
    ·
     show True
     exact trivial
    ·
     intro i hR
     obtain ⟨hI0, k48, hk46, e47⟩ := hR
     replace hI0 : True := hI0
     replace hk46 : (List.length (iMinimalCover ((DrawMinimalCover code).1) ((DrawMinimalCover code).2))) - i < k48 := hk46
     obtain ⟨k48q, rfl⟩ : ∃ k, k48 = k + 1 := ⟨k48 - 1, by omega⟩
     refine AW.seq (AW.seq (AW.r1 hC [3, 4, 5, 6, 45] [] ⟨[(3, .data (.slice (.named 0)) (((DrawMinimalCover code).1) : List Dep)), (4, .int .i64 ((DrawMinimalCover code).2)), (5, .data (.slice (.named 0)) ((iMinimalCover ((DrawMinimalCover code).1) ((DrawMinimalCover code).2)) : List Dep)), (6, .int .i64 ((i : Nat) : Int)), (45, .bool (decide (((i : Nat) : Int) < ((List.length (iMinimalCover ((DrawMinimalCover code).1) ((DrawMinimalCover code).2)) : Nat) : Int))))], []⟩ ?_))
     refine AW.cd (decide (((i : Nat) : Int) < ((List.length (iMinimalCover ((DrawMinimalCover code).1) ((DrawMinimalCover code).2)) : Nat) : Int))) ?_ ?_
     ·
      intro h49
      have h49q : ((i : Nat) : Int) < ((List.length (iMinimalCover ((DrawMinimalCover code).1) ((DrawMinimalCover code).2)) : Nat) : Int) := (of_decide_eq_true h49)
      have e50 := e47.trans (Go.Am.bif_t h49)
      refine AW.kp [3, 4, 5, 6] [] ⟨[(3, .data (.slice (.named 0)) (((DrawMinimalCover code).1) : List Dep)), (4, .int .i64 ((DrawMinimalCover code).2)), (5, .data (.slice (.named 0)) ((iMinimalCover ((DrawMinimalCover code).1) ((DrawMinimalCover code).2)) : List Dep)), (6, .int .i64 ((i : Nat) : Int))], []⟩ ?_
      refine AW.skip (AW.seq (AW.block (AW.seq (AW.d0 hC hM [3, 4, 5, 6, 84] [] ⟨[(3, .data (.slice (.named 0)) (((DrawMinimalCover code).1) : List Dep)), (4, .int .i64 ((DrawMinimalCover code).2)), (5, .data (.slice (.named 0)) ((iMinimalCover ((DrawMinimalCover code).1) ((DrawMinimalCover code).2)) : List Dep)), (6, .int .i64 ((i : Nat) : Int)), (84, .bool (bif (bif (!(Implies ((DrawMinimalCover code).1) ((DrawMinimalCover code).2) (List.getD (iMinimalCover ((DrawMinimalCover code).1) ((DrawMinimalCover code).2)) i Dep.zero))) then true else ((bits .and .i64 (Dep.To (List.getD (iMinimalCover ((DrawMinimalCover code).1) ((DrawMinimalCover code).2)) i Dep.zero)) ((Dep.To (List.getD (iMinimalCover ((DrawMinimalCover code).1) ((DrawMinimalCover code).2)) i Dep.zero)) - 1)) != 0)) then true else ((bits .and .i64 (Dep.To (List.getD (iMinimalCover ((DrawMinimalCover code).1) ((DrawMinimalCover code).2)) i Dep.zero)) (Dep.From (List.getD (iMinimalCover ((DrawMinimalCover code).1) ((DrawMinimalCover code).2)) i Dep.zero))) != 0)))], []⟩ [(0 ≤ ((i : Nat) : Int) ∧ ((i : Nat) : Int) < ((List.length (iMinimalCover ((DrawMinimalCover code).1) ((DrawMinimalCover code).2)) : Nat) : Int)), (True), (((!(Implies ((DrawMinimalCover code).1) ((DrawMinimalCover code).2) (List.getD (iMinimalCover ((DrawMinimalCover code).1) ((DrawMinimalCover code).2)) i Dep.zero))) = false) → (((!(Implies ((DrawMinimalCover code).1) ((DrawMinimalCover code).2) (List.getD (iMinimalCover ((DrawMinimalCover code).1) ((DrawMinimalCover code).2)) i Dep.zero))) = false))), (((!(Implies ((DrawMinimalCover code).1) ((DrawMinimalCover code).2) (List.getD (iMinimalCover ((DrawMinimalCover code).1) ((DrawMinimalCover code).2)) i Dep.zero))) = false) → (((!(Implies ((DrawMinimalCover code).1) ((DrawMinimalCover code).2) (List.getD (iMinimalCover ((DrawMinimalCover code).1) ((DrawMinimalCover code).2)) i Dep.zero))) = false))), (((!(Implies ((DrawMinimalCover code).1) ((DrawMinimalCover code).2) (List.getD (iMinimalCover ((DrawMinimalCover code).1) ((DrawMinimalCover code).2)) i Dep.zero))) = false) → (0 ≤ ((i : Nat) : Int) ∧ ((i : Nat) : Int) < ((List.length (iMinimalCover ((DrawMinimalCover code).1) ((DrawMinimalCover code).2)) : Nat) : Int))), (((!(Implies ((DrawMinimalCover code).1) ((DrawMinimalCover code).2) (List.getD (iMinimalCover ((DrawMinimalCover code).1) ((DrawMinimalCover code).2)) i Dep.zero))) = false) → (((!(Implies ((DrawMinimalCover code).1) ((DrawMinimalCover code).2) (List.getD (iMinimalCover ((DrawMinimalCover code).1) ((DrawMinimalCover code).2)) i Dep.zero))) = false))), (((!(Implies ((DrawMinimalCover code).1) ((DrawMinimalCover code).2) (List.getD (iMinimalCover ((DrawMinimalCover code).1) ((DrawMinimalCover code).2)) i Dep.zero))) = false) → (((!(Implies ((DrawMinimalCover code).1) ((DrawMinimalCover code).2) (List.getD (iMinimalCover ((DrawMinimalCover code).1) ((DrawMinimalCover code).2)) i Dep.zero))) = false))), (((!(Implies ((DrawMinimalCover code).1) ((DrawMinimalCover code).2) (List.getD (iMinimalCover ((DrawMinimalCover code).1) ((DrawMinimalCover code).2)) i Dep.zero))) = false) → (((!(Implies ((DrawMinimalCover code).1) ((DrawMinimalCover code).2) (List.getD (iMinimalCover ((DrawMinimalCover code).1) ((DrawMinimalCover code).2)) i Dep.zero))) = false))), (((!(Implies ((DrawMinimalCover code).1) ((DrawMinimalCover code).2) (List.getD (iMinimalCover ((DrawMinimalCover code).1) ((DrawMinimalCover code).2)) i Dep.zero))) = false) → (((!(Implies ((DrawMinimalCover code).1) ((DrawMinimalCover code).2) (List.getD (iMinimalCover ((DrawMinimalCover code).1) ((DrawMinimalCover code).2)) i Dep.zero))) = false))), (((!(Implies ((DrawMinimalCover code).1) ((DrawMinimalCover code).2) (List.getD (iMinimalCover ((DrawMinimalCover code).1) ((DrawMinimalCover code).2)) i Dep.zero))) = false) → (0 ≤ ((i : Nat) : Int) ∧ ((i : Nat) : Int) < ((List.length (iMinimalCover ((DrawMinimalCover code).1) ((DrawMinimalCover code).2)) : Nat) : Int))), (((!(Implies ((DrawMinimalCover code).1) ((DrawMinimalCover code).2) (List.getD (iMinimalCover ((DrawMinimalCover code).1) ((DrawMinimalCover code).2)) i Dep.zero))) = false) → (((!(Implies ((DrawMinimalCover code).1) ((DrawMinimalCover code).2) (List.getD (iMinimalCover ((DrawMinimalCover code).1) ((DrawMinimalCover code).2)) i Dep.zero))) = false))), (((!(Implies ((DrawMinimalCover code).1) ((DrawMinimalCover code).2) (List.getD (iMinimalCover ((DrawMinimalCover code).1) ((DrawMinimalCover code).2)) i Dep.zero))) = false) → (((!(Implies ((DrawMinimalCover code).1) ((DrawMinimalCover code).2) (List.getD (iMinimalCover ((DrawMinimalCover code).1) ((DrawMinimalCover code).2)) i Dep.zero))) = false))), (((!(Implies ((DrawMinimalCover code).1) ((DrawMinimalCover code).2) (List.getD (iMinimalCover ((DrawMinimalCover code).1) ((DrawMinimalCover code).2)) i Dep.zero))) = false) → (((!(Implies ((DrawMinimalCover code).1) ((DrawMinimalCover code).2) (List.getD (iMinimalCover ((DrawMinimalCover code).1) ((DrawMinimalCover code).2)) i Dep.zero))) = false))), (((!(Implies ((DrawMinimalCover code).1) ((DrawMinimalCover code).2) (List.getD (iMinimalCover ((DrawMinimalCover code).1) ((DrawMinimalCover code).2)) i Dep.zero))) = false) → (-9223372036854775808 ≤ ((Dep.To (List.getD (iMinimalCover ((DrawMinimalCover code).1) ((DrawMinimalCover code).2)) i Dep.zero)) - 1) ∧ ((Dep.To (List.getD (iMinimalCover ((DrawMinimalCover code).1) ((DrawMinimalCover code).2)) i Dep.zero)) - 1) ≤ 9223372036854775807)), (((!(Implies ((DrawMinimalCover code).1) ((DrawMinimalCover code).2) (List.getD (iMinimalCover ((DrawMinimalCover code).1) ((DrawMinimalCover code).2)) i Dep.zero))) = false) → (((!(Implies ((DrawMinimalCover code).1) ((DrawMinimalCover code).2) (List.getD (iMinimalCover ((DrawMinimalCover code).1) ((DrawMinimalCover code).2)) i Dep.zero))) = false))), (((!(Implies ((DrawMinimalCover code).1) ((DrawMinimalCover code).2) (List.getD (iMinimalCover ((DrawMinimalCover code).1) ((DrawMinimalCover code).2)) i Dep.zero))) = false) → (((!(Implies ((DrawMinimalCover code).1) ((DrawMinimalCover code).2) (List.getD (iMinimalCover ((DrawMinimalCover code).1) ((DrawMinimalCover code).2)) i Dep.zero))) = false))), (((!(Implies ((DrawMinimalCover code).1) ((DrawMinimalCover code).2) (List.getD (iMinimalCover ((DrawMinimalCover code).1) ((DrawMinimalCover code).2)) i Dep.zero))) = false) → (((!(Implies ((DrawMinimalCover code).1) ((DrawMinimalCover code).2) (List.getD (iMinimalCover ((DrawMinimalCover code).1) ((DrawMinimalCover code).2)) i Dep.zero))) = false))), (((!(Implies ((DrawMinimalCover code).1) ((DrawMinimalCover code).2) (List.getD (iMinimalCover ((DrawMinimalCover code).1) ((DrawMinimalCover code).2)) i Dep.zero))) = false) → (((!(Implies ((DrawMinimalCover code).1) ((DrawMinimalCover code).2) (List.getD (iMinimalCover ((DrawMinimalCover code).1) ((DrawMinimalCover code).2)) i Dep.zero))) = false))), (((bif (!(Implies ((DrawMinimalCover code).1) ((DrawMinimalCover code).2) (List.getD (iMinimalCover ((DrawMinimalCover code).1) ((DrawMinimalCover code).2)) i Dep.zero))) then true else ((bits .and .i64 (Dep.To (List.getD (iMinimalCover ((DrawMinimalCover code).1) ((DrawMinimalCover code).2)) i Dep.zero)) ((Dep.To (List.getD (iMinimalCover ((DrawMinimalCover code).1) ((DrawMinimalCover code).2)) i Dep.zero)) - 1)) != 0)) = false) → (((bif (!(Implies ((DrawMinimalCover code).1) ((DrawMinimalCover code).2) (List.getD (iMinimalCover ((DrawMinimalCover code).1) ((DrawMinimalCover code).2)) i Dep.zero))) then true else ((bits .and .i64 (Dep.To (List.getD (iMinimalCover ((DrawMinimalCover code).1) ((DrawMinimalCover code).2)) i Dep.zero)) ((Dep.To (List.getD (iMinimalCover ((DrawMinimalCover code).1) ((DrawMinimalCover code).2)) i Dep.zero)) - 1)) != 0)) = false))), (((bif (!(Implies ((DrawMinimalCover code).1) ((DrawMinimalCover code).2) (List.getD (iMinimalCover ((DrawMinimalCover code).1) ((DrawMinimalCover code).2)) i Dep.zero))) then true else ((bits .and .i64 (Dep.To (List.getD (iMinimalCover ((DrawMinimalCover code).1) ((DrawMinimalCover code).2)) i Dep.zero)) ((Dep.To (List.getD (iMinimalCover ((DrawMinimalCover code).1) ((DrawMinimalCover code).2)) i Dep.zero)) - 1)) != 0)) = false) → (((bif (!(Implies ((DrawMinimalCover code).1) ((DrawMinimalCover code).2) (List.getD (iMinimalCover ((DrawMinimalCover code).1) ((DrawMinimalCover code).2)) i Dep.zero))) then true else ((bits .and .i64 (Dep.To (List.getD (iMinimalCover ((DrawMinimalCover code).1) ((DrawMinimalCover code).2)) i Dep.zero)) ((Dep.To (List.getD (iMinimalCover ((DrawMinimalCover code).1) ((DrawMinimalCover code).2)) i Dep.zero)) - 1)) != 0)) = false))), (((bif (!(Implies ((DrawMinimalCover code).1) ((DrawMinimalCover code).2) (List.getD (iMinimalCover ((DrawMinimalCover code).1) ((DrawMinimalCover code).2)) i Dep.zero))) then true else ((bits .and .i64 (Dep.To (List.getD (iMinimalCover ((DrawMinimalCover code).1) ((DrawMinimalCover code).2)) i Dep.zero)) ((Dep.To (List.getD (iMinimalCover ((DrawMinimalCover code).1) ((DrawMinimalCover code).2)) i Dep.zero)) - 1)) != 0)) = false) → (0 ≤ ((i : Nat) : Int) ∧ ((i : Nat) : Int) < ((List.length (iMinimalCover ((DrawMinimalCover code).1) ((DrawMinimalCover code).2)) : Nat) : Int))), (((bif (!(Implies ((DrawMinimalCover code).1) ((DrawMinimalCover code).2) (List.getD (iMinimalCover ((DrawMinimalCover code).1) ((DrawMinimalCover code).2)) i Dep.zero))) then true else ((bits .and .i64 (Dep.To (List.getD (iMinimalCover ((DrawMinimalCover code).1) ((DrawMinimalCover code).2)) i Dep.zero)) ((Dep.To (List.getD (iMinimalCover ((DrawMinimalCover code).1) ((DrawMinimalCover code).2)) i Dep.zero)) - 1)) != 0)) = false) → (((bif (!(Implies ((DrawMinimalCover code).1) ((DrawMinimalCover code).2) (List.getD (iMinimalCover ((DrawMinimalCover code).1) ((DrawMinimalCover code).2)) i Dep.zero))) then true else ((bits .and .i64 (Dep.To (List.getD (iMinimalCover ((DrawMinimalCover code).1) ((DrawMinimalCover code).2)) i Dep.zero)) ((Dep.To (List.getD (iMinimalCover ((DrawMinimalCover code).1) ((DrawMinimalCover code).2)) i Dep.zero)) - 1)) != 0)) = false))), (((bif (!(Implies ((DrawMinimalCover code).1) ((DrawMinimalCover code).2) (List.getD (iMinimalCover ((DrawMinimalCover code).1) ((DrawMinimalCover code).2)) i Dep.zero))) then true else ((bits .and .i64 (Dep.To (List.getD (iMinimalCover ((DrawMinimalCover code).1) ((DrawMinimalCover code).2)) i Dep.zero)) ((Dep.To (List.getD (iMinimalCover ((DrawMinimalCover code).1) ((DrawMinimalCover code).2)) i Dep.zero)) - 1)) != 0)) = false) → (((bif (!(Implies ((DrawMinimalCover code).1) ((DrawMinimalCover code).2) (List.getD (iMinimalCover ((DrawMinimalCover code).1) ((DrawMinimalCover code).2)) i Dep.zero))) then true else ((bits .and .i64 (Dep.To (List.getD (iMinimalCover ((DrawMinimalCover code).1) ((DrawMinimalCover code).2)) i Dep.zero)) ((Dep.To (List.getD (iMinimalCover ((DrawMinimalCover code).1) ((DrawMinimalCover code).2)) i Dep.zero)) - 1)) != 0)) = false))), (((bif (!(Implies ((DrawMinimalCover code).1) ((DrawMinimalCover code).2) (List.getD (iMinimalCover ((DrawMinimalCover code).1) ((DrawMinimalCover code).2)) i Dep.zero))) then true else ((bits .and .i64 (Dep.To (List.getD (iMinimalCover ((DrawMinimalCover code).1) ((DrawMinimalCover code).2)) i Dep.zero)) ((Dep.To (List.getD (iMinimalCover ((DrawMinimalCover code).1) ((DrawMinimalCover code).2)) i Dep.zero)) - 1)) != 0)) = false) → (((bif (!(Implies ((DrawMinimalCover code).1) ((DrawMinimalCover code).2) (List.getD (iMinimalCover ((DrawMinimalCover code).1) ((DrawMinimalCover code).2)) i Dep.zero))) then true else ((bits .and .i64 (Dep.To (List.getD (iMinimalCover ((DrawMinimalCover code).1) ((DrawMinimalCover code).2)) i Dep.zero)) ((Dep.To (List.getD (iMinimalCover ((DrawMinimalCover code).1) ((DrawMinimalCover code).2)) i Dep.zero)) - 1)) != 0)) = false))), (((bif (!(Implies ((DrawMinimalCover code).1) ((DrawMinimalCover code).2) (List.getD (iMinimalCover ((DrawMinimalCover code).1) ((DrawMinimalCover code).2)) i Dep.zero))) then true else ((bits .and .i64 (Dep.To (List.getD (iMinimalCover ((DrawMinimalCover code).1) ((DrawMinimalCover code).2)) i Dep.zero)) ((Dep.To (List.getD (iMinimalCover ((DrawMinimalCover code).1) ((DrawMinimalCover code).2)) i Dep.zero)) - 1)) != 0)) = false) → (((bif (!(Implies ((DrawMinimalCover code).1) ((DrawMinimalCover code).2) (List.getD (iMinimalCover ((DrawMinimalCover code).1) ((DrawMinimalCover code).2)) i Dep.zero))) then true else ((bits .and .i64 (Dep.To (List.getD (iMinimalCover ((DrawMinimalCover code).1) ((DrawMinimalCover code).2)) i Dep.zero)) ((Dep.To (List.getD (iMinimalCover ((DrawMinimalCover code).1) ((DrawMinimalCover code).2)) i Dep.zero)) - 1)) != 0)) = false))), (((bif (!(Implies ((DrawMinimalCover code).1) ((DrawMinimalCover code).2) (List.getD (iMinimalCover ((DrawMinimalCover code).1) ((DrawMinimalCover code).2)) i Dep.zero))) then true else ((bits .and .i64 (Dep.To (List.getD (iMinimalCover ((DrawMinimalCover code).1) ((DrawMinimalCover code).2)) i Dep.zero)) ((Dep.To (List.getD (iMinimalCover ((DrawMinimalCover code).1) ((DrawMinimalCover code).2)) i Dep.zero)) - 1)) != 0)) = false) → (0 ≤ ((i : Nat) : Int) ∧ ((i : Nat) : Int) < ((List.length (iMinimalCover ((DrawMinimalCover code).1) ((DrawMinimalCover code).2)) : Nat) : Int))), (((bif (!(Implies ((DrawMinimalCover code).1) ((DrawMinimalCover code).2) (List.getD (iMinimalCover ((DrawMinimalCover code).1) ((DrawMinimalCover code).2)) i Dep.zero))) then true else ((bits .and .i64 (Dep.To (List.getD (iMinimalCover ((DrawMinimalCover code).1) ((DrawMinimalCover code).2)) i Dep.zero)) ((Dep.To (List.getD (iMinimalCover ((DrawMinimalCover code).1) ((DrawMinimalCover code).2)) i Dep.zero)) - 1)) != 0)) = false) → (((bif (!(Implies ((DrawMinimalCover code).1) ((DrawMinimalCover code).2) (List.getD (iMinimalCover ((DrawMinimalCover code).1) ((DrawMinimalCover code).2)) i Dep.zero))) then true else ((bits .and .i64 (Dep.To (List.getD (iMinimalCover ((DrawMinimalCover code).1) ((DrawMinimalCover code).2)) i Dep.zero)) ((Dep.To (List.getD (iMinimalCover ((DrawMinimalCover code).1) ((DrawMinimalCover code).2)) i Dep.zero)) - 1)) != 0)) = false))), (((bif (!(Implies ((DrawMinimalCover code).1) ((DrawMinimalCover code).2) (List.getD (iMinimalCover ((DrawMinimalCover code).1) ((DrawMinimalCover code).2)) i Dep.zero))) then true else ((bits .and .i64 (Dep.To (List.getD (iMinimalCover ((DrawMinimalCover code).1) ((DrawMinimalCover code).2)) i Dep.zero)) ((Dep.To (List.getD (iMinimalCover ((DrawMinimalCover code).1) ((DrawMinimalCover code).2)) i Dep.zero)) - 1)) != 0)) = false) → (((bif (!(Implies ((DrawMinimalCover code).1) ((DrawMinimalCover code).2) (List.getD (iMinimalCover ((DrawMinimalCover code).1) ((DrawMinimalCover code).2)) i Dep.zero))) then true else ((bits .and .i64 (Dep.To (List.getD (iMinimalCover ((DrawMinimalCover code).1) ((DrawMinimalCover code).2)) i Dep.zero)) ((Dep.To (List.getD (iMinimalCover ((DrawMinimalCover code).1) ((DrawMinimalCover code).2)) i Dep.zero)) - 1)) != 0)) = false))), (((bif (!(Implies ((DrawMinimalCover code).1) ((DrawMinimalCover code).2) (List.getD (iMinimalCover ((DrawMinimalCover code).1) ((DrawMinimalCover code).2)) i Dep.zero))) then true else ((bits .and .i64 (Dep.To (List.getD (iMinimalCover ((DrawMinimalCover code).1) ((DrawMinimalCover code).2)) i Dep.zero)) ((Dep.To (List.getD (iMinimalCover ((DrawMinimalCover code).1) ((DrawMinimalCover code).2)) i Dep.zero)) - 1)) != 0)) = false) → (((bif (!(Implies ((DrawMinimalCover code).1) ((DrawMinimalCover code).2) (List.getD (iMinimalCover ((DrawMinimalCover code).1) ((DrawMinimalCover code).2)) i Dep.zero))) then true else ((bits .and .i64 (Dep.To (List.getD (iMinimalCover ((DrawMinimalCover code).1) ((DrawMinimalCover code).2)) i Dep.zero)) ((Dep.To (List.getD (iMinimalCover ((DrawMinimalCover code).1) ((DrawMinimalCover code).2)) i Dep.zero)) - 1)) != 0)) = false))), (((bif (!(Implies ((DrawMinimalCover code).1) ((DrawMinimalCover code).2) (List.getD (iMinimalCover ((DrawMinimalCover code).1) ((DrawMinimalCover code).2)) i Dep.zero))) then true else ((bits .and .i64 (Dep.To (List.getD (iMinimalCover ((DrawMinimalCover code).1) ((DrawMinimalCover code).2)) i Dep.zero)) ((Dep.To (List.getD (iMinimalCover ((DrawMinimalCover code).1) ((DrawMinimalCover code).2)) i Dep.zero)) - 1)) != 0)) = false) → (((bif (!(Implies ((DrawMinimalCover code).1) ((DrawMinimalCover code).2) (List.getD (iMinimalCover ((DrawMinimalCover code).1) ((DrawMinimalCover code).2)) i Dep.zero))) then true else ((bits .and .i64 (Dep.To (List.getD (iMinimalCover ((DrawMinimalCover code).1) ((DrawMinimalCover code).2)) i Dep.zero)) ((Dep.To (List.getD (iMinimalCover ((DrawMinimalCover code).1) ((DrawMinimalCover code).2)) i Dep.zero)) - 1)) != 0)) = false))), (((bif (!(Implies ((DrawMinimalCover code).1) ((DrawMinimalCover code).2) (List.getD (iMinimalCover ((DrawMinimalCover code).1) ((DrawMinimalCover code).2)) i Dep.zero))) then true else ((bits .and .i64 (Dep.To (List.getD (iMinimalCover ((DrawMinimalCover code).1) ((DrawMinimalCover code).2)) i Dep.zero)) ((Dep.To (List.getD (iMinimalCover ((DrawMinimalCover code).1) ((DrawMinimalCover code).2)) i Dep.zero)) - 1)) != 0)) = false) → (((bif (!(Implies ((DrawMinimalCover code).1) ((DrawMinimalCover code).2) (List.getD (iMinimalCover ((DrawMinimalCover code).1) ((DrawMinimalCover code).2)) i Dep.zero))) then true else ((bits .and .i64 (Dep.To (List.getD (iMinimalCover ((DrawMinimalCover code).1) ((DrawMinimalCover code).2)) i Dep.zero)) ((Dep.To (List.getD (iMinimalCover ((DrawMinimalCover code).1) ((DrawMinimalCover code).2)) i Dep.zero)) - 1)) != 0)) = false))), (((bif (!(Implies ((DrawMinimalCover code).1) ((DrawMinimalCover code).2) (List.getD (iMinimalCover ((DrawMinimalCover code).1) ((DrawMinimalCover code).2)) i Dep.zero))) then true else ((bits .and .i64 (Dep.To (List.getD (iMinimalCover ((DrawMinimalCover code).1) ((DrawMinimalCover code).2)) i Dep.zero)) ((Dep.To (List.getD (iMinimalCover ((DrawMinimalCover code).1) ((DrawMinimalCover code).2)) i Dep.zero)) - 1)) != 0)) = false) → (((bif (!(Implies ((DrawMinimalCover code).1) ((DrawMinimalCover code).2) (List.getD (iMinimalCover ((DrawMinimalCover code).1) ((DrawMinimalCover code).2)) i Dep.zero))) then true else ((bits .and .i64 (Dep.To (List.getD (iMinimalCover ((DrawMinimalCover code).1) ((DrawMinimalCover code).2)) i Dep.zero)) ((Dep.To (List.getD (iMinimalCover ((DrawMinimalCover code).1) ((DrawMinimalCover code).2)) i Dep.zero)) - 1)) != 0)) = false)))] ?_ ?_))))
      ·
       refine ⟨?_, ?_, ?_, ?_, ?_, ?_, ?_, ?_, ?_, ?_, ?_, ?_, ?_, ?_, ?_, ?_, ?_, ?_, ?_, ?_, ?_, ?_, ?_, ?_, ?_, ?_, ?_, ?_, ?_, ?_, ?_, ?_, trivial⟩
       ·
        omega
       ·
        trivial
       ·
        intro g51
        have g51p0 : (Implies ((DrawMinimalCover code).1) ((DrawMinimalCover code).2) (List.getD (iMinimalCover ((DrawMinimalCover code).1) ((DrawMinimalCover code).2)) i Dep.zero)) = true := (Go.Am.not_neg g51)
        assumption
       ·
        intro g52
        have g52p0 : (Implies ((DrawMinimalCover code).1) ((DrawMinimalCover code).2) (List.getD (iMinimalCover ((DrawMinimalCover code).1) ((DrawMinimalCover code).2)) i Dep.zero)) = true := (Go.Am.not_neg g52)
        assumption
       ·
        intro g53
        have g53p0 : (Implies ((DrawMinimalCover code).1) ((DrawMinimalCover code).2) (List.getD (iMinimalCover ((DrawMinimalCover code).1) ((DrawMinimalCover code).2)) i Dep.zero)) = true := (Go.Am.not_neg g53)
        omega
       ·
        intro g54
        have g54p0 : (Implies ((DrawMinimalCover code).1) ((DrawMinimalCover code).2) (List.getD (iMinimalCover ((DrawMinimalCover code).1) ((DrawMinimalCover code).2)) i Dep.zero)) = true := (Go.Am.not_neg g54)
        assumption
       ·
        intro g55
        have g55p0 : (Implies ((DrawMinimalCover code).1) ((DrawMinimalCover code).2) (List.getD (iMinimalCover ((DrawMinimalCover code).1) ((DrawMinimalCover code).2)) i Dep.zero)) = true := (Go.Am.not_neg g55)
        assumption
       ·
        intro g56
        have g56p0 : (Implies ((DrawMinimalCover code).1) ((DrawMinimalCover code).2) (List.getD (iMinimalCover ((DrawMinimalCover code).1) ((DrawMinimalCover code).2)) i Dep.zero)) = true := (Go.Am.not_neg g56)
        assumption
       ·
        intro g57
        have g57p0 : (Implies ((DrawMinimalCover code).1) ((DrawMinimalCover code).2) (List.getD (iMinimalCover ((DrawMinimalCover code).1) ((DrawMinimalCover code).2)) i Dep.zero)) = true := (Go.Am.not_neg g57)
        assumption
       ·
        intro g58
        have g58p0 : (Implies ((DrawMinimalCover code).1) ((DrawMinimalCover code).2) (List.getD (iMinimalCover ((DrawMinimalCover code).1) ((DrawMinimalCover code).2)) i Dep.zero)) = true := (Go.Am.not_neg g58)
        omega
       ·
        intro g59
        have g59p0 : (Implies ((DrawMinimalCover code).1) ((DrawMinimalCover code).2) (List.getD (iMinimalCover ((DrawMinimalCover code).1) ((DrawMinimalCover code).2)) i Dep.zero)) = true := (Go.Am.not_neg g59)
        assumption
       ·
        intro g60
        have g60p0 : (Implies ((DrawMinimalCover code).1) ((DrawMinimalCover code).2) (List.getD (iMinimalCover ((DrawMinimalCover code).1) ((DrawMinimalCover code).2)) i Dep.zero)) = true := (Go.Am.not_neg g60)
        assumption
       ·
        intro g61
        have g61p0 : (Implies ((DrawMinimalCover code).1) ((DrawMinimalCover code).2) (List.getD (iMinimalCover ((DrawMinimalCover code).1) ((DrawMinimalCover code).2)) i Dep.zero)) = true := (Go.Am.not_neg g61)
        assumption
       ·
        intro g62
        have g62p0 : (Implies ((DrawMinimalCover code).1) ((DrawMinimalCover code).2) (List.getD (iMinimalCover ((DrawMinimalCover code).1) ((DrawMinimalCover code).2)) i Dep.zero)) = true := (Go.Am.not_neg g62)
        have hq := hv.2.2.at (i := i) (by omega); omega
       ·
        intro g63
        have g63p0 : (Implies ((DrawMinimalCover code).1) ((DrawMinimalCover code).2) (List.getD (iMinimalCover ((DrawMinimalCover code).1) ((DrawMinimalCover code).2)) i Dep.zero)) = true := (Go.Am.not_neg g63)
        assumption
       ·
        intro g64
        have g64p0 : (Implies ((DrawMinimalCover code).1) ((DrawMinimalCover code).2) (List.getD (iMinimalCover ((DrawMinimalCover code).1) ((DrawMinimalCover code).2)) i Dep.zero)) = true := (Go.Am.not_neg g64)
        assumption
       ·
        intro g65
        have g65p0 : (Implies ((DrawMinimalCover code).1) ((DrawMinimalCover code).2) (List.getD (iMinimalCover ((DrawMinimalCover code).1) ((DrawMinimalCover code).2)) i Dep.zero)) = true := (Go.Am.not_neg g65)
        assumption
       ·
        intro g66
        have g66p0 : (Implies ((DrawMinimalCover code).1) ((DrawMinimalCover code).2) (List.getD (iMinimalCover ((DrawMinimalCover code).1) ((DrawMinimalCover code).2)) i Dep.zero)) = true := (Go.Am.not_neg g66)
        assumption
       ·
        intro g67
        have g67p0 : ((Implies ((DrawMinimalCover code).1) ((DrawMinimalCover code).2) (List.getD (iMinimalCover ((DrawMinimalCover code).1) ((DrawMinimalCover code).2)) i Dep.zero)) = true) ∧ ((bits .and .i64 (Dep.To (List.getD (iMinimalCover ((DrawMinimalCover code).1) ((DrawMinimalCover code).2)) i Dep.zero)) ((Dep.To (List.getD (iMinimalCover ((DrawMinimalCover code).1) ((DrawMinimalCover code).2)) i Dep.zero)) - 1)) = 0) := (And.imp (fun h => (Go.Am.not_neg h)) (fun h => (Go.Am.bne_neg h)) (Go.Am.or_neg g67))
        assumption
       ·
        intro g68
        have g68p0 : ((Implies ((DrawMinimalCover code).1) ((DrawMinimalCover code).2) (List.getD (iMinimalCover ((DrawMinimalCover code).1) ((DrawMinimalCover code).2)) i Dep.zero)) = true) ∧ ((bits .and .i64 (Dep.To (List.getD (iMinimalCover ((DrawMinimalCover code).1) ((DrawMinimalCover code).2)) i Dep.zero)) ((Dep.To (List.getD (iMinimalCover ((DrawMinimalCover code).1) ((DrawMinimalCover code).2)) i Dep.zero)) - 1)) = 0) := (And.imp (fun h => (Go.Am.not_neg h)) (fun h => (Go.Am.bne_neg h)) (Go.Am.or_neg g68))
        assumption
       ·
        intro g69
        have g69p0 : ((Implies ((DrawMinimalCover code).1) ((DrawMinimalCover code).2) (List.getD (iMinimalCover ((DrawMinimalCover code).1) ((DrawMinimalCover code).2)) i Dep.zero)) = true) ∧ ((bits .and .i64 (Dep.To (List.getD (iMinimalCover ((DrawMinimalCover code).1) ((DrawMinimalCover code).2)) i Dep.zero)) ((Dep.To (List.getD (iMinimalCover ((DrawMinimalCover code).1) ((DrawMinimalCover code).2)) i Dep.zero)) - 1)) = 0) := (And.imp (fun h => (Go.Am.not_neg h)) (fun h => (Go.Am.bne_neg h)) (Go.Am.or_neg g69))
        omega
       ·
        intro g70
        have g70p0 : ((Implies ((DrawMinimalCover code).1) ((DrawMinimalCover code).2) (List.getD (iMinimalCover ((DrawMinimalCover code).1) ((DrawMinimalCover code).2)) i Dep.zero)) = true) ∧ ((bits .and .i64 (Dep.To (List.getD (iMinimalCover ((DrawMinimalCover code).1) ((DrawMinimalCover code).2)) i Dep.zero)) ((Dep.To (List.getD (iMinimalCover ((DrawMinimalCover code).1) ((DrawMinimalCover code).2)) i Dep.zero)) - 1)) = 0) := (And.imp (fun h => (Go.Am.not_neg h)) (fun h => (Go.Am.bne_neg h)) (Go.Am.or_neg g70))
        assumption
       ·
        intro g71
        have g71p0 : ((Implies ((DrawMinimalCover code).1) ((DrawMinimalCover code).2) (List.getD (iMinimalCover ((DrawMinimalCover code).1) ((DrawMinimalCover code).2)) i Dep.zero)) = true) ∧ ((bits .and .i64 (Dep.To (List.getD (iMinimalCover ((DrawMinimalCover code).1) ((DrawMinimalCover code).2)) i Dep.zero)) ((Dep.To (List.getD (iMinimalCover ((DrawMinimalCover code).1) ((DrawMinimalCover code).2)) i Dep.zero)) - 1)) = 0) := (And.imp (fun h => (Go.Am.not_neg h)) (fun h => (Go.Am.bne_neg h)) (Go.Am.or_neg g71))
        assumption
       ·
        intro g72
        have g72p0 : ((Implies ((DrawMinimalCover code).1) ((DrawMinimalCover code).2) (List.getD (iMinimalCover ((DrawMinimalCover code).1) ((DrawMinimalCover code).2)) i Dep.zero)) = true) ∧ ((bits .and .i64 (Dep.To (List.getD (iMinimalCover ((DrawMinimalCover code).1) ((DrawMinimalCover code).2)) i Dep.zero)) ((Dep.To (List.getD (iMinimalCover ((DrawMinimalCover code).1) ((DrawMinimalCover code).2)) i Dep.zero)) - 1)) = 0) := (And.imp (fun h => (Go.Am.not_neg h)) (fun h => (Go.Am.bne_neg h)) (Go.Am.or_neg g72))
        assumption
       ·
        intro g73
        have g73p0 : ((Implies ((DrawMinimalCover code).1) ((DrawMinimalCover code).2) (List.getD (iMinimalCover ((DrawMinimalCover code).1) ((DrawMinimalCover code).2)) i Dep.zero)) = true) ∧ ((bits .and .i64 (Dep.To (List.getD (iMinimalCover ((DrawMinimalCover code).1) ((DrawMinimalCover code).2)) i Dep.zero)) ((Dep.To (List.getD (iMinimalCover ((DrawMinimalCover code).1) ((DrawMinimalCover code).2)) i Dep.zero)) - 1)) = 0) := (And.imp (fun h => (Go.Am.not_neg h)) (fun h => (Go.Am.bne_neg h)) (Go.Am.or_neg g73))
        assumption
       ·
        intro g74
        have g74p0 : ((Implies ((DrawMinimalCover code).1) ((DrawMinimalCover code).2) (List.getD (iMinimalCover ((DrawMinimalCover code).1) ((DrawMinimalCover code).2)) i Dep.zero)) = true) ∧ ((bits .and .i64 (Dep.To (List.getD (iMinimalCover ((DrawMinimalCover code).1) ((DrawMinimalCover code).2)) i Dep.zero)) ((Dep.To (List.getD (iMinimalCover ((DrawMinimalCover code).1) ((DrawMinimalCover code).2)) i Dep.zero)) - 1)) = 0) := (And.imp (fun h => (Go.Am.not_neg h)) (fun h => (Go.Am.bne_neg h)) (Go.Am.or_neg g74))
        omega
       ·
        intro g75
        have g75p0 : ((Implies ((DrawMinimalCover code).1) ((DrawMinimalCover code).2) (List.getD (iMinimalCover ((DrawMinimalCover code).1) ((DrawMinimalCover code).2)) i Dep.zero)) = true) ∧ ((bits .and .i64 (Dep.To (List.getD (iMinimalCover ((DrawMinimalCover code).1) ((DrawMinimalCover code).2)) i Dep.zero)) ((Dep.To (List.getD (iMinimalCover ((DrawMinimalCover code).1) ((DrawMinimalCover code).2)) i Dep.zero)) - 1)) = 0) := (And.imp (fun h => (Go.Am.not_neg h)) (fun h => (Go.Am.bne_neg h)) (Go.Am.or_neg g75))
        assumption
       ·
        intro g76
        have g76p0 : ((Implies ((DrawMinimalCover code).1) ((DrawMinimalCover code).2) (List.getD (iMinimalCover ((DrawMinimalCover code).1) ((DrawMinimalCover code).2)) i Dep.zero)) = true) ∧ ((bits .and .i64 (Dep.To (List.getD (iMinimalCover ((DrawMinimalCover code).1) ((DrawMinimalCover code).2)) i Dep.zero)) ((Dep.To (List.getD (iMinimalCover ((DrawMinimalCover code).1) ((DrawMinimalCover code).2)) i Dep.zero)) - 1)) = 0) := (And.imp (fun h => (Go.Am.not_neg h)) (fun h => (Go.Am.bne_neg h)) (Go.Am.or_neg g76))
        assumption
       ·
        intro g77
        have g77p0 : ((Implies ((DrawMinimalCover code).1) ((DrawMinimalCover code).2) (List.getD (iMinimalCover ((DrawMinimalCover code).1) ((DrawMinimalCover code).2)) i Dep.zero)) = true) ∧ ((bits .and .i64 (Dep.To (List.getD (iMinimalCover ((DrawMinimalCover code).1) ((DrawMinimalCover code).2)) i Dep.zero)) ((Dep.To (List.getD (iMinimalCover ((DrawMinimalCover code).1) ((DrawMinimalCover code).2)) i Dep.zero)) - 1)) = 0) := (And.imp (fun h => (Go.Am.not_neg h)) (fun h => (Go.Am.bne_neg h)) (Go.Am.or_neg g77))
        assumption
       ·
        intro g78
        have g78p0 : ((Implies ((DrawMinimalCover code).1) ((DrawMinimalCover code).2) (List.getD (iMinimalCover ((DrawMinimalCover code).1) ((DrawMinimalCover code).2)) i Dep.zero)) = true) ∧ ((bits .and .i64 (Dep.To (List.getD (iMinimalCover ((DrawMinimalCover code).1) ((DrawMinimalCover code).2)) i Dep.zero)) ((Dep.To (List.getD (iMinimalCover ((DrawMinimalCover code).1) ((DrawMinimalCover code).2)) i Dep.zero)) - 1)) = 0) := (And.imp (fun h => (Go.Am.not_neg h)) (fun h => (Go.Am.bne_neg h)) (Go.Am.or_neg g78))
        assumption
       ·
        intro g79
        have g79p0 : ((Implies ((DrawMinimalCover code).1) ((DrawMinimalCover code).2) (List.getD (iMinimalCover ((DrawMinimalCover code).1) ((DrawMinimalCover code).2)) i Dep.zero)) = true) ∧ ((bits .and .i64 (Dep.To (List.getD (iMinimalCover ((DrawMinimalCover code).1) ((DrawMinimalCover code).2)) i Dep.zero)) ((Dep.To (List.getD (iMinimalCover ((DrawMinimalCover code).1) ((DrawMinimalCover code).2)) i Dep.zero)) - 1)) = 0) := (And.imp (fun h => (Go.Am.not_neg h)) (fun h => (Go.Am.bne_neg h)) (Go.Am.or_neg g79))
        assumption
       ·
        intro g80
        have g80p0 : ((Implies ((DrawMinimalCover code).1) ((DrawMinimalCover code).2) (List.getD (iMinimalCover ((DrawMinimalCover code).1) ((DrawMinimalCover code).2)) i Dep.zero)) = true) ∧ ((bits .and .i64 (Dep.To (List.getD (iMinimalCover ((DrawMinimalCover code).1) ((DrawMinimalCover code).2)) i Dep.zero)) ((Dep.To (List.getD (iMinimalCover ((DrawMinimalCover code).1) ((DrawMinimalCover code).2)) i Dep.zero)) - 1)) = 0) := (And.imp (fun h => (Go.Am.not_neg h)) (fun h => (Go.Am.bne_neg h)) (Go.Am.or_neg g80))
        assumption
      refine AW.cd (bif (bif (!(Implies ((DrawMinimalCover code).1) ((DrawMinimalCover code).2) (List.getD (iMinimalCover ((DrawMinimalCover code).1) ((DrawMinimalCover code).2)) i Dep.zero))) then true else ((bits .and .i64 (Dep.To (List.getD (iMinimalCover ((DrawMinimalCover code).1) ((DrawMinimalCover code).2)) i Dep.zero)) ((Dep.To (List.getD (iMinimalCover ((DrawMinimalCover code).1) ((DrawMinimalCover code).2)) i Dep.zero)) - 1)) != 0)) then true else ((bits .and .i64 (Dep.To (List.getD (iMinimalCover ((DrawMinimalCover code).1) ((DrawMinimalCover code).2)) i Dep.zero)) (Dep.From (List.getD (iMinimalCover ((DrawMinimalCover code).1) ((DrawMinimalCover code).2)) i Dep.zero))) != 0)) ?_ ?_
      ·
       intro h81
       have h81q : (((Implies ((DrawMinimalCover code).1) ((DrawMinimalCover code).2) (List.getD (iMinimalCover ((DrawMinimalCover code).1) ((DrawMinimalCover code).2)) i Dep.zero)) = false) ∨ ((bits .and .i64 (Dep.To (List.getD (iMinimalCover ((DrawMinimalCover code).1) ((DrawMinimalCover code).2)) i Dep.zero)) ((Dep.To (List.getD (iMinimalCover ((DrawMinimalCover code).1) ((DrawMinimalCover code).2)) i Dep.zero)) - 1)) ≠ 0)) ∨ ((bits .and .i64 (Dep.To (List.getD (iMinimalCover ((DrawMinimalCover code).1) ((DrawMinimalCover code).2)) i Dep.zero)) (Dep.From (List.getD (iMinimalCover ((DrawMinimalCover code).1) ((DrawMinimalCover code).2)) i Dep.zero))) ≠ 0) := (Or.imp (fun h => (Or.imp (fun h => (Go.Am.not_pos h)) (fun h => (Go.Am.bne_pos h)) (Go.Am.or_pos h))) (fun h => (Go.Am.bne_pos h)) (Go.Am.or_pos h81))
       have e82 := e50.trans (Go.Am.bif_t h81)
       refine AW.seq (AW.r1 hC [2] [] ⟨[(2, .bool false)], []⟩ ?_)
       refine AW.ret ?_
       have e83 := e18.trans (Go.Am.elim_r e82)
       exact AW.retE (β := Bool) (fun v => [⟨.bool, v⟩]) (fun v => []) (v := false) e83 (by kernel_rfl) rfl rfl
      ·
       intro h84
       have h84q : (((Implies ((DrawMinimalCover code).1) ((DrawMinimalCover code).2) (List.getD (iMinimalCover ((DrawMinimalCover code).1) ((DrawMinimalCover code).2)) i Dep.zero)) = true) ∧ ((bits .and .i64 (Dep.To (List.getD (iMinimalCover ((DrawMinimalCover code).1) ((DrawMinimalCover code).2)) i Dep.zero)) ((Dep.To (List.getD (iMinimalCover ((DrawMinimalCover code).1) ((DrawMinimalCover code).2)) i Dep.zero)) - 1)) = 0)) ∧ ((bits .and .i64 (Dep.To (List.getD (iMinimalCover ((DrawMinimalCover code).1) ((DrawMinimalCover code).2)) i Dep.zero)) (Dep.From (List.getD (iMinimalCover ((DrawMinimalCover code).1) ((DrawMinimalCover code).2)) i Dep.zero))) = 0) := (And.imp (fun h => (And.imp (fun h => (Go.Am.not_neg h)) (fun h => (Go.Am.bne_neg h)) (Go.Am.or_neg h))) (fun h => (Go.Am.bne_neg h)) (Go.Am.or_neg h84))
       have e85 := e50.trans (Go.Am.bif_f h84)
       refine AW.kp [3, 4, 5, 6] [] ⟨[(3, .data (.slice (.named 0)) (((DrawMinimalCover code).1) : List Dep)), (4, .int .i64 ((DrawMinimalCover code).2)), (5, .data (.slice (.named 0)) ((iMinimalCover ((DrawMinimalCover code).1) ((DrawMinimalCover code).2)) : List Dep)), (6, .int .i64 ((i : Nat) : Int))], []⟩ ?_
       refine AW.skip (AW.r0 hC [3, 4, 5, 6] [] ⟨[(3, .data (.slice (.named 0)) (((DrawMinimalCover code).1) : List Dep)), (4, .int .i64 ((DrawMinimalCover code).2)), (5, .data (.slice (.named 0)) ((iMinimalCover ((DrawMinimalCover code).1) ((DrawMinimalCover code).2)) : List Dep)), (6, .int .i64 ((i + 1 : Nat) : Int))], []⟩ [(-9223372036854775808 ≤ ((i + 1 : Nat) : Int) ∧ ((i + 1 : Nat) : Int) ≤ 9223372036854775807)] ?_ ?_)
       ·
        refine ⟨?_, trivial⟩
        ·
         omega
       refine AW.back (x := i) (i + 1) (by kernel_rfl) ⟨?_, k48q, ?_, e85⟩ ?_
       ·
        show True
        assumption
       ·
        show (List.length (iMinimalCover ((DrawMinimalCover code).1) ((DrawMinimalCover code).2))) - (i + 1) < k48q
        omega
       ·
        show (List.length (iMinimalCover ((DrawMinimalCover code).1) ((DrawMinimalCover code).2))) - (i + 1) < (List.length (iMinimalCover ((DrawMinimalCover code).1) ((DrawMinimalCover code).2))) - i
        omega
     ·
      intro h86
      have h86q : ¬ (((i : Nat) : Int) < ((List.length (iMinimalCover ((DrawMinimalCover code).1) ((DrawMinimalCover code).2)) : Nat) : Int)) := (of_decide_eq_false h86)
      have e87 := e47.trans (Go.Am.bif_f h86)
      refine AW.kp [3, 4, 5] [] ⟨[(3, .data (.slice (.named 0)) (((DrawMinimalCover code).1) : List Dep)), (4, .int .i64 ((DrawMinimalCover code).2)), (5, .data (.slice (.named 0)) ((iMinimalCover ((DrawMinimalCover code).1) ((DrawMinimalCover code).2)) : List Dep))], []⟩ ?_
      refine AW.exit ?_
      refine AW.meet () (by kernel_rfl) ⟨?_, e87⟩
      show True
      assumption
   ·
    intro x hR
    obtain ⟨hJ0, e88⟩ := hR
    replace hJ0 : True := hJ0
    have e89 := e18.trans (Go.Am.elim_l e88)
    refine AW.seq (AW.seq (AW.r1 hC [3, 4, 5, 7] [] ⟨[(3, .data (.slice (.named 0)) (((DrawMinimalCover code).1) : List Dep)), (4, .int .i64 ((DrawMinimalCover code).2)), (5, .data (.slice (.named 0)) ((iMinimalCover ((DrawMinimalCover code).1) ((DrawMinimalCover code).2)) : List Dep)), (7, .int .i64 0)], []⟩ ?_))
    refine AW.cutQ (α := Unit) (fun x => ⟨[], []⟩) (fun x => (True) ∧ (FnMinimalCover_l1 code ((List.length ((DrawMinimalCover code).1)) - 0 + 1) 0) = (.inl ())) ?_ ?_
    ·
     skip
     refine AW.block (AW.loop (α := Nat) (fun x => ⟨[(3, .data (.slice (.named 0)) (((DrawMinimalCover code).1) : List Dep)), (4, .int .i64 ((DrawMinimalCover code).2)), (5, .data (.slice (.named 0)) ((iMinimalCover ((DrawMinimalCover code).1) ((DrawMinimalCover code).2)) : List Dep)), (7, .int .i64 ((x : Nat) : Int))], []⟩) (fun x => (True) ∧ ∃ k, (List.length ((DrawMinimalCover code).1)) - x < k ∧ (FnMinimalCover_l1 code ((List.length ((DrawMinimalCover code).1)) - 0 + 1) 0) = FnMinimalCover_l1 code k x) (fun x => (List.length ((DrawMinimalCover code).1)) - x) 0 (by kernel_rfl) ⟨?_, _, Nat.lt_succ_self _, rfl⟩ ?_)
     ·
      show True
      exact trivial
     ·
      intro i hR
      obtain ⟨hI1, k119, hk117, e118⟩ := hR
      replace hI1 : True := hI1
      replace hk117 : (List.length ((DrawMinimalCover code).1)) - i < k119 := hk117
      obtain ⟨k119q, rfl⟩ : ∃ k, k119 = k + 1 := ⟨k119 - 1, by omega⟩
      refine AW.seq (AW.seq (AW.r1 hC [3, 4, 5, 7, 88] [] ⟨[(3, .data (.slice (.named 0)) (((DrawMinimalCover code).1) : List Dep)), (4, .int .i64 ((DrawMinimalCover code).2)), (5, .data (.slice (.named 0)) ((iMinimalCover ((DrawMinimalCover code).1) ((DrawMinimalCover code).2)) : List Dep)), (7, .int .i64 ((i : Nat) : Int)), (88, .bool (decide (((i : Nat) : Int) < ((List.length ((DrawMinimalCover code).1) : Nat) : Int))))], []⟩ ?_))
      refine AW.cd (decide (((i : Nat) : Int) < ((List.length ((DrawMinimalCover code).1) : Nat) : Int))) ?_ ?_
      ·
       intro h120
       have h120q : ((i : Nat) : Int) < ((List.length ((DrawMinimalCover code).1) : Nat) : Int) := (of_decide_eq_true h120)
       have e121 := e118.trans (Go.Am.bif_t h120)
       refine AW.kp [3, 4, 5, 7] [] ⟨[(3, .data (.slice (.named 0)) (((DrawMinimalCover code).1) : List Dep)), (4, .int .i64 ((DrawMinimalCover code).2)), (5, .data (.slice (.named 0)) ((iMinimalCover ((DrawMinimalCover code).1) ((DrawMinimalCover code).2)) : List Dep)), (7, .int .i64 ((i : Nat) : Int))], []⟩ ?_
       refine AW.skip (AW.seq (AW.block (AW.seq (AW.r0 hC [3, 4, 5, 7, 98] [] ⟨[(3, .data (.slice (.named 0)) (((DrawMinimalCover code).1) : List Dep)), (4, .int .i64 ((DrawMinimalCover code).2)), (5, .data (.slice (.named 0)) ((iMinimalCover ((DrawMinimalCover code).1) ((DrawMinimalCover code).2)) : List Dep)), (7, .int .i64 ((i : Nat) : Int)), (98, .bool (!(Implies (iMinimalCover ((DrawMinimalCover code).1) ((DrawMinimalCover code).2)) ((DrawMinimalCover code).2) (List.getD ((DrawMinimalCover code).1) i Dep.zero))))], []⟩ [(0 ≤ ((i : Nat) : Int) ∧ ((i : Nat) : Int) < ((List.length ((DrawMinimalCover code).1) : Nat) : Int)), (True)] ?_ ?_))))
       ·
        refine ⟨?_, ?_, trivial⟩
        ·
         omega
        ·
         trivial
       refine AW.cd (!(Implies (iMinimalCover ((DrawMinimalCover code).1) ((DrawMinimalCover code).2)) ((DrawMinimalCover code).2) (List.getD ((DrawMinimalCover code).1) i Dep.zero))) ?_ ?_
       ·
        intro h122
        have h122q : (Implies (iMinimalCover ((DrawMinimalCover code).1) ((DrawMinimalCover code).2)) ((DrawMinimalCover code).2) (List.getD ((DrawMinimalCover code).1) i Dep.zero)) = false := (Go.Am.not_pos h122)
        have e123 := e121.trans (Go.Am.bif_t h122)
        refine AW.seq (AW.r1 hC [2] [] ⟨[(2, .bool false)], []⟩ ?_)
        refine AW.ret ?_
        have e124 := e89.trans (Go.Am.elim_r e123)
        exact AW.retE (β := Bool) (fun v => [⟨.bool, v⟩]) (fun v => []) (v := false) e124 (by kernel_rfl) rfl rfl
       ·
        intro h125
        have h125q : (Implies (iMinimalCover ((DrawMinimalCover code).1) ((DrawMinimalCover code).2)) ((DrawMinimalCover code).2) (List.getD ((DrawMinimalCover code).1) i Dep.zero)) = true := (Go.Am.not_neg h125)
        have e126 := e121.trans (Go.Am.bif_f h125)
        refine AW.kp [3, 4, 5, 7] [] ⟨[(3, .data (.slice (.named 0)) (((DrawMinimalCover code).1) : List Dep)), (4, .int .i64 ((DrawMinimalCover code).2)), (5, .data (.slice (.named 0)) ((iMinimalCover ((DrawMinimalCover code).1) ((DrawMinimalCover code).2)) : List Dep)), (7, .int .i64 ((i : Nat) : Int))], []⟩ ?_
        refine AW.skip (AW.r0 hC [3, 4, 5, 7] [] ⟨[(3, .data (.slice (.named 0)) (((DrawMinimalCover code).1) : List Dep)), (4, .int .i64 ((DrawMinimalCover code).2)), (5, .data (.slice (.named 0)) ((iMinimalCover ((DrawMinimalCover code).1) ((DrawMinimalCover code).2)) : List Dep)), (7, .int .i64 ((i + 1 : Nat) : Int))], []⟩ [(-9223372036854775808 ≤ ((i + 1 : Nat) : Int) ∧ ((i + 1 : Nat) : Int) ≤ 9223372036854775807)] ?_ ?_)
        ·
         refine ⟨?_, trivial⟩
         ·
          omega
        refine AW.back (x := i) (i + 1) (by kernel_rfl) ⟨?_, k119q, ?_, e126⟩ ?_
        ·
         show True
         assumption
        ·
         show (List.length ((DrawMinimalCover code).1)) - (i + 1) < k119q
         omega
        ·
         show (List.length ((DrawMinimalCover code).1)) - (i + 1) < (List.length ((DrawMinimalCover code).1)) - i
         omega
      ·
       intro h127
       have h127q : ¬ (((i : Nat) : Int) < ((List.length ((DrawMinimalCover code).1) : Nat) : Int)) := (of_decide_eq_false h127)
       have e128 := e118.trans (Go.Am.bif_f h127)
       refine AW.kp [] [] ⟨[], []⟩ ?_
       refine AW.exit ?_
       refine AW.meet () (by kernel_rfl) ⟨?_, e128⟩
       show True
       assumption
    ·
     intro x hR
     obtain ⟨hJ1, e129⟩ := hR
     replace hJ1 : True := hJ1
     have e130 := e89.trans (Go.Am.elim_l e129)
     refine AW.seq (AW.r1 hC [2] [] ⟨[(2, .bool true)], []⟩ ?_)
     exact AW.ret (AW.retE (β := Bool) (fun v => [⟨.bool, v⟩]) (fun v => []) (v := true) e130 (by kernel_rfl) rfl rfl)

def FnCoverMinimal (code : List Int) (more : List Int) : Bool := (bif (bif (decide (1048576 < ((List.length code : Nat) : Int))) then true else (decide (1048576 < ((List.length more : Nat) : Int)))) then true else (bif (bif (bif (!(equalDependencies (iMinimalCover ((DrawMinimalCover code).1) ((DrawMinimalCover code).2)) (MinimalCover ((DrawMinimalCover code).1) ((DrawMinimalCover code).2)))) then true else (!(ValidDependencies (iMinimalCover ((DrawMinimalCover code).1) ((DrawMinimalCover code).2)) ((DrawMinimalCover code).2)))) then true else (((List.length (iMinimalCover ((DrawMinimalCover code).1) ((DrawMinimalCover code).2)) : Nat) : Int) == 0)) then (equalDependencies (iMinimalCover ((DrawMinimalCover code).1) ((DrawMinimalCover code).2)) (MinimalCover ((DrawMinimalCover code).1) ((DrawMinimalCover code).2))) else (bif (!(Implies ((([] : List Dep) ++ (List.take (Int.toNat (((List.length more : Nat) : Int) % ((List.length (iMinimalCover ((DrawMinimalCover code).1) ((DrawMinimalCover code).2)) : Nat) : Int))) (iMinimalCover ((DrawMinimalCover code).1) ((DrawMinimalCover code).2)))) ++ (List.drop (Int.toNat ((((List.length more : Nat) : Int) % ((List.length (iMinimalCover ((DrawMinimalCover code).1) ((DrawMinimalCover code).2)) : Nat) : Int)) + 1)) (iMinimalCover ((DrawMinimalCover code).1) ((DrawMinimalCover code).2)))) ((DrawMinimalCover code).2) (List.getD (iMinimalCover ((DrawMinimalCover code).1) ((DrawMinimalCover code).2)) (Int.toNat (((List.length more : Nat) : Int) % ((List.length (iMinimalCover ((DrawMinimalCover code).1) ((DrawMinimalCover code).2)) : Nat) : Int))) Dep.zero))) then (equalDependencies (iMinimalCover (iMinimalCover ((DrawMinimalCover code).1) ((DrawMinimalCover code).2)) ((DrawMinimalCover code).2)) (iMinimalCover ((DrawMinimalCover code).1) ((DrawMinimalCover code).2))) else false)))

def FnCoverMinimal_sp : FnSpec := mkSpec [.val (.slice (.int .u8)), .val (.slice (.int .u8))] [.val .bool] (fun (code : List Int) (more : List Int) => True) (fun (code : List Int) (more : List Int) => [⟨.bool, (FnCoverMinimal code more)⟩])

theorem FnCoverMinimal_ok : FnOK Try.prog 9 FnCoverMinimal_sp := by
 have hC : CtxOK Try.prog (mkCtx tyL [(18, ValidDependencies_sp), (30, DrawMinimalCover_sp), (31, iMinimalCover_sp), (32, equalDependencies_sp), (33, MinimalCover_sp), (34, Implies_sp)]) := CtxOK.cons ValidDependencies_ok (CtxOK.cons DrawMinimalCover_ok (CtxOK.cons iMinimalCover_ok (CtxOK.cons equalDependencies_ok (CtxOK.cons MinimalCover_ok (CtxOK.cons Implies_ok (CtxOK.nil tyOK))))))
 have hM : Try.prog.follows .mixedOrders = true := Try.checked.mixed
 refine FnOK.of_body Try.func9 (by kernel_rfl) rfl (C := (mkCtx tyL [(18, ValidDependencies_sp), (30, DrawMinimalCover_sp), (31, iMinimalCover_sp), (32, equalDependencies_sp), (33, MinimalCover_sp), (34, Implies_sp)])) hC.ty (by kernel_rfl) ?_
 intro (code : List Int) (more : List Int) hwf hpre E
 have hpre : True := hpre
 have hw_code : Wf ⟨(.slice (.int .u8)), (code : List Int)⟩ := hwf _ (List.Mem.head _)
 have hl_code : ((List.length code : Nat) : Int) ≤ 9223372036854775807 := hw_code.len
 have hw_more : Wf ⟨(.slice (.int .u8)), (more : List Int)⟩ := hwf _ (List.Mem.tail _ (List.Mem.head _))
 have hl_more : ((List.length more : Nat) : Int) ≤ 9223372036854775807 := hw_more.len
 have e0 : FnCoverMinimal code more = FnCoverMinimal code more := rfl
 refine AW.seq (AW.r1 hC [0, 1] [] ⟨[(0, .data (.slice (.int .u8)) (code : List Int)), (1, .data (.slice (.int .u8)) (more : List Int))], []⟩ ?_)
 refine AW.seq (AW.seq (AW.r0 hC [0, 1, 17] [] ⟨[(0, .data (.slice (.int .u8)) (code : List Int)), (1, .data (.slice (.int .u8)) (more : List Int)), (17, .bool (bif (decide (1048576 < ((List.length code : Nat) : Int))) then true else (decide (1048576 < ((List.length more : Nat) : Int)))))], []⟩ [(((decide (1048576 < ((List.length code : Nat) : Int))) = false) → (((decide (1048576 < ((List.length code : Nat) : Int))) = false))), (((decide (1048576 < ((List.length code : Nat) : Int))) = false) → (((decide (1048576 < ((List.length code : Nat) : Int))) = false))), (((decide (1048576 < ((List.length code : Nat) : Int))) = false) → (((decide (1048576 < ((List.length code : Nat) : Int))) = false)))] ?_ ?_))
 ·
  refine ⟨?_, ?_, ?_, trivial⟩
  ·
   intro g1
   have g1p0 : ¬ (1048576 < ((List.length code : Nat) : Int)) := (of_decide_eq_false g1)
   assumption
  ·
   intro g2
   have g2p0 : ¬ (1048576 < ((List.length code : Nat) : Int)) := (of_decide_eq_false g2)
   assumption
  ·
   intro g3
   have g3p0 : ¬ (1048576 < ((List.length code : Nat) : Int)) := (of_decide_eq_false g3)
   assumption
 refine AW.cd (bif (decide (1048576 < ((List.length code : Nat) : Int))) then true else (decide (1048576 < ((List.length more : Nat) : Int)))) ?_ ?_
 ·
  intro h4
  have h4q : (1048576 < ((List.length code : Nat) : Int)) ∨ (1048576 < ((List.length more : Nat) : Int)) := (Or.imp (fun h => (of_decide_eq_true h)) (fun h => (of_decide_eq_true h)) (Go.Am.or_pos h4))
  have e5 := e0.trans (Go.Am.bif_t h4)
  refine AW.seq (AW.r1 hC [4] [] ⟨[(4, .bool true)], []⟩ ?_)
  exact AW.ret (AW.retE (β := Bool) (fun v => [⟨.bool, v⟩]) (fun v => []) (v := true) e5 (by kernel_rfl) rfl rfl)
 ·
  intro h6
  have h6q : (¬ (1048576 < ((List.length code : Nat) : Int))) ∧ (¬ (1048576 < ((List.length more : Nat) : Int))) := (And.imp (fun h => (of_decide_eq_false h)) (fun h => (of_decide_eq_false h)) (Go.Am.or_neg h6))
  have e7 := e0.trans (Go.Am.bif_f h6)
  refine AW.kp [0, 1] [] ⟨[(0, .data (.slice (.int .u8)) (code : List Int)), (1, .data (.slice (.int .u8)) (more : List Int))], []⟩ ?_
  refine AW.skip (AW.seq (AW.r0 hC [1, 5, 6] [80] ⟨[(1, .data (.slice (.int .u8)) (more : List Int)), (5, .arr 80 1), (6, .int .i64 ((DrawMinimalCover code).2))], [(80, .arr 1 (.named 0) (((DrawMinimalCover code).1) : List Dep))]⟩ [(True)] ?_ ?_))
  ·
   refine ⟨?_, trivial⟩
   ·
    trivial
  refine AW.seq (AW.frz 80 ⟨[(1, .data (.slice (.int .u8)) (more : List Int)), (5, .data (.slice (.named 0)) (((DrawMinimalCover code).1) : List Dep)), (6, .int .i64 ((DrawMinimalCover code).2))], []⟩ (by kernel_rfl) ?_)
  refine AW.r0 hC [1, 5, 6, 7] [] ⟨[(1, .data (.slice (.int .u8)) (more : List Int)), (5, .data (.slice (.named 0)) (((DrawMinimalCover code).1) : List Dep)), (6, .int .i64 ((DrawMinimalCover code).2)), (7, .data (.slice (.named 0)) ((iMinimalCover ((DrawMinimalCover code).1) ((DrawMinimalCover code).2)) : List Dep))], []⟩ [(True)] ?_ ?_
  ·
   refine ⟨?_, trivial⟩
   ·
    trivial
  refine AW.seq (AW.seq (AW.r0 hC [1, 5, 6, 7, 42] [] ⟨[(1, .data (.slice (.int .u8)) (more : List Int)), (5, .data (.slice (.named 0)) (((DrawMinimalCover code).1) : List Dep)), (6, .int .i64 ((DrawMinimalCover code).2)), (7, .data (.slice (.named 0)) ((iMinimalCover ((DrawMinimalCover code).1) ((DrawMinimalCover code).2)) : List Dep)), (42, .bool (bif (bif (!(equalDependencies (iMinimalCover ((DrawMinimalCover code).1) ((DrawMinimalCover code).2)) (MinimalCover ((DrawMinimalCover code).1) ((DrawMinimalCover code).2)))) then true else (!(ValidDependencies (iMinimalCover ((DrawMinimalCover code).1) ((DrawMinimalCover code).2)) ((DrawMinimalCover code).2)))) then true else (((List.length (iMinimalCover ((DrawMinimalCover code).1) ((DrawMinimalCover code).2)) : Nat) : Int) == 0)))], []⟩ [(True), (True), (((!(equalDependencies (iMinimalCover ((DrawMinimalCover code).1) ((DrawMinimalCover code).2)) (MinimalCover ((DrawMinimalCover code).1) ((DrawMinimalCover code).2)))) = false) → (((!(equalDependencies (iMinimalCover ((DrawMinimalCover code).1) ((DrawMinimalCover code).2)) (MinimalCover ((DrawMinimalCover code).1) ((DrawMinimalCover code).2)))) = false))), (((!(equalDependencies (iMinimalCover ((DrawMinimalCover code).1) ((DrawMinimalCover code).2)) (MinimalCover ((DrawMinimalCover code).1) ((DrawMinimalCover code).2)))) = false) → (((!(equalDependencies (iMinimalCover ((DrawMinimalCover code).1) ((DrawMinimalCover code).2)) (MinimalCover ((DrawMinimalCover code).1) ((DrawMinimalCover code).2)))) = false))), (((!(equalDependencies (iMinimalCover ((DrawMinimalCover code).1) ((DrawMinimalCover code).2)) (MinimalCover ((DrawMinimalCover code).1) ((DrawMinimalCover code).2)))) = false) → (True)), (((!(equalDependencies (iMinimalCover ((DrawMinimalCover code).1) ((DrawMinimalCover code).2)) (MinimalCover ((DrawMinimalCover code).1) ((DrawMinimalCover code).2)))) = false) → (((!(equalDependencies (iMinimalCover ((DrawMinimalCover code).1) ((DrawMinimalCover code).2)) (MinimalCover ((DrawMinimalCover code).1) ((DrawMinimalCover code).2)))) = false))), (((!(equalDependencies (iMinimalCover ((DrawMinimalCover code).1) ((DrawMinimalCover code).2)) (MinimalCover ((DrawMinimalCover code).1) ((DrawMinimalCover code).2)))) = false) → (((!(equalDependencies (iMinimalCover ((DrawMinimalCover code).1) ((DrawMinimalCover code).2)) (MinimalCover ((DrawMinimalCover code).1) ((DrawMinimalCover code).2)))) = false))), (((bif (!(equalDependencies (iMinimalCover ((DrawMinimalCover code).1) ((DrawMinimalCover code).2)) (MinimalCover ((DrawMinimalCover code).1) ((DrawMinimalCover code).2)))) then true else (!(ValidDependencies (iMinimalCover ((DrawMinimalCover code).1) ((DrawMinimalCover code).2)) ((DrawMinimalCover code).2)))) = false) → (((bif (!(equalDependencies (iMinimalCover ((DrawMinimalCover code).1) ((DrawMinimalCover code).2)) (MinimalCover ((DrawMinimalCover code).1) ((DrawMinimalCover code).2)))) then true else (!(ValidDependencies (iMinimalCover ((DrawMinimalCover code).1) ((DrawMinimalCover code).2)) ((DrawMinimalCover code).2)))) = false))), (((bif (!(equalDependencies (iMinimalCover ((DrawMinimalCover code).1) ((DrawMinimalCover code).2)) (MinimalCover ((DrawMinimalCover code).1) ((DrawMinimalCover code).2)))) then true else (!(ValidDependencies (iMinimalCover ((DrawMinimalCover code).1) ((DrawMinimalCover code).2)) ((DrawMinimalCover code).2)))) = false) → (((bif (!(equalDependencies (iMinimalCover ((DrawMinimalCover code).1) ((DrawMinimalCover code).2)) (MinimalCover ((DrawMinimalCover code).1) ((DrawMinimalCover code).2)))) then true else (!(ValidDependencies (iMinimalCover ((DrawMinimalCover code).1) ((DrawMinimalCover code).2)) ((DrawMinimalCover code).2)))) = false))), (((bif (!(equalDependencies (iMinimalCover ((DrawMinimalCover code).1) ((DrawMinimalCover code).2)) (MinimalCover ((DrawMinimalCover code).1) ((DrawMinimalCover code).2)))) then true else (!(ValidDependencies (iMinimalCover ((DrawMinimalCover code).1) ((DrawMinimalCover code).2)) ((DrawMinimalCover code).2)))) = false) → (((bif (!(equalDependencies (iMinimalCover ((DrawMinimalCover code).1) ((DrawMinimalCover code).2)) (MinimalCover ((DrawMinimalCover code).1) ((DrawMinimalCover code).2)))) then true else (!(ValidDependencies (iMinimalCover ((DrawMinimalCover code).1) ((DrawMinimalCover code).2)) ((DrawMinimalCover code).2)))) = false)))] ?_ ?_))
  ·
   refine ⟨?_, ?_, ?_, ?_, ?_, ?_, ?_, ?_, ?_, ?_, trivial⟩
   ·
    trivial
   ·
    trivial
   ·
    intro g8
    have g8p0 : (equalDependencies (iMinimalCover ((DrawMinimalCover code).1) ((DrawMinimalCover code).2)) (MinimalCover ((DrawMinimalCover code).1) ((DrawMinimalCover code).2))) = true := (Go.Am.not_neg g8)
    assumption
   ·
    intro g9
    have g9p0 : (equalDependencies (iMinimalCover ((DrawMinimalCover code).1) ((DrawMinimalCover code).2)) (MinimalCover ((DrawMinimalCover code).1) ((DrawMinimalCover code).2))) = true := (Go.Am.not_neg g9)
    assumption
   ·
    intro g10
    have g10p0 : (equalDependencies (iMinimalCover ((DrawMinimalCover code).1) ((DrawMinimalCover code).2)) (MinimalCover ((DrawMinimalCover code).1) ((DrawMinimalCover code).2))) = true := (Go.Am.not_neg g10)
    trivial
   ·
    intro g11
    have g11p0 : (equalDependencies (iMinimalCover ((DrawMinimalCover code).1) ((DrawMinimalCover code).2)) (MinimalCover ((DrawMinimalCover code).1) ((DrawMinimalCover code).2))) = true := (Go.Am.not_neg g11)
    assumption
   ·
    intro g12
    have g12p0 : (equalDependencies (iMinimalCover ((DrawMinimalCover code).1) ((DrawMinimalCover code).2)) (MinimalCover ((DrawMinimalCover code).1) ((DrawMinimalCover code).2))) = true := (Go.Am.not_neg g12)
    assumption
   ·
    intro g13
    have g13p0 : ((equalDependencies (iMinimalCover ((DrawMinimalCover code).1) ((DrawMinimalCover code).2)) (MinimalCover ((DrawMinimalCover code).1) ((DrawMinimalCover code).2))) = true) ∧ ((ValidDependencies (iMinimalCover ((DrawMinimalCover code).1) ((DrawMinimalCover code).2)) ((DrawMinimalCover code).2)) = true) := (And.imp (fun h => (Go.Am.not_neg h)) (fun h => (Go.Am.not_neg h)) (Go.Am.or_neg g13))
    assumption
   ·
    intro g14
    have g14p0 : ((equalDependencies (iMinimalCover ((DrawMinimalCover code).1) ((DrawMinimalCover code).2)) (MinimalCover ((DrawMinimalCover code).1) ((DrawMinimalCover code).2))) = true) ∧ ((ValidDependencies (iMinimalCover ((DrawMinimalCover code).1) ((DrawMinimalCover code).2)) ((DrawMinimalCover code).2)) = true) := (And.imp (fun h => (Go.Am.not_neg h)) (fun h => (Go.Am.not_neg h)) (Go.Am.or_neg g14))
    assumption
   ·
    intro g15
    have g15p0 : ((equalDependencies (iMinimalCover ((DrawMinimalCover code).1) ((DrawMinimalCover code).2)) (MinimalCover ((DrawMinimalCover code).1) ((DrawMinimalCover code).2))) = true) ∧ ((ValidDependencies (iMinimalCover ((DrawMinimalCover code).1) ((DrawMinimalCover code).2)) ((DrawMinimalCover code).2)) = true) := (And.imp (fun h => (Go.Am.not_neg h)) (fun h => (Go.Am.not_neg h)) (Go.Am.or_neg g15))
    assumption
  refine AW.cd (bif (bif (!(equalDependencies (iMinimalCover ((DrawMinimalCover code).1) ((DrawMinimalCover code).2)) (MinimalCover ((DrawMinimalCover code).1) ((DrawMinimalCover code).2)))) then true else (!(ValidDependencies (iMinimalCover ((DrawMinimalCover code).1) ((DrawMinimalCover code).2)) ((DrawMinimalCover code).2)))) then true else (((List.length (iMinimalCover ((DrawMinimalCover code).1) ((DrawMinimalCover code).2)) : Nat) : Int) == 0)) ?_ ?_
  ·
   intro h16
   have h16q : (((equalDependencies (iMinimalCover ((DrawMinimalCover code).1) ((DrawMinimalCover code).2)) (MinimalCover ((DrawMinimalCover code).1) ((DrawMinimalCover code).2))) = false) ∨ ((ValidDependencies (iMinimalCover ((DrawMinimalCover code).1) ((DrawMinimalCover code).2)) ((DrawMinimalCover code).2)) = false)) ∨ (((List.length (iMinimalCover ((DrawMinimalCover code).1) ((DrawMinimalCover code).2)) : Nat) : Int) = 0) := (Or.imp (fun h => (Or.imp (fun h => (Go.Am.not_pos h)) (fun h => (Go.Am.not_pos h)) (Go.Am.or_pos h))) (fun h => (Go.Am.beq_pos h)) (Go.Am.or_pos h16))
   have e17 := e7.trans (Go.Am.bif_t h16)
   refine AW.seq (AW.r0 hC [4] [] ⟨[(4, .bool (equalDependencies (iMinimalCover ((DrawMinimalCover code).1) ((DrawMinimalCover code).2)) (MinimalCover ((DrawMinimalCover code).1) ((DrawMinimalCover code).2))))], []⟩ [(True), (True)] ?_ ?_)
   ·
    refine ⟨?_, ?_, trivial⟩
    ·
     trivial
    ·
     trivial
   exact AW.ret (AW.retE (β := Bool) (fun v => [⟨.bool, v⟩]) (fun v => []) (v := (equalDependencies (iMinimalCover ((DrawMinimalCover code).1) ((DrawMinimalCover code).2)) (MinimalCover ((DrawMinimalCover code).1) ((DrawMinimalCover code).2)))) e17 (by kernel_rfl) rfl rfl)
  ·
   intro h18
   have h18q : (((equalDependencies (iMinimalCover ((DrawMinimalCover code).1) ((DrawMinimalCover code).2)) (MinimalCover ((DrawMinimalCover code).1) ((DrawMinimalCover code).2))) = true) ∧ ((ValidDependencies (iMinimalCover ((DrawMinimalCover code).1) ((DrawMinimalCover code).2)) ((DrawMinimalCover code).2)) = true)) ∧ (((List.length (iMinimalCover ((DrawMinimalCover code).1) ((DrawMinimalCover code).2)) : Nat) : Int) ≠ 0) := (And.imp (fun h => (And.imp (fun h => (Go.Am.not_neg h)) (fun h => (Go.Am.not_neg h)) (Go.Am.or_neg h))) (fun h => (Go.Am.beq_neg h)) (Go.Am.or_neg h18))
   have e19 := e7.trans (Go.Am.bif_f h18)
   refine AW.kp [1, 6, 7] [] ⟨[(1, .data (.slice (.int .u8)) (more : List Int)), (6, .int .i64 ((DrawMinimalCover code).2)), (7, .data (.slice (.named 0)) ((iMinimalCover ((DrawMinimalCover code).1) ((DrawMinimalCover code).2)) : List Dep))], []⟩ ?_
   refine AW.skip (AW.seq ?_)
   have hcv := deps_ok h18q.1.2
   have hm0 := h18q.2
   have hm1 := Int.emod_nonneg ((List.length more : Nat) : Int) hm0
   have hm2 := Int.emod_lt_of_pos ((List.length more : Nat) : Int) (show (0 : Int) < ((List.length (iMinimalCover ((DrawMinimalCover code).1) ((DrawMinimalCover code).2)) : Nat) : Int) by omega)
   refine AW.r0 hC [6, 7, 8] [] ⟨[(6, .int .i64 ((DrawMinimalCover code).2)), (7, .data (.slice (.named 0)) ((iMinimalCover ((DrawMinimalCover code).1) ((DrawMinimalCover code).2)) : List Dep)), (8, .int .i64 (((List.length more : Nat) : Int) % ((List.length (iMinimalCover ((DrawMinimalCover code).1) ((DrawMinimalCover code).2)) : Nat) : Int)))], []⟩ [(0 ≤ ((List.length more : Nat) : Int) ∧ 0 < ((List.length (iMinimalCover ((DrawMinimalCover code).1) ((DrawMinimalCover code).2)) : Nat) : Int))] ?_ ?_
   ·
    refine ⟨?_, trivial⟩
    ·
     omega
   refine AW.seq (AW.d0 hC hM [6, 7, 8, 9] [212] ⟨[(6, .int .i64 ((DrawMinimalCover code).2)), (7, .data (.slice (.named 0)) ((iMinimalCover ((DrawMinimalCover code).1) ((DrawMinimalCover code).2)) : List Dep)), (8, .int .i64 (((List.length more : Nat) : Int) % ((List.length (iMinimalCover ((DrawMinimalCover code).1) ((DrawMinimalCover code).2)) : Nat) : Int))), (9, .arr 212 1)], [(212, .arr 1 (.named 0) (((([] : List Dep) ++ (List.take (Int.toNat (((List.length more : Nat) : Int) % ((List.length (iMinimalCover ((DrawMinimalCover code).1) ((DrawMinimalCover code).2)) : Nat) : Int))) (iMinimalCover ((DrawMinimalCover code).1) ((DrawMinimalCover code).2)))) ++ (List.drop (Int.toNat ((((List.length more : Nat) : Int) % ((List.length (iMinimalCover ((DrawMinimalCover code).1) ((DrawMinimalCover code).2)) : Nat) : Int)) + 1)) (iMinimalCover ((DrawMinimalCover code).1) ((DrawMinimalCover code).2)))) : List Dep))]⟩ [(0 ≤ (((List.length more : Nat) : Int) % ((List.length (iMinimalCover ((DrawMinimalCover code).1) ((DrawMinimalCover code).2)) : Nat) : Int)) ∧ (((List.length more : Nat) : Int) % ((List.length (iMinimalCover ((DrawMinimalCover code).1) ((DrawMinimalCover code).2)) : Nat) : Int)) ≤ ((List.length (iMinimalCover ((DrawMinimalCover code).1) ((DrawMinimalCover code).2)) : Nat) : Int)), (0 + ((List.length (List.take (Int.toNat (((List.length more : Nat) : Int) % ((List.length (iMinimalCover ((DrawMinimalCover code).1) ((DrawMinimalCover code).2)) : Nat) : Int))) (iMinimalCover ((DrawMinimalCover code).1) ((DrawMinimalCover code).2))) : Nat) : Int) ≤ 4294967296), (-9223372036854775808 ≤ ((((List.length more : Nat) : Int) % ((List.length (iMinimalCover ((DrawMinimalCover code).1) ((DrawMinimalCover code).2)) : Nat) : Int)) + 1) ∧ ((((List.length more : Nat) : Int) % ((List.length (iMinimalCover ((DrawMinimalCover code).1) ((DrawMinimalCover code).2)) : Nat) : Int)) + 1) ≤ 9223372036854775807), (0 ≤ ((((List.length more : Nat) : Int) % ((List.length (iMinimalCover ((DrawMinimalCover code).1) ((DrawMinimalCover code).2)) : Nat) : Int)) + 1) ∧ ((((List.length more : Nat) : Int) % ((List.length (iMinimalCover ((DrawMinimalCover code).1) ((DrawMinimalCover code).2)) : Nat) : Int)) + 1) ≤ ((List.length (iMinimalCover ((DrawMinimalCover code).1) ((DrawMinimalCover code).2)) : Nat) : Int)), (((List.length (([] : List Dep) ++ (List.take (Int.toNat (((List.length more : Nat) : Int) % ((List.length (iMinimalCover ((DrawMinimalCover code).1) ((DrawMinimalCover code).2)) : Nat) : Int))) (iMinimalCover ((DrawMinimalCover code).1) ((DrawMinimalCover code).2)))) : Nat) : Int) + ((List.length (List.drop (Int.toNat ((((List.length more : Nat) : Int) % ((List.length (iMinimalCover ((DrawMinimalCover code).1) ((DrawMinimalCover code).2)) : Nat) : Int)) + 1)) (iMinimalCover ((DrawMinimalCover code).1) ((DrawMinimalCover code).2))) : Nat) : Int) ≤ 4294967296)] ?_ ?_)
   ·
    refine ⟨?_, ?_, ?_, ?_, ?_, trivial⟩
    ·
     omega
    ·
     simp only [List.length_append, List.length_cons, List.length_nil, List.length_take, List.length_drop]
     omega
    ·
     omega
    ·
     omega
    ·
     simp only [List.length_append, List.length_cons, List.length_nil, List.length_take, List.length_drop]
     omega
   refine AW.seq (AW.r0 hC [4] [] ⟨[(4, .bool (bif (!(Implies ((([] : List Dep) ++ (List.take (Int.toNat (((List.length more : Nat) : Int) % ((List.length (iMinimalCover ((DrawMinimalCover code).1) ((DrawMinimalCover code).2)) : Nat) : Int))) (iMinimalCover ((DrawMinimalCover code).1) ((DrawMinimalCover code).2)))) ++ (List.drop (Int.toNat ((((List.length more : Nat) : Int) % ((List.length (iMinimalCover ((DrawMinimalCover code).1) ((DrawMinimalCover code).2)) : Nat) : Int)) + 1)) (iMinimalCover ((DrawMinimalCover code).1) ((DrawMinimalCover code).2)))) ((DrawMinimalCover code).2) (List.getD (iMinimalCover ((DrawMinimalCover code).1) ((DrawMinimalCover code).2)) (Int.toNat (((List.length more : Nat) : Int) % ((List.length (iMinimalCover ((DrawMinimalCover code).1) ((DrawMinimalCover code).2)) : Nat) : Int))) Dep.zero))) then (equalDependencies (iMinimalCover (iMinimalCover ((DrawMinimalCover code).1) ((DrawMinimalCover code).2)) ((DrawMinimalCover code).2)) (iMinimalCover ((DrawMinimalCover code).1) ((DrawMinimalCover code).2))) else false))], []⟩ [(0 ≤ (((List.length more : Nat) : Int) % ((List.length (iMinimalCover ((DrawMinimalCover code).1) ((DrawMinimalCover code).2)) : Nat) : Int)) ∧ (((List.length more : Nat) : Int) % ((List.length (iMinimalCover ((DrawMinimalCover code).1) ((DrawMinimalCover code).2)) : Nat) : Int)) < ((List.length (iMinimalCover ((DrawMinimalCover code).1) ((DrawMinimalCover code).2)) : Nat) : Int)), (True), (((!(Implies ((([] : List Dep) ++ (List.take (Int.toNat (((List.length more : Nat) : Int) % ((List.length (iMinimalCover ((DrawMinimalCover code).1) ((DrawMinimalCover code).2)) : Nat) : Int))) (iMinimalCover ((DrawMinimalCover code).1) ((DrawMinimalCover code).2)))) ++ (List.drop (Int.toNat ((((List.length more : Nat) : Int) % ((List.length (iMinimalCover ((DrawMinimalCover code).1) ((DrawMinimalCover code).2)) : Nat) : Int)) + 1)) (iMinimalCover ((DrawMinimalCover code).1) ((DrawMinimalCover code).2)))) ((DrawMinimalCover code).2) (List.getD (iMinimalCover ((DrawMinimalCover code).1) ((DrawMinimalCover code).2)) (Int.toNat (((List.length more : Nat) : Int) % ((List.length (iMinimalCover ((DrawMinimalCover code).1) ((DrawMinimalCover code).2)) : Nat) : Int))) Dep.zero))) = true) → (((!(Implies ((([] : List Dep) ++ (List.take (Int.toNat (((List.length more : Nat) : Int) % ((List.length (iMinimalCover ((DrawMinimalCover code).1) ((DrawMinimalCover code).2)) : Nat) : Int))) (iMinimalCover ((DrawMinimalCover code).1) ((DrawMinimalCover code).2)))) ++ (List.drop (Int.toNat ((((List.length more : Nat) : Int) % ((List.length (iMinimalCover ((DrawMinimalCover code).1) ((DrawMinimalCover code).2)) : Nat) : Int)) + 1)) (iMinimalCover ((DrawMinimalCover code).1) ((DrawMinimalCover code).2)))) ((DrawMinimalCover code).2) (List.getD (iMinimalCover ((DrawMinimalCover code).1) ((DrawMinimalCover code).2)) (Int.toNat (((List.length more : Nat) : Int) % ((List.length (iMinimalCover ((DrawMinimalCover code).1) ((DrawMinimalCover code).2)) : Nat) : Int))) Dep.zero))) = true))), (((!(Implies ((([] : List Dep) ++ (List.take (Int.toNat (((List.length more : Nat) : Int) % ((List.length (iMinimalCover ((DrawMinimalCover code).1) ((DrawMinimalCover code).2)) : Nat) : Int))) (iMinimalCover ((DrawMinimalCover code).1) ((DrawMinimalCover code).2)))) ++ (List.drop (Int.toNat ((((List.length more : Nat) : Int) % ((List.length (iMinimalCover ((DrawMinimalCover code).1) ((DrawMinimalCover code).2)) : Nat) : Int)) + 1)) (iMinimalCover ((DrawMinimalCover code).1) ((DrawMinimalCover code).2)))) ((DrawMinimalCover code).2) (List.getD (iMinimalCover ((DrawMinimalCover code).1) ((DrawMinimalCover code).2)) (Int.toNat (((List.length more : Nat) : Int) % ((List.length (iMinimalCover ((DrawMinimalCover code).1) ((DrawMinimalCover code).2)) : Nat) : Int))) Dep.zero))) = true) → (((!(Implies ((([] : List Dep) ++ (List.take (Int.toNat (((List.length more : Nat) : Int) % ((List.length (iMinimalCover ((DrawMinimalCover code).1) ((DrawMinimalCover code).2)) : Nat) : Int))) (iMinimalCover ((DrawMinimalCover code).1) ((DrawMinimalCover code).2)))) ++ (List.drop (Int.toNat ((((List.length more : Nat) : Int) % ((List.length (iMinimalCover ((DrawMinimalCover code).1) ((DrawMinimalCover code).2)) : Nat) : Int)) + 1)) (iMinimalCover ((DrawMinimalCover code).1) ((DrawMinimalCover code).2)))) ((DrawMinimalCover code).2) (List.getD (iMinimalCover ((DrawMinimalCover code).1) ((DrawMinimalCover code).2)) (Int.toNat (((List.length more : Nat) : Int) % ((List.length (iMinimalCover ((DrawMinimalCover code).1) ((DrawMinimalCover code).2)) : Nat) : Int))) Dep.zero))) = true))), (((!(Implies ((([] : List Dep) ++ (List.take (Int.toNat (((List.length more : Nat) : Int) % ((List.length (iMinimalCover ((DrawMinimalCover code).1) ((DrawMinimalCover code).2)) : Nat) : Int))) (iMinimalCover ((DrawMinimalCover code).1) ((DrawMinimalCover code).2)))) ++ (List.drop (Int.toNat ((((List.length more : Nat) : Int) % ((List.length (iMinimalCover ((DrawMinimalCover code).1) ((DrawMinimalCover code).2)) : Nat) : Int)) + 1)) (iMinimalCover ((DrawMinimalCover code).1) ((DrawMinimalCover code).2)))) ((DrawMinimalCover code).2) (List.getD (iMinimalCover ((DrawMinimalCover code).1) ((DrawMinimalCover code).2)) (Int.toNat (((List.length more : Nat) : Int) % ((List.length (iMinimalCover ((DrawMinimalCover code).1) ((DrawMinimalCover code).2)) : Nat) : Int))) Dep.zero))) = true) → (True)), (((!(Implies ((([] : List Dep) ++ (List.take (Int.toNat (((List.length more : Nat) : Int) % ((List.length (iMinimalCover ((DrawMinimalCover code).1) ((DrawMinimalCover code).2)) : Nat) : Int))) (iMinimalCover ((DrawMinimalCover code).1) ((DrawMinimalCover code).2)))) ++ (List.drop (Int.toNat ((((List.length more : Nat) : Int) % ((List.length (iMinimalCover ((DrawMinimalCover code).1) ((DrawMinimalCover code).2)) : Nat) : Int)) + 1)) (iMinimalCover ((DrawMinimalCover code).1) ((DrawMinimalCover code).2)))) ((DrawMinimalCover code).2) (List.getD (iMinimalCover ((DrawMinimalCover code).1) ((DrawMinimalCover code).2)) (Int.toNat (((List.length more : Nat) : Int) % ((List.length (iMinimalCover ((DrawMinimalCover code).1) ((DrawMinimalCover code).2)) : Nat) : Int))) Dep.zero))) = true) → (((!(Implies ((([] : List Dep) ++ (List.take (Int.toNat (((List.length more : Nat) : Int) % ((List.length (iMinimalCover ((DrawMinimalCover code).1) ((DrawMinimalCover code).2)) : Nat) : Int))) (iMinimalCover ((DrawMinimalCover code).1) ((DrawMinimalCover code).2)))) ++ (List.drop (Int.toNat ((((List.length more : Nat) : Int) % ((List.length (iMinimalCover ((DrawMinimalCover code).1) ((DrawMinimalCover code).2)) : Nat) : Int)) + 1)) (iMinimalCover ((DrawMinimalCover code).1) ((DrawMinimalCover code).2)))) ((DrawMinimalCover code).2) (List.getD (iMinimalCover ((DrawMinimalCover code).1) ((DrawMinimalCover code).2)) (Int.toNat (((List.length more : Nat) : Int) % ((List.length (iMinimalCover ((DrawMinimalCover code).1) ((DrawMinimalCover code).2)) : Nat) : Int))) Dep.zero))) = true))), (((!(Implies ((([] : List Dep) ++ (List.take (Int.toNat (((List.length more : Nat) : Int) % ((List.length (iMinimalCover ((DrawMinimalCover code).1) ((DrawMinimalCover code).2)) : Nat) : Int))) (iMinimalCover ((DrawMinimalCover code).1) ((DrawMinimalCover code).2)))) ++ (List.drop (Int.toNat ((((List.length more : Nat) : Int) % ((List.length (iMinimalCover ((DrawMinimalCover code).1) ((DrawMinimalCover code).2)) : Nat) : Int)) + 1)) (iMinimalCover ((DrawMinimalCover code).1) ((DrawMinimalCover code).2)))) ((DrawMinimalCover code).2) (List.getD (iMinimalCover ((DrawMinimalCover code).1) ((DrawMinimalCover code).2)) (Int.toNat (((List.length more : Nat) : Int) % ((List.length (iMinimalCover ((DrawMinimalCover code).1) ((DrawMinimalCover code).2)) : Nat) : Int))) Dep.zero))) = true) → (((!(Implies ((([] : List Dep) ++ (List.take (Int.toNat (((List.length more : Nat) : Int) % ((List.length (iMinimalCover ((DrawMinimalCover code).1) ((DrawMinimalCover code).2)) : Nat) : Int))) (iMinimalCover ((DrawMinimalCover code).1) ((DrawMinimalCover code).2)))) ++ (List.drop (Int.toNat ((((List.length more : Nat) : Int) % ((List.length (iMinimalCover ((DrawMinimalCover code).1) ((DrawMinimalCover code).2)) : Nat) : Int)) + 1)) (iMinimalCover ((DrawMinimalCover code).1) ((DrawMinimalCover code).2)))) ((DrawMinimalCover code).2) (List.getD (iMinimalCover ((DrawMinimalCover code).1) ((DrawMinimalCover code).2)) (Int.toNat (((List.length more : Nat) : Int) % ((List.length (iMinimalCover ((DrawMinimalCover code).1) ((DrawMinimalCover code).2)) : Nat) : Int))) Dep.zero))) = true))), (((!(Implies ((([] : List Dep) ++ (List.take (Int.toNat (((List.length more : Nat) : Int) % ((List.length (iMinimalCover ((DrawMinimalCover code).1) ((DrawMinimalCover code).2)) : Nat) : Int))) (iMinimalCover ((DrawMinimalCover code).1) ((DrawMinimalCover code).2)))) ++ (List.drop (Int.toNat ((((List.length more : Nat) : Int) % ((List.length (iMinimalCover ((DrawMinimalCover code).1) ((DrawMinimalCover code).2)) : Nat) : Int)) + 1)) (iMinimalCover ((DrawMinimalCover code).1) ((DrawMinimalCover code).2)))) ((DrawMinimalCover code).2) (List.getD (iMinimalCover ((DrawMinimalCover code).1) ((DrawMinimalCover code).2)) (Int.toNat (((List.length more : Nat) : Int) % ((List.length (iMinimalCover ((DrawMinimalCover code).1) ((DrawMinimalCover code).2)) : Nat) : Int))) Dep.zero))) = true) → (True)), (((!(Implies ((([] : List Dep) ++ (List.take (Int.toNat (((List.length more : Nat) : Int) % ((List.length (iMinimalCover ((DrawMinimalCover code).1) ((DrawMinimalCover code).2)) : Nat) : Int))) (iMinimalCover ((DrawMinimalCover code).1) ((DrawMinimalCover code).2)))) ++ (List.drop (Int.toNat ((((List.length more : Nat) : Int) % ((List.length (iMinimalCover ((DrawMinimalCover code).1) ((DrawMinimalCover code).2)) : Nat) : Int)) + 1)) (iMinimalCover ((DrawMinimalCover code).1) ((DrawMinimalCover code).2)))) ((DrawMinimalCover code).2) (List.getD (iMinimalCover ((DrawMinimalCover code).1) ((DrawMinimalCover code).2)) (Int.toNat (((List.length more : Nat) : Int) % ((List.length (iMinimalCover ((DrawMinimalCover code).1) ((DrawMinimalCover code).2)) : Nat) : Int))) Dep.zero))) = true) → (((!(Implies ((([] : List Dep) ++ (List.take (Int.toNat (((List.length more : Nat) : Int) % ((List.length (iMinimalCover ((DrawMinimalCover code).1) ((DrawMinimalCover code).2)) : Nat) : Int))) (iMinimalCover ((DrawMinimalCover code).1) ((DrawMinimalCover code).2)))) ++ (List.drop (Int.toNat ((((List.length more : Nat) : Int) % ((List.length (iMinimalCover ((DrawMinimalCover code).1) ((DrawMinimalCover code).2)) : Nat) : Int)) + 1)) (iMinimalCover ((DrawMinimalCover code).1) ((DrawMinimalCover code).2)))) ((DrawMinimalCover code).2) (List.getD (iMinimalCover ((DrawMinimalCover code).1) ((DrawMinimalCover code).2)) (Int.toNat (((List.length more : Nat) : Int) % ((List.length (iMinimalCover ((DrawMinimalCover code).1) ((DrawMinimalCover code).2)) : Nat) : Int))) Dep.zero))) = true)))] ?_ ?_)
   ·
    refine ⟨?_, ?_, ?_, ?_, ?_, ?_, ?_, ?_, ?_, trivial⟩
    ·
     omega
    ·
     trivial
    ·
     intro g20
     have g20p0 : (Implies ((([] : List Dep) ++ (List.take (Int.toNat (((List.length more : Nat) : Int) % ((List.length (iMinimalCover ((DrawMinimalCover code).1) ((DrawMinimalCover code).2)) : Nat) : Int))) (iMinimalCover ((DrawMinimalCover code).1) ((DrawMinimalCover code).2)))) ++ (List.drop (Int.toNat ((((List.length more : Nat) : Int) % ((List.length (iMinimalCover ((DrawMinimalCover code).1) ((DrawMinimalCover code).2)) : Nat) : Int)) + 1)) (iMinimalCover ((DrawMinimalCover code).1) ((DrawMinimalCover code).2)))) ((DrawMinimalCover code).2) (List.getD (iMinimalCover ((DrawMinimalCover code).1) ((DrawMinimalCover code).2)) (Int.toNat (((List.length more : Nat) : Int) % ((List.length (iMinimalCover ((DrawMinimalCover code).1) ((DrawMinimalCover code).2)) : Nat) : Int))) Dep.zero)) = false := (Go.Am.not_pos g20)
     assumption
    ·
     intro g21
     have g21p0 : (Implies ((([] : List Dep) ++ (List.take (Int.toNat (((List.length more : Nat) : Int) % ((List.length (iMinimalCover ((DrawMinimalCover code).1) ((DrawMinimalCover code).2)) : Nat) : Int))) (iMinimalCover ((DrawMinimalCover code).1) ((DrawMinimalCover code).2)))) ++ (List.drop (Int.toNat ((((List.length more : Nat) : Int) % ((List.length (iMinimalCover ((DrawMinimalCover code).1) ((DrawMinimalCover code).2)) : Nat) : Int)) + 1)) (iMinimalCover ((DrawMinimalCover code).1) ((DrawMinimalCover code).2)))) ((DrawMinimalCover code).2) (List.getD (iMinimalCover ((DrawMinimalCover code).1) ((DrawMinimalCover code).2)) (Int.toNat (((List.length more : Nat) : Int) % ((List.length (iMinimalCover ((DrawMinimalCover code).1) ((DrawMinimalCover code).2)) : Nat) : Int))) Dep.zero)) = false := (Go.Am.not_pos g21)
     assumption
    ·
     intro g22
     have g22p0 : (Implies ((([] : List Dep) ++ (List.take (Int.toNat (((List.length more : Nat) : Int) % ((List.length (iMinimalCover ((DrawMinimalCover code).1) ((DrawMinimalCover code).2)) : Nat) : Int))) (iMinimalCover ((DrawMinimalCover code).1) ((DrawMinimalCover code).2)))) ++ (List.drop (Int.toNat ((((List.length more : Nat) : Int) % ((List.length (iMinimalCover ((DrawMinimalCover code).1) ((DrawMinimalCover code).2)) : Nat) : Int)) + 1)) (iMinimalCover ((DrawMinimalCover code).1) ((DrawMinimalCover code).2)))) ((DrawMinimalCover code).2) (List.getD (iMinimalCover ((DrawMinimalCover code).1) ((DrawMinimalCover code).2)) (Int.toNat (((List.length more : Nat) : Int) % ((List.length (iMinimalCover ((DrawMinimalCover code).1) ((DrawMinimalCover code).2)) : Nat) : Int))) Dep.zero)) = false := (Go.Am.not_pos g22)
     trivial
    ·
     intro g23
     have g23p0 : (Implies ((([] : List Dep) ++ (List.take (Int.toNat (((List.length more : Nat) : Int) % ((List.length (iMinimalCover ((DrawMinimalCover code).1) ((DrawMinimalCover code).2)) : Nat) : Int))) (iMinimalCover ((DrawMinimalCover code).1) ((DrawMinimalCover code).2)))) ++ (List.drop (Int.toNat ((((List.length more : Nat) : Int) % ((List.length (iMinimalCover ((DrawMinimalCover code).1) ((DrawMinimalCover code).2)) : Nat) : Int)) + 1)) (iMinimalCover ((DrawMinimalCover code).1) ((DrawMinimalCover code).2)))) ((DrawMinimalCover code).2) (List.getD (iMinimalCover ((DrawMinimalCover code).1) ((DrawMinimalCover code).2)) (Int.toNat (((List.length more : Nat) : Int) % ((List.length (iMinimalCover ((DrawMinimalCover code).1) ((DrawMinimalCover code).2)) : Nat) : Int))) Dep.zero)) = false := (Go.Am.not_pos g23)
     assumption
    ·
     intro g24
     have g24p0 : (Implies ((([] : List Dep) ++ (List.take (Int.toNat (((List.length more : Nat) : Int) % ((List.length (iMinimalCover ((DrawMinimalCover code).1) ((DrawMinimalCover code).2)) : Nat) : Int))) (iMinimalCover ((DrawMinimalCover code).1) ((DrawMinimalCover code).2)))) ++ (List.drop (Int.toNat ((((List.length more : Nat) : Int) % ((List.length (iMinimalCover ((DrawMinimalCover code).1) ((DrawMinimalCover code).2)) : Nat) : Int)) + 1)) (iMinimalCover ((DrawMinimalCover code).1) ((DrawMinimalCover code).2)))) ((DrawMinimalCover code).2) (List.getD (iMinimalCover ((DrawMinimalCover code).1) ((DrawMinimalCover code).2)) (Int.toNat (((List.length more : Nat) : Int) % ((List.length (iMinimalCover ((DrawMinimalCover code).1) ((DrawMinimalCover code).2)) : Nat) : Int))) Dep.zero)) = false := (Go.Am.not_pos g24)
     assumption
    ·
     intro g25
     have g25p0 : (Implies ((([] : List Dep) ++ (List.take (Int.toNat (((List.length more : Nat) : Int) % ((List.length (iMinimalCover ((DrawMinimalCover code).1) ((DrawMinimalCover code).2)) : Nat) : Int))) (iMinimalCover ((DrawMinimalCover code).1) ((DrawMinimalCover code).2)))) ++ (List.drop (Int.toNat ((((List.length more : Nat) : Int) % ((List.length (iMinimalCover ((DrawMinimalCover code).1) ((DrawMinimalCover code).2)) : Nat) : Int)) + 1)) (iMinimalCover ((DrawMinimalCover code).1) ((DrawMinimalCover code).2)))) ((DrawMinimalCover code).2) (List.getD (iMinimalCover ((DrawMinimalCover code).1) ((DrawMinimalCover code).2)) (Int.toNat (((List.length more : Nat) : Int) % ((List.length (iMinimalCover ((DrawMinimalCover code).1) ((DrawMinimalCover code).2)) : Nat) : Int))) Dep.zero)) = false := (Go.Am.not_pos g25)
     trivial
    ·
     intro g26
     have g26p0 : (Implies ((([] : List Dep) ++ (List.take (Int.toNat (((List.length more : Nat) : Int) % ((List.length (iMinimalCover ((DrawMinimalCover code).1) ((DrawMinimalCover code).2)) : Nat) : Int))) (iMinimalCover ((DrawMinimalCover code).1) ((DrawMinimalCover code).2)))) ++ (List.drop (Int.toNat ((((List.length more : Nat) : Int) % ((List.length (iMinimalCover ((DrawMinimalCover code).1) ((DrawMinimalCover code).2)) : Nat) : Int)) + 1)) (iMinimalCover ((DrawMinimalCover code).1) ((DrawMinimalCover code).2)))) ((DrawMinimalCover code).2) (List.getD (iMinimalCover ((DrawMinimalCover code).1) ((DrawMinimalCover code).2)) (Int.toNat (((List.length more : Nat) : Int) % ((List.length (iMinimalCover ((DrawMinimalCover code).1) ((DrawMinimalCover code).2)) : Nat) : Int))) Dep.zero)) = false := (Go.Am.not_pos g26)
     assumption
   exact AW.ret (AW.retE (β := Bool) (fun v => [⟨.bool, v⟩]) (fun v => []) (v := (bif (!(Implies ((([] : List Dep) ++ (List.take (Int.toNat (((List.length more : Nat) : Int) % ((List.length (iMinimalCover ((DrawMinimalCover code).1) ((DrawMinimalCover code).2)) : Nat) : Int))) (iMinimalCover ((DrawMinimalCover code).1) ((DrawMinimalCover code).2)))) ++ (List.drop (Int.toNat ((((List.length more : Nat) : Int) % ((List.length (iMinimalCover ((DrawMinimalCover code).1) ((DrawMinimalCover code).2)) : Nat) : Int)) + 1)) (iMinimalCover ((DrawMinimalCover code).1) ((DrawMinimalCover code).2)))) ((DrawMinimalCover code).2) (List.getD (iMinimalCover ((DrawMinimalCover code).1) ((DrawMinimalCover code).2)) (Int.toNat (((List.length more : Nat) : Int) % ((List.length (iMinimalCover ((DrawMinimalCover code).1) ((DrawMinimalCover code).2)) : Nat) : Int))) Dep.zero))) then (equalDependencies (iMinimalCover (iMinimalCover ((DrawMinimalCover code).1) ((DrawMinimalCover code).2)) ((DrawMinimalCover code).2)) (iMinimalCover ((DrawMinimalCover code).1) ((DrawMinimalCover code).2))) else false)) e19 (by kernel_rfl) rfl rfl)

end
end Go.Proofs.Ytmijmkbnmcmgcaa
