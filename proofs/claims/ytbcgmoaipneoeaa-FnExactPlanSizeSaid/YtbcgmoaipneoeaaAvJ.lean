/-
  A part of the proof of this claim (AvJ): what functions of the program compute, and plain facts of that. No conditions.
-/
import Derived.Test.YtbcgmoaipneoeaaAvI
set_option linter.all false
namespace Go.Proofs.Ytbcgmoaipneoeaa
open Go Go.Am
noncomputable section

def WL (ws : List Int) (l : Nat) (p : Pln) : Prop := ∃ f, SizeOf.sizeOf p < f ∧ widthBelow_r f p ws ((l : Nat) : Int) ≠ 0

theorem WL.facts {ws : List Int} {l : Nat} {p : Pln} (h : WL ws l p) : ∃ f, SizeOf.sizeOf p < f + 1 ∧ WF f p ws ((l : Nat) : Int) := by
 obtain ⟨f, h1, h2⟩ := h
 cases f with
 | zero => omega
 | succ f => exact ⟨f, h1, wb_facts h2⟩

theorem WL.kd {ws : List Int} {l : Nat} {p : Pln} (h : WL ws (l + 1) p) {i : Nat} (hi : i < p.Kids.length) : WL ws l (p.Kids.getD i Pln.zero) := by
 obtain ⟨f, h1, h2⟩ := h.facts
 have h3 := h2.kids i hi
 have h4 := pkid_lt hi
 rw [show (((l + 1 : Nat) : Nat) : Int) - 1 = ((l : Nat) : Int) by omega] at h3
 exact ⟨f, by omega, h3⟩

theorem WL.kids2 {ws : List Int} {l : Nat} {p : Pln} (h : WL ws l p) : p.Kids.length ≤ 2 := by
 obtain ⟨f, h1, h2⟩ := h.facts
 have := h2.of.kids
 have := parts2 (Pln.Kind p)
 omega

theorem WL.flat {ws : List Int} {p : Pln} (h : WL ws 0 p) : p.Kids.length = 0 := by
 obtain ⟨f, h1, h2⟩ := h.facts
 refine Decidable.byContradiction fun hn => h2.deep (by omega) rfl

theorem WL.mk' {p : Pln} {ws : List Int} (h : iPlanWidth (Pln.mk (Pln.Kind p) (Pln.Table p) (Pln.Exprs p) (Pln.Cols p) (Pln.Kids p)) ws ≠ 0) : WL ws 8 p := by
 rw [Pln.eta] at h
 unfold iPlanWidth at h
 rw [Pln.eta] at h
 cases hv : ivalidWidths ws with
 | false => rw [hv] at h; exact absurd rfl h
 | true =>
  rw [hv] at h
  exact ⟨_, Nat.lt_succ_self _, h⟩

def wq (n : Int) : Int := IntKind.wrap .i64 n
theorem wq_eq (n : Int) : wq n = IntKind.wrap .i64 n := rfl
theorem wq_add (a b : Int) : wq (wq a + b) = wq (a + b) := by unfold wq; rw [IntKind.wrap_i64, IntKind.wrap_i64, IntKind.wrap_i64]; omega
theorem wq_add2 (a b : Int) : wq (a + wq b) = wq (a + b) := by unfold wq; rw [IntKind.wrap_i64, IntKind.wrap_i64, IntKind.wrap_i64]; omega
theorem wq_in (a : Int) (h : -9223372036854775808 ≤ a ∧ a ≤ 9223372036854775807) : wq a = a := by unfold wq; rw [IntKind.wrap_i64]; omega
theorem wq_b (a : Int) : -9223372036854775808 ≤ wq a ∧ wq a ≤ 9223372036854775807 := by unfold wq; rw [IntKind.wrap_i64]; omega
attribute [irreducible] wq
abbrev qc : SV := .clo 20 [.ref 20 1 0]
abbrev qL (p : Pln) : SV := sI ((List.length (Pln.Kids p) : Nat) : Int)
abbrev qN (n : Nat) : SV := sI ((n : Nat) : Int)
abbrev qb (p : Pln) : Nat × Blk := (8, .box 1 [sI (Pln.Kind p), sI (Pln.Table p), sD10 (Pln.Exprs p), sD9 (Pln.Cols p), sD11 (Pln.Kids p)])
abbrev q1 (p : Pln) (a0 : Nat) : Pln := List.getD (Pln.Kids p) a0 Pln.zero
abbrev q2 (p : Pln) (a0 a1 : Nat) : Pln := List.getD (Pln.Kids (q1 p a0)) a1 Pln.zero
abbrev q3 (p : Pln) (a0 a1 a2 : Nat) : Pln := List.getD (Pln.Kids (q2 p a0 a1)) a2 Pln.zero
abbrev q4 (p : Pln) (a0 a1 a2 a3 : Nat) : Pln := List.getD (Pln.Kids (q3 p a0 a1 a2)) a3 Pln.zero
abbrev q5 (p : Pln) (a0 a1 a2 a3 a4 : Nat) : Pln := List.getD (Pln.Kids (q4 p a0 a1 a2 a3)) a4 Pln.zero
abbrev q6 (p : Pln) (a0 a1 a2 a3 a4 a5 : Nat) : Pln := List.getD (Pln.Kids (q5 p a0 a1 a2 a3 a4)) a5 Pln.zero
abbrev q7 (p : Pln) (a0 a1 a2 a3 a4 a5 a6 : Nat) : Pln := List.getD (Pln.Kids (q6 p a0 a1 a2 a3 a4 a5)) a6 Pln.zero
abbrev q8 (p : Pln) (a0 a1 a2 a3 a4 a5 a6 a7 : Nat) : Pln := List.getD (Pln.Kids (q7 p a0 a1 a2 a3 a4 a5 a6)) a7 Pln.zero

def iPlanSize_l8 : Nat → Unit
 | 0 => ()
 | k + 1 => ()

def iPlanSize_l7 (p : Pln) (a0 : Nat) (a1 : Nat) (a2 : Nat) (a3 : Nat) (a4 : Nat) (a5 : Nat) (a6 : Nat) : Nat → Nat → Int → Int
 | 0, a7, n7 => n7
 | k + 1, a7, n7 => (bif (decide (((a7 : Nat) : Int) < ((List.length (Pln.Kids (q7 p a0 a1 a2 a3 a4 a5 a6)) : Nat) : Int))) then (Go.Am.andThen (iPlanSize_l8 (0 + 1)) (fun _ => (iPlanSize_l7 p a0 a1 a2 a3 a4 a5 a6 k (a7 + 1) (wq (n7 + 1))))) else n7)

def iPlanSize_l6 (p : Pln) (a0 : Nat) (a1 : Nat) (a2 : Nat) (a3 : Nat) (a4 : Nat) (a5 : Nat) : Nat → Nat → Int → Int
 | 0, a6, n6 => n6
 | k + 1, a6, n6 => (bif (decide (((a6 : Nat) : Int) < ((List.length (Pln.Kids (q6 p a0 a1 a2 a3 a4 a5)) : Nat) : Int))) then (Go.Am.andThen (iPlanSize_l7 p a0 a1 a2 a3 a4 a5 a6 ((List.length (Pln.Kids (q7 p a0 a1 a2 a3 a4 a5 a6))) - 0 + 1) 0 (wq (n6 + 1))) (fun z => (fun (n7 : Int) => (iPlanSize_l6 p a0 a1 a2 a3 a4 a5 k (a6 + 1) n7)) z)) else n6)

def iPlanSize_l5 (p : Pln) (a0 : Nat) (a1 : Nat) (a2 : Nat) (a3 : Nat) (a4 : Nat) : Nat → Nat → Int → Int
 | 0, a5, n5 => n5
 | k + 1, a5, n5 => (bif (decide (((a5 : Nat) : Int) < ((List.length (Pln.Kids (q5 p a0 a1 a2 a3 a4)) : Nat) : Int))) then (Go.Am.andThen (iPlanSize_l6 p a0 a1 a2 a3 a4 a5 ((List.length (Pln.Kids (q6 p a0 a1 a2 a3 a4 a5))) - 0 + 1) 0 (wq (n5 + 1))) (fun z => (fun (n6 : Int) => (iPlanSize_l5 p a0 a1 a2 a3 a4 k (a5 + 1) n6)) z)) else n5)

def iPlanSize_l4 (p : Pln) (a0 : Nat) (a1 : Nat) (a2 : Nat) (a3 : Nat) : Nat → Nat → Int → Int
 | 0, a4, n4 => n4
 | k + 1, a4, n4 => (bif (decide (((a4 : Nat) : Int) < ((List.length (Pln.Kids (q4 p a0 a1 a2 a3)) : Nat) : Int))) then (Go.Am.andThen (iPlanSize_l5 p a0 a1 a2 a3 a4 ((List.length (Pln.Kids (q5 p a0 a1 a2 a3 a4))) - 0 + 1) 0 (wq (n4 + 1))) (fun z => (fun (n5 : Int) => (iPlanSize_l4 p a0 a1 a2 a3 k (a4 + 1) n5)) z)) else n4)

def iPlanSize_l3 (p : Pln) (a0 : Nat) (a1 : Nat) (a2 : Nat) : Nat → Nat → Int → Int
 | 0, a3, n3 => n3
 | k + 1, a3, n3 => (bif (decide (((a3 : Nat) : Int) < ((List.length (Pln.Kids (q3 p a0 a1 a2)) : Nat) : Int))) then (Go.Am.andThen (iPlanSize_l4 p a0 a1 a2 a3 ((List.length (Pln.Kids (q4 p a0 a1 a2 a3))) - 0 + 1) 0 (wq (n3 + 1))) (fun z => (fun (n4 : Int) => (iPlanSize_l3 p a0 a1 a2 k (a3 + 1) n4)) z)) else n3)

def iPlanSize_l2 (p : Pln) (a0 : Nat) (a1 : Nat) : Nat → Nat → Int → Int
 | 0, a2, n2 => n2
 | k + 1, a2, n2 => (bif (decide (((a2 : Nat) : Int) < ((List.length (Pln.Kids (q2 p a0 a1)) : Nat) : Int))) then (Go.Am.andThen (iPlanSize_l3 p a0 a1 a2 ((List.length (Pln.Kids (q3 p a0 a1 a2))) - 0 + 1) 0 (wq (n2 + 1))) (fun z => (fun (n3 : Int) => (iPlanSize_l2 p a0 a1 k (a2 + 1) n3)) z)) else n2)

def iPlanSize_l1 (p : Pln) (a0 : Nat) : Nat → Nat → Int → Int
 | 0, a1, n1 => n1
 | k + 1, a1, n1 => (bif (decide (((a1 : Nat) : Int) < ((List.length (Pln.Kids (q1 p a0)) : Nat) : Int))) then (Go.Am.andThen (iPlanSize_l2 p a0 a1 ((List.length (Pln.Kids (q2 p a0 a1))) - 0 + 1) 0 (wq (n1 + 1))) (fun z => (fun (n2 : Int) => (iPlanSize_l1 p a0 k (a1 + 1) n2)) z)) else n1)

def iPlanSize_l0 (p : Pln) : Nat → Nat → Int → Int
 | 0, a0, n => n
 | k + 1, a0, n => (bif (decide (((a0 : Nat) : Int) < ((List.length (Pln.Kids p) : Nat) : Int))) then (Go.Am.andThen (iPlanSize_l1 p a0 ((List.length (Pln.Kids (q1 p a0))) - 0 + 1) 0 (wq (n + 1))) (fun z => (fun (n1 : Int) => (iPlanSize_l0 p k (a0 + 1) n1)) z)) else n)

def iPlanSize (p : Pln) (ws : List Int) : Int := (bif ((iPlanWidth (Pln.mk (Pln.Kind p) (Pln.Table p) (Pln.Exprs p) (Pln.Cols p) (Pln.Kids p)) ws) == 0) then 0 else (Go.Am.andThen (iPlanSize_l0 p ((List.length (Pln.Kids p)) - 0 + 1) 0 (wq ((0 : Int) + 1))) (fun z => (fun (n : Int) => n) z)))

def iPlanSize_sp : FnSpec := mkSpec [.val (.named 2), .val (.slice (.int .i64))] [.val (.int .i64)] (fun (p : Pln) (ws : List Int) => True) (fun (p : Pln) (ws : List Int) => [⟨(.int .i64), (iPlanSize p ws)⟩])

theorem iPlanSize_ok : FnOK Try.prog 8 iPlanSize_sp := by
 have hC : CtxOK Try.prog (mkCtx tyL [(18, iPlanWidth_sp)]) := CtxOK.cons iPlanWidth_ok (CtxOK.nil tyOK)
 have hC1 := hC.rebase 1000
 have hC2 := hC.rebase 2000
 have hC3 := hC.rebase 3000
 have hC4 := hC.rebase 4000
 have hC5 := hC.rebase 5000
 have hC6 := hC.rebase 6000
 have hC7 := hC.rebase 7000
 have hC8 := hC.rebase 8000
 have hC9 := hC.rebase 9000
 have hC10 := hC.rebase 10000
 refine FnOK.of_body Try.func8 (by kernel_rfl) rfl (C := (mkCtx tyL [(18, iPlanWidth_sp)])) hC.ty (by kernel_rfl) ?_
 intro (p : Pln) (ws : List Int) hwf hpre E
 have hpre : True := hpre
 have hw_p : Wf ⟨(.named 2), (p : Pln)⟩ := hwf _ (List.Mem.head _)
 obtain ⟨hr_p_Kind, hr_p_Table, hl_p_Exprs, hl_p_Cols, hl_p_Kids⟩ := Pln.wfl hw_p
 have hw_ws : Wf ⟨(.slice (.int .i64)), (ws : List Int)⟩ := hwf _ (List.Mem.tail _ (List.Mem.head _))
 have hl_ws : ((List.length ws : Nat) : Int) ≤ 9223372036854775807 := hw_ws.len
 have e0 : iPlanSize p ws = iPlanSize p ws := rfl
 refine AW.seq (AW.r1 hC [1, 2] [8] ⟨[(1, sD9 ws), (2, .ref 8 1 0)], [qb p]⟩ ?_)
 refine AW.seq (AW.seq (AW.r0 hC [2, 9] [8] ⟨[(2, .ref 8 1 0), (9, sB ((iPlanWidth (Pln.mk (Pln.Kind p) (Pln.Table p) (Pln.Exprs p) (Pln.Cols p) (Pln.Kids p)) ws) == 0))], [qb p]⟩ [(True)] ?_ ?_))
 ·
  refine ⟨?_, trivial⟩
  ·
   trivial
 refine AW.cd ((iPlanWidth (Pln.mk (Pln.Kind p) (Pln.Table p) (Pln.Exprs p) (Pln.Cols p) (Pln.Kids p)) ws) == 0) ?_ ?_
 ·
  intro h1
  have h1q := (Go.Am.beq_pos h1)
  have e2 := e0.trans (Go.Am.bif_t h1)
  refine AW.seq (AW.r1 hC [4] [] ⟨[(4, sI 0)], []⟩ ?_)
  exact AW.ret (AW.rI 0 e2)
 ·
  intro h3
  have h3q := (Go.Am.beq_neg h3)
  have e4 := e0.trans (Go.Am.bif_f h3)
  refine AW.kp [2] [8] ⟨[(2, .ref 8 1 0)], [qb p]⟩ ?_
  refine AW.skip (AW.seq ?_)
  have hN := WL.mk' h3q
  refine AW.r1 hC [2, 5] [8, 20] ⟨[(2, .ref 8 1 0), (5, .ref 20 1 0)], [qb p, (20, .box 1 [sI 0])]⟩ ?_
  refine AW.seq (AW.regionO [0, 1] (by rfl) ?_)
  refine AWO.run hC false [] [0] [1] [2, 5, 10] [8, 20]
   ⟨[(2, .ref 8 1 0), (5, .ref 20 1 0), (10, qc)], [qb p, (20, .box 1 [sI 0])]⟩
   [] (by rfl) (by kernel_rfl) ?_ ?_
  ·
   exact trivial
  refine AWO.call hC.ty (vs := [.ref 8 1 0, qc]) (caps := []) (by rfl) rfl (.inl rfl) (by decide) (by kernel_rfl) (by kernel_rfl) Try.func19 (by kernel_rfl) rfl (by kernel_rfl) ?_
  intro o1
  refine AW.kp [0, 1, 1005] [8, 20] ⟨[(0, .ref 8 1 0), (1, qc), (1005, .ref 20 1 0)], [qb p, (20, .box 1 [sI 0])]⟩ ?_
  refine AW.seq (AW.regionO [0, 1, 2] (by rfl) ?_)
  refine AWO.run hC1 false [] [0, 1] [2] [0, 1, 5, 6, 1005] [8, 20]
   ⟨[(0, .ref 8 1 0), (1, qc), (5, qc), (6, .ref 8 1 0), (1005, .ref 20 1 0)], [qb p, (20, .box 1 [sI 0])]⟩
   [] (by rfl) (by kernel_rfl) ?_ ?_
  ·
   exact trivial
  refine AWO.call hC1.ty (vs := [.ref 8 1 0]) (caps := [.ref 20 1 0]) (by rfl) rfl (.inl rfl) (by decide) (by kernel_rfl) (by kernel_rfl) Try.func20 (by kernel_rfl) rfl (by kernel_rfl) ?_
  intro o2
  refine AW.kp [0, 1, 1000, 1001, 2005] [8, 20] ⟨[(0, .ref 8 1 0), (1, .ref 20 1 0), (1000, .ref 8 1 0), (1001, qc), (2005, .ref 20 1 0)], [qb p, (20, .box 1 [sI 0])]⟩ ?_
  refine AW.reg hC2  true [] [1000, 1001, 2005] [8, 20]
   ⟨[(1000, .ref 8 1 0), (1001, qc), (2005, .ref 20 1 0)], [qb p, (20, .box 1 [sI (wq ((0 : Int) + 1))])]⟩
   [] (by kernel_rfl) ?_ ?_
  ·
   exact trivial
  refine ⟨[], by kernel_rfl, ?_⟩
  refine AWO.keep [0, 1, 1005] [8, 20] ⟨[(0, .ref 8 1 0), (1, qc), (1005, .ref 20 1 0)], [qb p, (20, .box 1 [sI (wq ((0 : Int) + 1))])]⟩ (by kernel_rfl) ?_
  refine AWO.run hC1 false [] [] [] [0, 1, 1005] [8, 20]
   ⟨[(0, .ref 8 1 0), (1, qc), (1005, .ref 20 1 0)], [qb p, (20, .box 1 [sI (wq ((0 : Int) + 1))])]⟩
   [] (by rfl) (by kernel_rfl) ?_ ?_
  ·
   exact trivial
  refine AWO.nil ?_
  refine AW.seq (AW.r1 hC1 [0, 1, 12, 13, 1005] [8, 20] ⟨[(0, .ref 8 1 0), (1, qc), (12, qL p), (13, sI 0), (1005, .ref 20 1 0)], [qb p, (20, .box 1 [sI (wq ((0 : Int) + 1))])]⟩ ?_)
  refine AW.cutQ (α := Int) (fun x => ⟨[(1005, .ref 20 1 0)], [(20, .box 1 [sI x])]⟩) (fun x => (True) ∧ (iPlanSize_l0 p ((List.length (Pln.Kids p)) - 0 + 1) 0 (wq ((0 : Int) + 1))) = x) ?_ ?_
  ·
   skip
   refine AW.block (AW.loop (α := Nat × Int) (fun x => ⟨[(0, .ref 8 1 0), (1, qc), (12, qL p), (13, sI ((x.1 : Nat) : Int)), (1005, .ref 20 1 0)], [qb p, (20, .box 1 [sI x.2])]⟩) (fun x => (True) ∧ ∃ k, (List.length (Pln.Kids p)) - x.1 < k ∧ (iPlanSize_l0 p ((List.length (Pln.Kids p)) - 0 + 1) 0 (wq ((0 : Int) + 1))) = iPlanSize_l0 p k x.1 x.2) (fun x => (List.length (Pln.Kids p)) - x.1) (0, (wq ((0 : Int) + 1))) (by kernel_rfl) ⟨?_, _, Nat.lt_succ_self _, rfl⟩ ?_)
   ·
    show True
    first | exact trivial | (refine ⟨?_, ?_⟩ <;> first | omega | simp) | omega | simp
   ·
    intro x hR
    obtain ⟨a0, n⟩ := x
    obtain ⟨hI0, k11746, hk11744, e11745⟩ := hR
    replace hI0 : True := hI0
    replace hk11744 : (List.length (Pln.Kids p)) - a0 < k11746 := hk11744
    obtain ⟨k11746q, rfl⟩ : ∃ k, k11746 = k + 1 := ⟨k11746 - 1, by omega⟩
    have hK := hN.kids2
    refine AW.seq (AW.r1 hC1 [0, 1, 12, 13, 14, 1005] [8, 20] ⟨[(0, .ref 8 1 0), (1, qc), (12, qL p), (13, qN a0), (14, sB (decide (((a0 : Nat) : Int) < ((List.length (Pln.Kids p) : Nat) : Int)))), (1005, .ref 20 1 0)], [qb p, (20, .box 1 [sI n])]⟩ ?_)
    refine AW.seq (AW.cd (decide (((a0 : Nat) : Int) < ((List.length (Pln.Kids p) : Nat) : Int))) ?_ ?_)
    ·
     intro h11747
     have h11747q := (of_decide_eq_true h11747)
     have e11748 := e11745.trans (Go.Am.bif_t h11747)
     refine AW.kp [0, 1, 12, 13, 1005] [8, 20] ⟨[(0, .ref 8 1 0), (1, qc), (12, qL p), (13, qN a0), (1005, .ref 20 1 0)], [qb p, (20, .box 1 [sI n])]⟩ ?_
     refine AW.skip (AW.seq (AW.block (AW.seq ?_)))
     have hN : WL ws 7 (q1 p a0) := hN.kd (Int.ofNat_lt.1 h11747q)
     refine AW.r1 hC1 [0, 1, 4, 12, 13, 1005] [8, 20] ⟨[(0, .ref 8 1 0), (1, qc), (4, qN a0), (12, qL p), (13, qN a0), (1005, .ref 20 1 0)], [qb p, (20, .box 1 [sI n])]⟩ ?_
     refine AW.regionO [0, 1, 2, 3, 4, 5, 6, 7] (by rfl) ?_
     refine AWO.run hC1 false [] [0, 1, 2, 3, 4, 5, 6] [7] [0, 1, 12, 13, 21, 22, 1005] [8, 20]
      ⟨[(0, .ref 8 1 0), (1, qc), (12, qL p), (13, qN a0), (21, sR8 (q1 p a0)), (22, qc), (1005, .ref 20 1 0)], [qb p, (20, .box 1 [sI n])]⟩
      [IX ((a0 : Nat) : Int) ((List.length (Pln.Kids p) : Nat) : Int)] (by rfl) (by kernel_rfl) ?_ ?_
     ·
      refine ⟨?_, trivial⟩
      ·
       refine IX.of ?_
       first | omega | (dsimp only; omega) | (simp only [lens] at *; omega)
     refine AWO.call hC1.ty (vs := [sR8 (q1 p a0), qc]) (caps := []) (by rfl) rfl (.inl rfl) (by decide) (by kernel_rfl) (by kernel_rfl) Try.func19 (by kernel_rfl) rfl (by kernel_rfl) ?_
     intro o2
     refine AW.kp [0, 1, 1000, 1001, 1012, 1013, 2005] [8, 20] ⟨[(0, sR8 (q1 p a0)), (1, qc), (1000, .ref 8 1 0), (1001, qc), (1012, qL p), (1013, qN a0), (2005, .ref 20 1 0)], [qb p, (20, .box 1 [sI n])]⟩ ?_
     refine AW.seq (AW.regionO [0, 1, 2] (by rfl) ?_)
     refine AWO.run hC2 false [] [0, 1] [2] [0, 1, 5, 6, 1000, 1001, 1012, 1013, 2005] [8, 20]
      ⟨[(0, sR8 (q1 p a0)), (1, qc), (5, qc), (6, sR8 (q1 p a0)), (1000, .ref 8 1 0), (1001, qc), (1012, qL p), (1013, qN a0), (2005, .ref 20 1 0)], [qb p, (20, .box 1 [sI n])]⟩
      [] (by rfl) (by kernel_rfl) ?_ ?_
     ·
      exact trivial
     refine AWO.call hC2.ty (vs := [sR8 (q1 p a0)]) (caps := [.ref 20 1 0]) (by rfl) rfl (.inl rfl) (by decide) (by kernel_rfl) (by kernel_rfl) Try.func20 (by kernel_rfl) rfl (by kernel_rfl) ?_
     intro o3
     refine AW.kp [0, 1, 1000, 1001, 2000, 2001, 2012, 2013, 3005] [8, 20] ⟨[(0, sR8 (q1 p a0)), (1, .ref 20 1 0), (1000, sR8 (q1 p a0)), (1001, qc), (2000, .ref 8 1 0), (2001, qc), (2012, qL p), (2013, qN a0), (3005, .ref 20 1 0)], [qb p, (20, .box 1 [sI n])]⟩ ?_
     refine AW.reg hC3  true [] [1000, 1001, 2000, 2001, 2012, 2013, 3005] [8, 20]
      ⟨[(1000, sR8 (q1 p a0)), (1001, qc), (2000, .ref 8 1 0), (2001, qc), (2012, qL p), (2013, qN a0), (3005, .ref 20 1 0)], [qb p, (20, .box 1 [sI (wq (n + 1))])]⟩
      [] (by kernel_rfl) ?_ ?_
     ·
      exact trivial
     refine ⟨[], by kernel_rfl, ?_⟩
     refine AWO.keep [0, 1, 1000, 1001, 1012, 1013, 2005] [8, 20] ⟨[(0, sR8 (q1 p a0)), (1, qc), (1000, .ref 8 1 0), (1001, qc), (1012, qL p), (1013, qN a0), (2005, .ref 20 1 0)], [qb p, (20, .box 1 [sI (wq (n + 1))])]⟩ (by kernel_rfl) ?_
     refine AWO.run hC2 false [] [] [] [0, 1, 1000, 1001, 1012, 1013, 2005] [8, 20]
      ⟨[(0, sR8 (q1 p a0)), (1, qc), (1000, .ref 8 1 0), (1001, qc), (1012, qL p), (1013, qN a0), (2005, .ref 20 1 0)], [qb p, (20, .box 1 [sI (wq (n + 1))])]⟩
      [] (by rfl) (by kernel_rfl) ?_ ?_
     ·
      exact trivial
     refine AWO.nil ?_
     refine AW.seq (AW.r1 hC2 [0, 1, 12, 13, 1000, 1001, 1012, 1013, 2005] [8, 20] ⟨[(0, sR8 (q1 p a0)), (1, qc), (12, qL (q1 p a0)), (13, sI 0), (1000, .ref 8 1 0), (1001, qc), (1012, qL p), (1013, qN a0), (2005, .ref 20 1 0)], [qb p, (20, .box 1 [sI (wq (n + 1))])]⟩ ?_)
     refine AW.cutQ (α := Int) (fun x => ⟨[(1000, .ref 8 1 0), (1001, qc), (1012, qL p), (1013, qN a0), (2005, .ref 20 1 0)], [qb p, (20, .box 1 [sI x])]⟩) (fun x => (True) ∧ (iPlanSize_l1 p a0 ((List.length (Pln.Kids (q1 p a0))) - 0 + 1) 0 (wq (n + 1))) = x) ?_ ?_
     ·
      skip
      refine AW.block (AW.loop (α := Nat × Int) (fun x => ⟨[(0, sR8 (q1 p a0)), (1, qc), (12, qL (q1 p a0)), (13, sI ((x.1 : Nat) : Int)), (1000, .ref 8 1 0), (1001, qc), (1012, qL p), (1013, qN a0), (2005, .ref 20 1 0)], [qb p, (20, .box 1 [sI x.2])]⟩) (fun x => (True) ∧ ∃ k, (List.length (Pln.Kids (q1 p a0))) - x.1 < k ∧ (iPlanSize_l1 p a0 ((List.length (Pln.Kids (q1 p a0))) - 0 + 1) 0 (wq (n + 1))) = iPlanSize_l1 p a0 k x.1 x.2) (fun x => (List.length (Pln.Kids (q1 p a0))) - x.1) (0, (wq (n + 1))) (by kernel_rfl) ⟨?_, _, Nat.lt_succ_self _, rfl⟩ ?_)
      ·
       show True
       first | exact trivial | (refine ⟨?_, ?_⟩ <;> first | omega | simp) | omega | simp
      ·
       intro x hR
       obtain ⟨a1, n1⟩ := x
       obtain ⟨hI1, k11756, hk11754, e11755⟩ := hR
       replace hI1 : True := hI1
       replace hk11754 : (List.length (Pln.Kids (q1 p a0))) - a1 < k11756 := hk11754
       obtain ⟨k11756q, rfl⟩ : ∃ k, k11756 = k + 1 := ⟨k11756 - 1, by omega⟩
       have hK := hN.kids2
       refine AW.seq (AW.r1 hC2 [0, 1, 12, 13, 14, 1000, 1001, 1012, 1013, 2005] [8, 20] ⟨[(0, sR8 (q1 p a0)), (1, qc), (12, qL (q1 p a0)), (13, qN a1), (14, sB (decide (((a1 : Nat) : Int) < ((List.length (Pln.Kids (q1 p a0)) : Nat) : Int)))), (1000, .ref 8 1 0), (1001, qc), (1012, qL p), (1013, qN a0), (2005, .ref 20 1 0)], [qb p, (20, .box 1 [sI n1])]⟩ ?_)
       refine AW.seq (AW.cd (decide (((a1 : Nat) : Int) < ((List.length (Pln.Kids (q1 p a0)) : Nat) : Int))) ?_ ?_)
       ·
        intro h11757
        have h11757q := (of_decide_eq_true h11757)
        have e11758 := e11755.trans (Go.Am.bif_t h11757)
        refine AW.kp [0, 1, 12, 13, 1000, 1001, 1012, 1013, 2005] [8, 20] ⟨[(0, sR8 (q1 p a0)), (1, qc), (12, qL (q1 p a0)), (13, qN a1), (1000, .ref 8 1 0), (1001, qc), (1012, qL p), (1013, qN a0), (2005, .ref 20 1 0)], [qb p, (20, .box 1 [sI n1])]⟩ ?_
        refine AW.skip (AW.seq (AW.block (AW.seq ?_)))
        have hN : WL ws 6 (q2 p a0 a1) := hN.kd (Int.ofNat_lt.1 h11757q)
        refine AW.r1 hC2 [0, 1, 4, 12, 13, 1000, 1001, 1012, 1013, 2005] [8, 20] ⟨[(0, sR8 (q1 p a0)), (1, qc), (4, qN a1), (12, qL (q1 p a0)), (13, qN a1), (1000, .ref 8 1 0), (1001, qc), (1012, qL p), (1013, qN a0), (2005, .ref 20 1 0)], [qb p, (20, .box 1 [sI n1])]⟩ ?_
        refine AW.regionO [0, 1, 2, 3, 4, 5, 6, 7] (by rfl) ?_
        refine AWO.run hC2 false [] [0, 1, 2, 3, 4, 5, 6] [7] [0, 1, 12, 13, 21, 22, 1000, 1001, 1012, 1013, 2005] [8, 20]
         ⟨[(0, sR8 (q1 p a0)), (1, qc), (12, qL (q1 p a0)), (13, qN a1), (21, sR8 (q2 p a0 a1)), (22, qc), (1000, .ref 8 1 0), (1001, qc), (1012, qL p), (1013, qN a0), (2005, .ref 20 1 0)], [qb p, (20, .box 1 [sI n1])]⟩
         [IX ((a1 : Nat) : Int) ((List.length (Pln.Kids (q1 p a0)) : Nat) : Int)] (by rfl) (by kernel_rfl) ?_ ?_
        ·
         refine ⟨?_, trivial⟩
         ·
          refine IX.of ?_
          first | omega | (dsimp only; omega) | (simp only [lens] at *; omega)
        refine AWO.call hC2.ty (vs := [sR8 (q2 p a0 a1), qc]) (caps := []) (by rfl) rfl (.inl rfl) (by decide) (by kernel_rfl) (by kernel_rfl) Try.func19 (by kernel_rfl) rfl (by kernel_rfl) ?_
        intro o3
        refine AW.kp [0, 1, 1000, 1001, 1012, 1013, 2000, 2001, 2012, 2013, 3005] [8, 20] ⟨[(0, sR8 (q2 p a0 a1)), (1, qc), (1000, sR8 (q1 p a0)), (1001, qc), (1012, qL (q1 p a0)), (1013, qN a1), (2000, .ref 8 1 0), (2001, qc), (2012, qL p), (2013, qN a0), (3005, .ref 20 1 0)], [qb p, (20, .box 1 [sI n1])]⟩ ?_
        refine AW.seq (AW.regionO [0, 1, 2] (by rfl) ?_)
        refine AWO.run hC3 false [] [0, 1] [2] [0, 1, 5, 6, 1000, 1001, 1012, 1013, 2000, 2001, 2012, 2013, 3005] [8, 20]
         ⟨[(0, sR8 (q2 p a0 a1)), (1, qc), (5, qc), (6, sR8 (q2 p a0 a1)), (1000, sR8 (q1 p a0)), (1001, qc), (1012, qL (q1 p a0)), (1013, qN a1), (2000, .ref 8 1 0), (2001, qc), (2012, qL p), (2013, qN a0), (3005, .ref 20 1 0)], [qb p, (20, .box 1 [sI n1])]⟩
         [] (by rfl) (by kernel_rfl) ?_ ?_
        ·
         exact trivial
        refine AWO.call hC3.ty (vs := [sR8 (q2 p a0 a1)]) (caps := [.ref 20 1 0]) (by rfl) rfl (.inl rfl) (by decide) (by kernel_rfl) (by kernel_rfl) Try.func20 (by kernel_rfl) rfl (by kernel_rfl) ?_
        intro o4
        refine AW.kp [0, 1, 1000, 1001, 2000, 2001, 2012, 2013, 3000, 3001, 3012, 3013, 4005] [8, 20] ⟨[(0, sR8 (q2 p a0 a1)), (1, .ref 20 1 0), (1000, sR8 (q2 p a0 a1)), (1001, qc), (2000, sR8 (q1 p a0)), (2001, qc), (2012, qL (q1 p a0)), (2013, qN a1), (3000, .ref 8 1 0), (3001, qc), (3012, qL p), (3013, qN a0), (4005, .ref 20 1 0)], [qb p, (20, .box 1 [sI n1])]⟩ ?_
        refine AW.reg hC4  true [] [1000, 1001, 2000, 2001, 2012, 2013, 3000, 3001, 3012, 3013, 4005] [8, 20]
         ⟨[(1000, sR8 (q2 p a0 a1)), (1001, qc), (2000, sR8 (q1 p a0)), (2001, qc), (2012, qL (q1 p a0)), (2013, qN a1), (3000, .ref 8 1 0), (3001, qc), (3012, qL p), (3013, qN a0), (4005, .ref 20 1 0)], [qb p, (20, .box 1 [sI (wq (n1 + 1))])]⟩
         [] (by kernel_rfl) ?_ ?_
        ·
         exact trivial
        refine ⟨[], by kernel_rfl, ?_⟩
        refine AWO.keep [0, 1, 1000, 1001, 1012, 1013, 2000, 2001, 2012, 2013, 3005] [8, 20] ⟨[(0, sR8 (q2 p a0 a1)), (1, qc), (1000, sR8 (q1 p a0)), (1001, qc), (1012, qL (q1 p a0)), (1013, qN a1), (2000, .ref 8 1 0), (2001, qc), (2012, qL p), (2013, qN a0), (3005, .ref 20 1 0)], [qb p, (20, .box 1 [sI (wq (n1 + 1))])]⟩ (by kernel_rfl) ?_
        refine AWO.run hC3 false [] [] [] [0, 1, 1000, 1001, 1012, 1013, 2000, 2001, 2012, 2013, 3005] [8, 20]
         ⟨[(0, sR8 (q2 p a0 a1)), (1, qc), (1000, sR8 (q1 p a0)), (1001, qc), (1012, qL (q1 p a0)), (1013, qN a1), (2000, .ref 8 1 0), (2001, qc), (2012, qL p), (2013, qN a0), (3005, .ref 20 1 0)], [qb p, (20, .box 1 [sI (wq (n1 + 1))])]⟩
         [] (by rfl) (by kernel_rfl) ?_ ?_
        ·
         exact trivial
        refine AWO.nil ?_
        refine AW.seq (AW.r1 hC3 [0, 1, 12, 13, 1000, 1001, 1012, 1013, 2000, 2001, 2012, 2013, 3005] [8, 20] ⟨[(0, sR8 (q2 p a0 a1)), (1, qc), (12, qL (q2 p a0 a1)), (13, sI 0), (1000, sR8 (q1 p a0)), (1001, qc), (1012, qL (q1 p a0)), (1013, qN a1), (2000, .ref 8 1 0), (2001, qc), (2012, qL p), (2013, qN a0), (3005, .ref 20 1 0)], [qb p, (20, .box 1 [sI (wq (n1 + 1))])]⟩ ?_)
        refine AW.cutQ (α := Int) (fun x => ⟨[(1000, sR8 (q1 p a0)), (1001, qc), (1012, qL (q1 p a0)), (1013, qN a1), (2000, .ref 8 1 0), (2001, qc), (2012, qL p), (2013, qN a0), (3005, .ref 20 1 0)], [qb p, (20, .box 1 [sI x])]⟩) (fun x => (True) ∧ (iPlanSize_l2 p a0 a1 ((List.length (Pln.Kids (q2 p a0 a1))) - 0 + 1) 0 (wq (n1 + 1))) = x) ?_ ?_
        ·
         skip
         refine AW.block (AW.loop (α := Nat × Int) (fun x => ⟨[(0, sR8 (q2 p a0 a1)), (1, qc), (12, qL (q2 p a0 a1)), (13, sI ((x.1 : Nat) : Int)), (1000, sR8 (q1 p a0)), (1001, qc), (1012, qL (q1 p a0)), (1013, qN a1), (2000, .ref 8 1 0), (2001, qc), (2012, qL p), (2013, qN a0), (3005, .ref 20 1 0)], [qb p, (20, .box 1 [sI x.2])]⟩) (fun x => (True) ∧ ∃ k, (List.length (Pln.Kids (q2 p a0 a1))) - x.1 < k ∧ (iPlanSize_l2 p a0 a1 ((List.length (Pln.Kids (q2 p a0 a1))) - 0 + 1) 0 (wq (n1 + 1))) = iPlanSize_l2 p a0 a1 k x.1 x.2) (fun x => (List.length (Pln.Kids (q2 p a0 a1))) - x.1) (0, (wq (n1 + 1))) (by kernel_rfl) ⟨?_, _, Nat.lt_succ_self _, rfl⟩ ?_)
         ·
          show True
          first | exact trivial | (refine ⟨?_, ?_⟩ <;> first | omega | simp) | omega | simp
         ·
          intro x hR
          obtain ⟨a2, n2⟩ := x
          obtain ⟨hI2, k11766, hk11764, e11765⟩ := hR
          replace hI2 : True := hI2
          replace hk11764 : (List.length (Pln.Kids (q2 p a0 a1))) - a2 < k11766 := hk11764
          obtain ⟨k11766q, rfl⟩ : ∃ k, k11766 = k + 1 := ⟨k11766 - 1, by omega⟩
          have hK := hN.kids2
          refine AW.seq (AW.r1 hC3 [0, 1, 12, 13, 14, 1000, 1001, 1012, 1013, 2000, 2001, 2012, 2013, 3005] [8, 20] ⟨[(0, sR8 (q2 p a0 a1)), (1, qc), (12, qL (q2 p a0 a1)), (13, qN a2), (14, sB (decide (((a2 : Nat) : Int) < ((List.length (Pln.Kids (q2 p a0 a1)) : Nat) : Int)))), (1000, sR8 (q1 p a0)), (1001, qc), (1012, qL (q1 p a0)), (1013, qN a1), (2000, .ref 8 1 0), (2001, qc), (2012, qL p), (2013, qN a0), (3005, .ref 20 1 0)], [qb p, (20, .box 1 [sI n2])]⟩ ?_)
          refine AW.seq (AW.cd (decide (((a2 : Nat) : Int) < ((List.length (Pln.Kids (q2 p a0 a1)) : Nat) : Int))) ?_ ?_)
          ·
           intro h11767
           have h11767q := (of_decide_eq_true h11767)
           have e11768 := e11765.trans (Go.Am.bif_t h11767)
           refine AW.kp [0, 1, 12, 13, 1000, 1001, 1012, 1013, 2000, 2001, 2012, 2013, 3005] [8, 20] ⟨[(0, sR8 (q2 p a0 a1)), (1, qc), (12, qL (q2 p a0 a1)), (13, qN a2), (1000, sR8 (q1 p a0)), (1001, qc), (1012, qL (q1 p a0)), (1013, qN a1), (2000, .ref 8 1 0), (2001, qc), (2012, qL p), (2013, qN a0), (3005, .ref 20 1 0)], [qb p, (20, .box 1 [sI n2])]⟩ ?_
           refine AW.skip (AW.seq (AW.block (AW.seq ?_)))
           have hN : WL ws 5 (q3 p a0 a1 a2) := hN.kd (Int.ofNat_lt.1 h11767q)
           refine AW.r1 hC3 [0, 1, 4, 12, 13, 1000, 1001, 1012, 1013, 2000, 2001, 2012, 2013, 3005] [8, 20] ⟨[(0, sR8 (q2 p a0 a1)), (1, qc), (4, qN a2), (12, qL (q2 p a0 a1)), (13, qN a2), (1000, sR8 (q1 p a0)), (1001, qc), (1012, qL (q1 p a0)), (1013, qN a1), (2000, .ref 8 1 0), (2001, qc), (2012, qL p), (2013, qN a0), (3005, .ref 20 1 0)], [qb p, (20, .box 1 [sI n2])]⟩ ?_
           refine AW.regionO [0, 1, 2, 3, 4, 5, 6, 7] (by rfl) ?_
           refine AWO.run hC3 false [] [0, 1, 2, 3, 4, 5, 6] [7] [0, 1, 12, 13, 21, 22, 1000, 1001, 1012, 1013, 2000, 2001, 2012, 2013, 3005] [8, 20]
            ⟨[(0, sR8 (q2 p a0 a1)), (1, qc), (12, qL (q2 p a0 a1)), (13, qN a2), (21, sR8 (q3 p a0 a1 a2)), (22, qc), (1000, sR8 (q1 p a0)), (1001, qc), (1012, qL (q1 p a0)), (1013, qN a1), (2000, .ref 8 1 0), (2001, qc), (2012, qL p), (2013, qN a0), (3005, .ref 20 1 0)], [qb p, (20, .box 1 [sI n2])]⟩
            [IX ((a2 : Nat) : Int) ((List.length (Pln.Kids (q2 p a0 a1)) : Nat) : Int)] (by rfl) (by kernel_rfl) ?_ ?_
           ·
            refine ⟨?_, trivial⟩
            ·
             refine IX.of ?_
             first | omega | (dsimp only; omega) | (simp only [lens] at *; omega)
           refine AWO.call hC3.ty (vs := [sR8 (q3 p a0 a1 a2), qc]) (caps := []) (by rfl) rfl (.inl rfl) (by decide) (by kernel_rfl) (by kernel_rfl) Try.func19 (by kernel_rfl) rfl (by kernel_rfl) ?_
           intro o4
           refine AW.kp [0, 1, 1000, 1001, 1012, 1013, 2000, 2001, 2012, 2013, 3000, 3001, 3012, 3013, 4005] [8, 20] ⟨[(0, sR8 (q3 p a0 a1 a2)), (1, qc), (1000, sR8 (q2 p a0 a1)), (1001, qc), (1012, qL (q2 p a0 a1)), (1013, qN a2), (2000, sR8 (q1 p a0)), (2001, qc), (2012, qL (q1 p a0)), (2013, qN a1), (3000, .ref 8 1 0), (3001, qc), (3012, qL p), (3013, qN a0), (4005, .ref 20 1 0)], [qb p, (20, .box 1 [sI n2])]⟩ ?_
           refine AW.seq (AW.regionO [0, 1, 2] (by rfl) ?_)
           refine AWO.run hC4 false [] [0, 1] [2] [0, 1, 5, 6, 1000, 1001, 1012, 1013, 2000, 2001, 2012, 2013, 3000, 3001, 3012, 3013, 4005] [8, 20]
            ⟨[(0, sR8 (q3 p a0 a1 a2)), (1, qc), (5, qc), (6, sR8 (q3 p a0 a1 a2)), (1000, sR8 (q2 p a0 a1)), (1001, qc), (1012, qL (q2 p a0 a1)), (1013, qN a2), (2000, sR8 (q1 p a0)), (2001, qc), (2012, qL (q1 p a0)), (2013, qN a1), (3000, .ref 8 1 0), (3001, qc), (3012, qL p), (3013, qN a0), (4005, .ref 20 1 0)], [qb p, (20, .box 1 [sI n2])]⟩
            [] (by rfl) (by kernel_rfl) ?_ ?_
           ·
            exact trivial
           refine AWO.call hC4.ty (vs := [sR8 (q3 p a0 a1 a2)]) (caps := [.ref 20 1 0]) (by rfl) rfl (.inl rfl) (by decide) (by kernel_rfl) (by kernel_rfl) Try.func20 (by kernel_rfl) rfl (by kernel_rfl) ?_
           intro o5
           refine AW.kp [0, 1, 1000, 1001, 2000, 2001, 2012, 2013, 3000, 3001, 3012, 3013, 4000, 4001, 4012, 4013, 5005] [8, 20] ⟨[(0, sR8 (q3 p a0 a1 a2)), (1, .ref 20 1 0), (1000, sR8 (q3 p a0 a1 a2)), (1001, qc), (2000, sR8 (q2 p a0 a1)), (2001, qc), (2012, qL (q2 p a0 a1)), (2013, qN a2), (3000, sR8 (q1 p a0)), (3001, qc), (3012, qL (q1 p a0)), (3013, qN a1), (4000, .ref 8 1 0), (4001, qc), (4012, qL p), (4013, qN a0), (5005, .ref 20 1 0)], [qb p, (20, .box 1 [sI n2])]⟩ ?_
           refine AW.reg hC5  true [] [1000, 1001, 2000, 2001, 2012, 2013, 3000, 3001, 3012, 3013, 4000, 4001, 4012, 4013, 5005] [8, 20]
            ⟨[(1000, sR8 (q3 p a0 a1 a2)), (1001, qc), (2000, sR8 (q2 p a0 a1)), (2001, qc), (2012, qL (q2 p a0 a1)), (2013, qN a2), (3000, sR8 (q1 p a0)), (3001, qc), (3012, qL (q1 p a0)), (3013, qN a1), (4000, .ref 8 1 0), (4001, qc), (4012, qL p), (4013, qN a0), (5005, .ref 20 1 0)], [qb p, (20, .box 1 [sI (wq (n2 + 1))])]⟩
            [] (by kernel_rfl) ?_ ?_
           ·
            exact trivial
           refine ⟨[], by kernel_rfl, ?_⟩
           refine AWO.keep [0, 1, 1000, 1001, 1012, 1013, 2000, 2001, 2012, 2013, 3000, 3001, 3012, 3013, 4005] [8, 20] ⟨[(0, sR8 (q3 p a0 a1 a2)), (1, qc), (1000, sR8 (q2 p a0 a1)), (1001, qc), (1012, qL (q2 p a0 a1)), (1013, qN a2), (2000, sR8 (q1 p a0)), (2001, qc), (2012, qL (q1 p a0)), (2013, qN a1), (3000, .ref 8 1 0), (3001, qc), (3012, qL p), (3013, qN a0), (4005, .ref 20 1 0)], [qb p, (20, .box 1 [sI (wq (n2 + 1))])]⟩ (by kernel_rfl) ?_
           refine AWO.run hC4 false [] [] [] [0, 1, 1000, 1001, 1012, 1013, 2000, 2001, 2012, 2013, 3000, 3001, 3012, 3013, 4005] [8, 20]
            ⟨[(0, sR8 (q3 p a0 a1 a2)), (1, qc), (1000, sR8 (q2 p a0 a1)), (1001, qc), (1012, qL (q2 p a0 a1)), (1013, qN a2), (2000, sR8 (q1 p a0)), (2001, qc), (2012, qL (q1 p a0)), (2013, qN a1), (3000, .ref 8 1 0), (3001, qc), (3012, qL p), (3013, qN a0), (4005, .ref 20 1 0)], [qb p, (20, .box 1 [sI (wq (n2 + 1))])]⟩
            [] (by rfl) (by kernel_rfl) ?_ ?_
           ·
            exact trivial
           refine AWO.nil ?_
           refine AW.seq (AW.r1 hC4 [0, 1, 12, 13, 1000, 1001, 1012, 1013, 2000, 2001, 2012, 2013, 3000, 3001, 3012, 3013, 4005] [8, 20] ⟨[(0, sR8 (q3 p a0 a1 a2)), (1, qc), (12, qL (q3 p a0 a1 a2)), (13, sI 0), (1000, sR8 (q2 p a0 a1)), (1001, qc), (1012, qL (q2 p a0 a1)), (1013, qN a2), (2000, sR8 (q1 p a0)), (2001, qc), (2012, qL (q1 p a0)), (2013, qN a1), (3000, .ref 8 1 0), (3001, qc), (3012, qL p), (3013, qN a0), (4005, .ref 20 1 0)], [qb p, (20, .box 1 [sI (wq (n2 + 1))])]⟩ ?_)
           refine AW.cutQ (α := Int) (fun x => ⟨[(1000, sR8 (q2 p a0 a1)), (1001, qc), (1012, qL (q2 p a0 a1)), (1013, qN a2), (2000, sR8 (q1 p a0)), (2001, qc), (2012, qL (q1 p a0)), (2013, qN a1), (3000, .ref 8 1 0), (3001, qc), (3012, qL p), (3013, qN a0), (4005, .ref 20 1 0)], [qb p, (20, .box 1 [sI x])]⟩) (fun x => (True) ∧ (iPlanSize_l3 p a0 a1 a2 ((List.length (Pln.Kids (q3 p a0 a1 a2))) - 0 + 1) 0 (wq (n2 + 1))) = x) ?_ ?_
           ·
            skip
            refine AW.block (AW.loop (α := Nat × Int) (fun x => ⟨[(0, sR8 (q3 p a0 a1 a2)), (1, qc), (12, qL (q3 p a0 a1 a2)), (13, sI ((x.1 : Nat) : Int)), (1000, sR8 (q2 p a0 a1)), (1001, qc), (1012, qL (q2 p a0 a1)), (1013, qN a2), (2000, sR8 (q1 p a0)), (2001, qc), (2012, qL (q1 p a0)), (2013, qN a1), (3000, .ref 8 1 0), (3001, qc), (3012, qL p), (3013, qN a0), (4005, .ref 20 1 0)], [qb p, (20, .box 1 [sI x.2])]⟩) (fun x => (True) ∧ ∃ k, (List.length (Pln.Kids (q3 p a0 a1 a2))) - x.1 < k ∧ (iPlanSize_l3 p a0 a1 a2 ((List.length (Pln.Kids (q3 p a0 a1 a2))) - 0 + 1) 0 (wq (n2 + 1))) = iPlanSize_l3 p a0 a1 a2 k x.1 x.2) (fun x => (List.length (Pln.Kids (q3 p a0 a1 a2))) - x.1) (0, (wq (n2 + 1))) (by kernel_rfl) ⟨?_, _, Nat.lt_succ_self _, rfl⟩ ?_)
            ·
             show True
             first | exact trivial | (refine ⟨?_, ?_⟩ <;> first | omega | simp) | omega | simp
            ·
             intro x hR
             obtain ⟨a3, n3⟩ := x
             obtain ⟨hI3, k11776, hk11774, e11775⟩ := hR
             replace hI3 : True := hI3
             replace hk11774 : (List.length (Pln.Kids (q3 p a0 a1 a2))) - a3 < k11776 := hk11774
             obtain ⟨k11776q, rfl⟩ : ∃ k, k11776 = k + 1 := ⟨k11776 - 1, by omega⟩
             have hK := hN.kids2
             refine AW.seq (AW.r1 hC4 [0, 1, 12, 13, 14, 1000, 1001, 1012, 1013, 2000, 2001, 2012, 2013, 3000, 3001, 3012, 3013, 4005] [8, 20] ⟨[(0, sR8 (q3 p a0 a1 a2)), (1, qc), (12, qL (q3 p a0 a1 a2)), (13, qN a3), (14, sB (decide (((a3 : Nat) : Int) < ((List.length (Pln.Kids (q3 p a0 a1 a2)) : Nat) : Int)))), (1000, sR8 (q2 p a0 a1)), (1001, qc), (1012, qL (q2 p a0 a1)), (1013, qN a2), (2000, sR8 (q1 p a0)), (2001, qc), (2012, qL (q1 p a0)), (2013, qN a1), (3000, .ref 8 1 0), (3001, qc), (3012, qL p), (3013, qN a0), (4005, .ref 20 1 0)], [qb p, (20, .box 1 [sI n3])]⟩ ?_)
             refine AW.seq (AW.cd (decide (((a3 : Nat) : Int) < ((List.length (Pln.Kids (q3 p a0 a1 a2)) : Nat) : Int))) ?_ ?_)
             ·
              intro h11777
              have h11777q := (of_decide_eq_true h11777)
              have e11778 := e11775.trans (Go.Am.bif_t h11777)
              refine AW.kp [0, 1, 12, 13, 1000, 1001, 1012, 1013, 2000, 2001, 2012, 2013, 3000, 3001, 3012, 3013, 4005] [8, 20] ⟨[(0, sR8 (q3 p a0 a1 a2)), (1, qc), (12, qL (q3 p a0 a1 a2)), (13, qN a3), (1000, sR8 (q2 p a0 a1)), (1001, qc), (1012, qL (q2 p a0 a1)), (1013, qN a2), (2000, sR8 (q1 p a0)), (2001, qc), (2012, qL (q1 p a0)), (2013, qN a1), (3000, .ref 8 1 0), (3001, qc), (3012, qL p), (3013, qN a0), (4005, .ref 20 1 0)], [qb p, (20, .box 1 [sI n3])]⟩ ?_
              refine AW.skip (AW.seq (AW.block (AW.seq ?_)))
              have hN : WL ws 4 (q4 p a0 a1 a2 a3) := hN.kd (Int.ofNat_lt.1 h11777q)
              refine AW.r1 hC4 [0, 1, 4, 12, 13, 1000, 1001, 1012, 1013, 2000, 2001, 2012, 2013, 3000, 3001, 3012, 3013, 4005] [8, 20] ⟨[(0, sR8 (q3 p a0 a1 a2)), (1, qc), (4, qN a3), (12, qL (q3 p a0 a1 a2)), (13, qN a3), (1000, sR8 (q2 p a0 a1)), (1001, qc), (1012, qL (q2 p a0 a1)), (1013, qN a2), (2000, sR8 (q1 p a0)), (2001, qc), (2012, qL (q1 p a0)), (2013, qN a1), (3000, .ref 8 1 0), (3001, qc), (3012, qL p), (3013, qN a0), (4005, .ref 20 1 0)], [qb p, (20, .box 1 [sI n3])]⟩ ?_
              refine AW.regionO [0, 1, 2, 3, 4, 5, 6, 7] (by rfl) ?_
              refine AWO.run hC4 false [] [0, 1, 2, 3, 4, 5, 6] [7] [0, 1, 12, 13, 21, 22, 1000, 1001, 1012, 1013, 2000, 2001, 2012, 2013, 3000, 3001, 3012, 3013, 4005] [8, 20]
               ⟨[(0, sR8 (q3 p a0 a1 a2)), (1, qc), (12, qL (q3 p a0 a1 a2)), (13, qN a3), (21, sR8 (q4 p a0 a1 a2 a3)), (22, qc), (1000, sR8 (q2 p a0 a1)), (1001, qc), (1012, qL (q2 p a0 a1)), (1013, qN a2), (2000, sR8 (q1 p a0)), (2001, qc), (2012, qL (q1 p a0)), (2013, qN a1), (3000, .ref 8 1 0), (3001, qc), (3012, qL p), (3013, qN a0), (4005, .ref 20 1 0)], [qb p, (20, .box 1 [sI n3])]⟩
               [IX ((a3 : Nat) : Int) ((List.length (Pln.Kids (q3 p a0 a1 a2)) : Nat) : Int)] (by rfl) (by kernel_rfl) ?_ ?_
              ·
               refine ⟨?_, trivial⟩
               ·
                refine IX.of ?_
                first | omega | (dsimp only; omega) | (simp only [lens] at *; omega)
              refine AWO.call hC4.ty (vs := [sR8 (q4 p a0 a1 a2 a3), qc]) (caps := []) (by rfl) rfl (.inl rfl) (by decide) (by kernel_rfl) (by kernel_rfl) Try.func19 (by kernel_rfl) rfl (by kernel_rfl) ?_
              intro o5
              refine AW.kp [0, 1, 1000, 1001, 1012, 1013, 2000, 2001, 2012, 2013, 3000, 3001, 3012, 3013, 4000, 4001, 4012, 4013, 5005] [8, 20] ⟨[(0, sR8 (q4 p a0 a1 a2 a3)), (1, qc), (1000, sR8 (q3 p a0 a1 a2)), (1001, qc), (1012, qL (q3 p a0 a1 a2)), (1013, qN a3), (2000, sR8 (q2 p a0 a1)), (2001, qc), (2012, qL (q2 p a0 a1)), (2013, qN a2), (3000, sR8 (q1 p a0)), (3001, qc), (3012, qL (q1 p a0)), (3013, qN a1), (4000, .ref 8 1 0), (4001, qc), (4012, qL p), (4013, qN a0), (5005, .ref 20 1 0)], [qb p, (20, .box 1 [sI n3])]⟩ ?_
              refine AW.seq (AW.regionO [0, 1, 2] (by rfl) ?_)
              refine AWO.run hC5 false [] [0, 1] [2] [0, 1, 5, 6, 1000, 1001, 1012, 1013, 2000, 2001, 2012, 2013, 3000, 3001, 3012, 3013, 4000, 4001, 4012, 4013, 5005] [8, 20]
               ⟨[(0, sR8 (q4 p a0 a1 a2 a3)), (1, qc), (5, qc), (6, sR8 (q4 p a0 a1 a2 a3)), (1000, sR8 (q3 p a0 a1 a2)), (1001, qc), (1012, qL (q3 p a0 a1 a2)), (1013, qN a3), (2000, sR8 (q2 p a0 a1)), (2001, qc), (2012, qL (q2 p a0 a1)), (2013, qN a2), (3000, sR8 (q1 p a0)), (3001, qc), (3012, qL (q1 p a0)), (3013, qN a1), (4000, .ref 8 1 0), (4001, qc), (4012, qL p), (4013, qN a0), (5005, .ref 20 1 0)], [qb p, (20, .box 1 [sI n3])]⟩
               [] (by rfl) (by kernel_rfl) ?_ ?_
              ·
               exact trivial
              refine AWO.call hC5.ty (vs := [sR8 (q4 p a0 a1 a2 a3)]) (caps := [.ref 20 1 0]) (by rfl) rfl (.inl rfl) (by decide) (by kernel_rfl) (by kernel_rfl) Try.func20 (by kernel_rfl) rfl (by kernel_rfl) ?_
              intro o6
              refine AW.kp [0, 1, 1000, 1001, 2000, 2001, 2012, 2013, 3000, 3001, 3012, 3013, 4000, 4001, 4012, 4013, 5000, 5001, 5012, 5013, 6005] [8, 20] ⟨[(0, sR8 (q4 p a0 a1 a2 a3)), (1, .ref 20 1 0), (1000, sR8 (q4 p a0 a1 a2 a3)), (1001, qc), (2000, sR8 (q3 p a0 a1 a2)), (2001, qc), (2012, qL (q3 p a0 a1 a2)), (2013, qN a3), (3000, sR8 (q2 p a0 a1)), (3001, qc), (3012, qL (q2 p a0 a1)), (3013, qN a2), (4000, sR8 (q1 p a0)), (4001, qc), (4012, qL (q1 p a0)), (4013, qN a1), (5000, .ref 8 1 0), (5001, qc), (5012, qL p), (5013, qN a0), (6005, .ref 20 1 0)], [qb p, (20, .box 1 [sI n3])]⟩ ?_
              refine AW.reg hC6  true [] [1000, 1001, 2000, 2001, 2012, 2013, 3000, 3001, 3012, 3013, 4000, 4001, 4012, 4013, 5000, 5001, 5012, 5013, 6005] [8, 20]
               ⟨[(1000, sR8 (q4 p a0 a1 a2 a3)), (1001, qc), (2000, sR8 (q3 p a0 a1 a2)), (2001, qc), (2012, qL (q3 p a0 a1 a2)), (2013, qN a3), (3000, sR8 (q2 p a0 a1)), (3001, qc), (3012, qL (q2 p a0 a1)), (3013, qN a2), (4000, sR8 (q1 p a0)), (4001, qc), (4012, qL (q1 p a0)), (4013, qN a1), (5000, .ref 8 1 0), (5001, qc), (5012, qL p), (5013, qN a0), (6005, .ref 20 1 0)], [qb p, (20, .box 1 [sI (wq (n3 + 1))])]⟩
               [] (by kernel_rfl) ?_ ?_
              ·
               exact trivial
              refine ⟨[], by kernel_rfl, ?_⟩
              refine AWO.keep [0, 1, 1000, 1001, 1012, 1013, 2000, 2001, 2012, 2013, 3000, 3001, 3012, 3013, 4000, 4001, 4012, 4013, 5005] [8, 20] ⟨[(0, sR8 (q4 p a0 a1 a2 a3)), (1, qc), (1000, sR8 (q3 p a0 a1 a2)), (1001, qc), (1012, qL (q3 p a0 a1 a2)), (1013, qN a3), (2000, sR8 (q2 p a0 a1)), (2001, qc), (2012, qL (q2 p a0 a1)), (2013, qN a2), (3000, sR8 (q1 p a0)), (3001, qc), (3012, qL (q1 p a0)), (3013, qN a1), (4000, .ref 8 1 0), (4001, qc), (4012, qL p), (4013, qN a0), (5005, .ref 20 1 0)], [qb p, (20, .box 1 [sI (wq (n3 + 1))])]⟩ (by kernel_rfl) ?_
              refine AWO.run hC5 false [] [] [] [0, 1, 1000, 1001, 1012, 1013, 2000, 2001, 2012, 2013, 3000, 3001, 3012, 3013, 4000, 4001, 4012, 4013, 5005] [8, 20]
               ⟨[(0, sR8 (q4 p a0 a1 a2 a3)), (1, qc), (1000, sR8 (q3 p a0 a1 a2)), (1001, qc), (1012, qL (q3 p a0 a1 a2)), (1013, qN a3), (2000, sR8 (q2 p a0 a1)), (2001, qc), (2012, qL (q2 p a0 a1)), (2013, qN a2), (3000, sR8 (q1 p a0)), (3001, qc), (3012, qL (q1 p a0)), (3013, qN a1), (4000, .ref 8 1 0), (4001, qc), (4012, qL p), (4013, qN a0), (5005, .ref 20 1 0)], [qb p, (20, .box 1 [sI (wq (n3 + 1))])]⟩
               [] (by rfl) (by kernel_rfl) ?_ ?_
              ·
               exact trivial
              refine AWO.nil ?_
              refine AW.seq (AW.r1 hC5 [0, 1, 12, 13, 1000, 1001, 1012, 1013, 2000, 2001, 2012, 2013, 3000, 3001, 3012, 3013, 4000, 4001, 4012, 4013, 5005] [8, 20] ⟨[(0, sR8 (q4 p a0 a1 a2 a3)), (1, qc), (12, qL (q4 p a0 a1 a2 a3)), (13, sI 0), (1000, sR8 (q3 p a0 a1 a2)), (1001, qc), (1012, qL (q3 p a0 a1 a2)), (1013, qN a3), (2000, sR8 (q2 p a0 a1)), (2001, qc), (2012, qL (q2 p a0 a1)), (2013, qN a2), (3000, sR8 (q1 p a0)), (3001, qc), (3012, qL (q1 p a0)), (3013, qN a1), (4000, .ref 8 1 0), (4001, qc), (4012, qL p), (4013, qN a0), (5005, .ref 20 1 0)], [qb p, (20, .box 1 [sI (wq (n3 + 1))])]⟩ ?_)
              refine AW.cutQ (α := Int) (fun x => ⟨[(1000, sR8 (q3 p a0 a1 a2)), (1001, qc), (1012, qL (q3 p a0 a1 a2)), (1013, qN a3), (2000, sR8 (q2 p a0 a1)), (2001, qc), (2012, qL (q2 p a0 a1)), (2013, qN a2), (3000, sR8 (q1 p a0)), (3001, qc), (3012, qL (q1 p a0)), (3013, qN a1), (4000, .ref 8 1 0), (4001, qc), (4012, qL p), (4013, qN a0), (5005, .ref 20 1 0)], [qb p, (20, .box 1 [sI x])]⟩) (fun x => (True) ∧ (iPlanSize_l4 p a0 a1 a2 a3 ((List.length (Pln.Kids (q4 p a0 a1 a2 a3))) - 0 + 1) 0 (wq (n3 + 1))) = x) ?_ ?_
              ·
               skip
               refine AW.block (AW.loop (α := Nat × Int) (fun x => ⟨[(0, sR8 (q4 p a0 a1 a2 a3)), (1, qc), (12, qL (q4 p a0 a1 a2 a3)), (13, sI ((x.1 : Nat) : Int)), (1000, sR8 (q3 p a0 a1 a2)), (1001, qc), (1012, qL (q3 p a0 a1 a2)), (1013, qN a3), (2000, sR8 (q2 p a0 a1)), (2001, qc), (2012, qL (q2 p a0 a1)), (2013, qN a2), (3000, sR8 (q1 p a0)), (3001, qc), (3012, qL (q1 p a0)), (3013, qN a1), (4000, .ref 8 1 0), (4001, qc), (4012, qL p), (4013, qN a0), (5005, .ref 20 1 0)], [qb p, (20, .box 1 [sI x.2])]⟩) (fun x => (True) ∧ ∃ k, (List.length (Pln.Kids (q4 p a0 a1 a2 a3))) - x.1 < k ∧ (iPlanSize_l4 p a0 a1 a2 a3 ((List.length (Pln.Kids (q4 p a0 a1 a2 a3))) - 0 + 1) 0 (wq (n3 + 1))) = iPlanSize_l4 p a0 a1 a2 a3 k x.1 x.2) (fun x => (List.length (Pln.Kids (q4 p a0 a1 a2 a3))) - x.1) (0, (wq (n3 + 1))) (by kernel_rfl) ⟨?_, _, Nat.lt_succ_self _, rfl⟩ ?_)
               ·
                show True
                first | exact trivial | (refine ⟨?_, ?_⟩ <;> first | omega | simp) | omega | simp
               ·
                intro x hR
                obtain ⟨a4, n4⟩ := x
                obtain ⟨hI4, k11786, hk11784, e11785⟩ := hR
                replace hI4 : True := hI4
                replace hk11784 : (List.length (Pln.Kids (q4 p a0 a1 a2 a3))) - a4 < k11786 := hk11784
                obtain ⟨k11786q, rfl⟩ : ∃ k, k11786 = k + 1 := ⟨k11786 - 1, by omega⟩
                have hK := hN.kids2
                refine AW.seq (AW.r1 hC5 [0, 1, 12, 13, 14, 1000, 1001, 1012, 1013, 2000, 2001, 2012, 2013, 3000, 3001, 3012, 3013, 4000, 4001, 4012, 4013, 5005] [8, 20] ⟨[(0, sR8 (q4 p a0 a1 a2 a3)), (1, qc), (12, qL (q4 p a0 a1 a2 a3)), (13, qN a4), (14, sB (decide (((a4 : Nat) : Int) < ((List.length (Pln.Kids (q4 p a0 a1 a2 a3)) : Nat) : Int)))), (1000, sR8 (q3 p a0 a1 a2)), (1001, qc), (1012, qL (q3 p a0 a1 a2)), (1013, qN a3), (2000, sR8 (q2 p a0 a1)), (2001, qc), (2012, qL (q2 p a0 a1)), (2013, qN a2), (3000, sR8 (q1 p a0)), (3001, qc), (3012, qL (q1 p a0)), (3013, qN a1), (4000, .ref 8 1 0), (4001, qc), (4012, qL p), (4013, qN a0), (5005, .ref 20 1 0)], [qb p, (20, .box 1 [sI n4])]⟩ ?_)
                refine AW.seq (AW.cd (decide (((a4 : Nat) : Int) < ((List.length (Pln.Kids (q4 p a0 a1 a2 a3)) : Nat) : Int))) ?_ ?_)
                ·
                 intro h11787
                 have h11787q := (of_decide_eq_true h11787)
                 have e11788 := e11785.trans (Go.Am.bif_t h11787)
                 refine AW.kp [0, 1, 12, 13, 1000, 1001, 1012, 1013, 2000, 2001, 2012, 2013, 3000, 3001, 3012, 3013, 4000, 4001, 4012, 4013, 5005] [8, 20] ⟨[(0, sR8 (q4 p a0 a1 a2 a3)), (1, qc), (12, qL (q4 p a0 a1 a2 a3)), (13, qN a4), (1000, sR8 (q3 p a0 a1 a2)), (1001, qc), (1012, qL (q3 p a0 a1 a2)), (1013, qN a3), (2000, sR8 (q2 p a0 a1)), (2001, qc), (2012, qL (q2 p a0 a1)), (2013, qN a2), (3000, sR8 (q1 p a0)), (3001, qc), (3012, qL (q1 p a0)), (3013, qN a1), (4000, .ref 8 1 0), (4001, qc), (4012, qL p), (4013, qN a0), (5005, .ref 20 1 0)], [qb p, (20, .box 1 [sI n4])]⟩ ?_
                 refine AW.skip (AW.seq (AW.block (AW.seq ?_)))
                 have hN : WL ws 3 (q5 p a0 a1 a2 a3 a4) := hN.kd (Int.ofNat_lt.1 h11787q)
                 refine AW.r1 hC5 [0, 1, 4, 12, 13, 1000, 1001, 1012, 1013, 2000, 2001, 2012, 2013, 3000, 3001, 3012, 3013, 4000, 4001, 4012, 4013, 5005] [8, 20] ⟨[(0, sR8 (q4 p a0 a1 a2 a3)), (1, qc), (4, qN a4), (12, qL (q4 p a0 a1 a2 a3)), (13, qN a4), (1000, sR8 (q3 p a0 a1 a2)), (1001, qc), (1012, qL (q3 p a0 a1 a2)), (1013, qN a3), (2000, sR8 (q2 p a0 a1)), (2001, qc), (2012, qL (q2 p a0 a1)), (2013, qN a2), (3000, sR8 (q1 p a0)), (3001, qc), (3012, qL (q1 p a0)), (3013, qN a1), (4000, .ref 8 1 0), (4001, qc), (4012, qL p), (4013, qN a0), (5005, .ref 20 1 0)], [qb p, (20, .box 1 [sI n4])]⟩ ?_
                 refine AW.regionO [0, 1, 2, 3, 4, 5, 6, 7] (by rfl) ?_
                 refine AWO.run hC5 false [] [0, 1, 2, 3, 4, 5, 6] [7] [0, 1, 12, 13, 21, 22, 1000, 1001, 1012, 1013, 2000, 2001, 2012, 2013, 3000, 3001, 3012, 3013, 4000, 4001, 4012, 4013, 5005] [8, 20]
                  ⟨[(0, sR8 (q4 p a0 a1 a2 a3)), (1, qc), (12, qL (q4 p a0 a1 a2 a3)), (13, qN a4), (21, sR8 (q5 p a0 a1 a2 a3 a4)), (22, qc), (1000, sR8 (q3 p a0 a1 a2)), (1001, qc), (1012, qL (q3 p a0 a1 a2)), (1013, qN a3), (2000, sR8 (q2 p a0 a1)), (2001, qc), (2012, qL (q2 p a0 a1)), (2013, qN a2), (3000, sR8 (q1 p a0)), (3001, qc), (3012, qL (q1 p a0)), (3013, qN a1), (4000, .ref 8 1 0), (4001, qc), (4012, qL p), (4013, qN a0), (5005, .ref 20 1 0)], [qb p, (20, .box 1 [sI n4])]⟩
                  [IX ((a4 : Nat) : Int) ((List.length (Pln.Kids (q4 p a0 a1 a2 a3)) : Nat) : Int)] (by rfl) (by kernel_rfl) ?_ ?_
                 ·
                  refine ⟨?_, trivial⟩
                  ·
                   refine IX.of ?_
                   first | omega | (dsimp only; omega) | (simp only [lens] at *; omega)
                 refine AWO.call hC5.ty (vs := [sR8 (q5 p a0 a1 a2 a3 a4), qc]) (caps := []) (by rfl) rfl (.inl rfl) (by decide) (by kernel_rfl) (by kernel_rfl) Try.func19 (by kernel_rfl) rfl (by kernel_rfl) ?_
                 intro o6
                 refine AW.kp [0, 1, 1000, 1001, 1012, 1013, 2000, 2001, 2012, 2013, 3000, 3001, 3012, 3013, 4000, 4001, 4012, 4013, 5000, 5001, 5012, 5013, 6005] [8, 20] ⟨[(0, sR8 (q5 p a0 a1 a2 a3 a4)), (1, qc), (1000, sR8 (q4 p a0 a1 a2 a3)), (1001, qc), (1012, qL (q4 p a0 a1 a2 a3)), (1013, qN a4), (2000, sR8 (q3 p a0 a1 a2)), (2001, qc), (2012, qL (q3 p a0 a1 a2)), (2013, qN a3), (3000, sR8 (q2 p a0 a1)), (3001, qc), (3012, qL (q2 p a0 a1)), (3013, qN a2), (4000, sR8 (q1 p a0)), (4001, qc), (4012, qL (q1 p a0)), (4013, qN a1), (5000, .ref 8 1 0), (5001, qc), (5012, qL p), (5013, qN a0), (6005, .ref 20 1 0)], [qb p, (20, .box 1 [sI n4])]⟩ ?_
                 refine AW.seq (AW.regionO [0, 1, 2] (by rfl) ?_)
                 refine AWO.run hC6 false [] [0, 1] [2] [0, 1, 5, 6, 1000, 1001, 1012, 1013, 2000, 2001, 2012, 2013, 3000, 3001, 3012, 3013, 4000, 4001, 4012, 4013, 5000, 5001, 5012, 5013, 6005] [8, 20]
                  ⟨[(0, sR8 (q5 p a0 a1 a2 a3 a4)), (1, qc), (5, qc), (6, sR8 (q5 p a0 a1 a2 a3 a4)), (1000, sR8 (q4 p a0 a1 a2 a3)), (1001, qc), (1012, qL (q4 p a0 a1 a2 a3)), (1013, qN a4), (2000, sR8 (q3 p a0 a1 a2)), (2001, qc), (2012, qL (q3 p a0 a1 a2)), (2013, qN a3), (3000, sR8 (q2 p a0 a1)), (3001, qc), (3012, qL (q2 p a0 a1)), (3013, qN a2), (4000, sR8 (q1 p a0)), (4001, qc), (4012, qL (q1 p a0)), (4013, qN a1), (5000, .ref 8 1 0), (5001, qc), (5012, qL p), (5013, qN a0), (6005, .ref 20 1 0)], [qb p, (20, .box 1 [sI n4])]⟩
                  [] (by rfl) (by kernel_rfl) ?_ ?_
                 ·
                  exact trivial
                 refine AWO.call hC6.ty (vs := [sR8 (q5 p a0 a1 a2 a3 a4)]) (caps := [.ref 20 1 0]) (by rfl) rfl (.inl rfl) (by decide) (by kernel_rfl) (by kernel_rfl) Try.func20 (by kernel_rfl) rfl (by kernel_rfl) ?_
                 intro o7
                 refine AW.kp [0, 1, 1000, 1001, 2000, 2001, 2012, 2013, 3000, 3001, 3012, 3013, 4000, 4001, 4012, 4013, 5000, 5001, 5012, 5013, 6000, 6001, 6012, 6013, 7005] [8, 20] ⟨[(0, sR8 (q5 p a0 a1 a2 a3 a4)), (1, .ref 20 1 0), (1000, sR8 (q5 p a0 a1 a2 a3 a4)), (1001, qc), (2000, sR8 (q4 p a0 a1 a2 a3)), (2001, qc), (2012, qL (q4 p a0 a1 a2 a3)), (2013, qN a4), (3000, sR8 (q3 p a0 a1 a2)), (3001, qc), (3012, qL (q3 p a0 a1 a2)), (3013, qN a3), (4000, sR8 (q2 p a0 a1)), (4001, qc), (4012, qL (q2 p a0 a1)), (4013, qN a2), (5000, sR8 (q1 p a0)), (5001, qc), (5012, qL (q1 p a0)), (5013, qN a1), (6000, .ref 8 1 0), (6001, qc), (6012, qL p), (6013, qN a0), (7005, .ref 20 1 0)], [qb p, (20, .box 1 [sI n4])]⟩ ?_
                 refine AW.reg hC7  true [] [1000, 1001, 2000, 2001, 2012, 2013, 3000, 3001, 3012, 3013, 4000, 4001, 4012, 4013, 5000, 5001, 5012, 5013, 6000, 6001, 6012, 6013, 7005] [8, 20]
                  ⟨[(1000, sR8 (q5 p a0 a1 a2 a3 a4)), (1001, qc), (2000, sR8 (q4 p a0 a1 a2 a3)), (2001, qc), (2012, qL (q4 p a0 a1 a2 a3)), (2013, qN a4), (3000, sR8 (q3 p a0 a1 a2)), (3001, qc), (3012, qL (q3 p a0 a1 a2)), (3013, qN a3), (4000, sR8 (q2 p a0 a1)), (4001, qc), (4012, qL (q2 p a0 a1)), (4013, qN a2), (5000, sR8 (q1 p a0)), (5001, qc), (5012, qL (q1 p a0)), (5013, qN a1), (6000, .ref 8 1 0), (6001, qc), (6012, qL p), (6013, qN a0), (7005, .ref 20 1 0)], [qb p, (20, .box 1 [sI (wq (n4 + 1))])]⟩
                  [] (by kernel_rfl) ?_ ?_
                 ·
                  exact trivial
                 refine ⟨[], by kernel_rfl, ?_⟩
                 refine AWO.keep [0, 1, 1000, 1001, 1012, 1013, 2000, 2001, 2012, 2013, 3000, 3001, 3012, 3013, 4000, 4001, 4012, 4013, 5000, 5001, 5012, 5013, 6005] [8, 20] ⟨[(0, sR8 (q5 p a0 a1 a2 a3 a4)), (1, qc), (1000, sR8 (q4 p a0 a1 a2 a3)), (1001, qc), (1012, qL (q4 p a0 a1 a2 a3)), (1013, qN a4), (2000, sR8 (q3 p a0 a1 a2)), (2001, qc), (2012, qL (q3 p a0 a1 a2)), (2013, qN a3), (3000, sR8 (q2 p a0 a1)), (3001, qc), (3012, qL (q2 p a0 a1)), (3013, qN a2), (4000, sR8 (q1 p a0)), (4001, qc), (4012, qL (q1 p a0)), (4013, qN a1), (5000, .ref 8 1 0), (5001, qc), (5012, qL p), (5013, qN a0), (6005, .ref 20 1 0)], [qb p, (20, .box 1 [sI (wq (n4 + 1))])]⟩ (by kernel_rfl) ?_
                 refine AWO.run hC6 false [] [] [] [0, 1, 1000, 1001, 1012, 1013, 2000, 2001, 2012, 2013, 3000, 3001, 3012, 3013, 4000, 4001, 4012, 4013, 5000, 5001, 5012, 5013, 6005] [8, 20]
                  ⟨[(0, sR8 (q5 p a0 a1 a2 a3 a4)), (1, qc), (1000, sR8 (q4 p a0 a1 a2 a3)), (1001, qc), (1012, qL (q4 p a0 a1 a2 a3)), (1013, qN a4), (2000, sR8 (q3 p a0 a1 a2)), (2001, qc), (2012, qL (q3 p a0 a1 a2)), (2013, qN a3), (3000, sR8 (q2 p a0 a1)), (3001, qc), (3012, qL (q2 p a0 a1)), (3013, qN a2), (4000, sR8 (q1 p a0)), (4001, qc), (4012, qL (q1 p a0)), (4013, qN a1), (5000, .ref 8 1 0), (5001, qc), (5012, qL p), (5013, qN a0), (6005, .ref 20 1 0)], [qb p, (20, .box 1 [sI (wq (n4 + 1))])]⟩
                  [] (by rfl) (by kernel_rfl) ?_ ?_
                 ·
                  exact trivial
                 refine AWO.nil ?_
                 refine AW.seq (AW.r1 hC6 [0, 1, 12, 13, 1000, 1001, 1012, 1013, 2000, 2001, 2012, 2013, 3000, 3001, 3012, 3013, 4000, 4001, 4012, 4013, 5000, 5001, 5012, 5013, 6005] [8, 20] ⟨[(0, sR8 (q5 p a0 a1 a2 a3 a4)), (1, qc), (12, qL (q5 p a0 a1 a2 a3 a4)), (13, sI 0), (1000, sR8 (q4 p a0 a1 a2 a3)), (1001, qc), (1012, qL (q4 p a0 a1 a2 a3)), (1013, qN a4), (2000, sR8 (q3 p a0 a1 a2)), (2001, qc), (2012, qL (q3 p a0 a1 a2)), (2013, qN a3), (3000, sR8 (q2 p a0 a1)), (3001, qc), (3012, qL (q2 p a0 a1)), (3013, qN a2), (4000, sR8 (q1 p a0)), (4001, qc), (4012, qL (q1 p a0)), (4013, qN a1), (5000, .ref 8 1 0), (5001, qc), (5012, qL p), (5013, qN a0), (6005, .ref 20 1 0)], [qb p, (20, .box 1 [sI (wq (n4 + 1))])]⟩ ?_)
                 refine AW.cutQ (α := Int) (fun x => ⟨[(1000, sR8 (q4 p a0 a1 a2 a3)), (1001, qc), (1012, qL (q4 p a0 a1 a2 a3)), (1013, qN a4), (2000, sR8 (q3 p a0 a1 a2)), (2001, qc), (2012, qL (q3 p a0 a1 a2)), (2013, qN a3), (3000, sR8 (q2 p a0 a1)), (3001, qc), (3012, qL (q2 p a0 a1)), (3013, qN a2), (4000, sR8 (q1 p a0)), (4001, qc), (4012, qL (q1 p a0)), (4013, qN a1), (5000, .ref 8 1 0), (5001, qc), (5012, qL p), (5013, qN a0), (6005, .ref 20 1 0)], [qb p, (20, .box 1 [sI x])]⟩) (fun x => (True) ∧ (iPlanSize_l5 p a0 a1 a2 a3 a4 ((List.length (Pln.Kids (q5 p a0 a1 a2 a3 a4))) - 0 + 1) 0 (wq (n4 + 1))) = x) ?_ ?_
                 ·
                  skip
                  refine AW.block (AW.loop (α := Nat × Int) (fun x => ⟨[(0, sR8 (q5 p a0 a1 a2 a3 a4)), (1, qc), (12, qL (q5 p a0 a1 a2 a3 a4)), (13, sI ((x.1 : Nat) : Int)), (1000, sR8 (q4 p a0 a1 a2 a3)), (1001, qc), (1012, qL (q4 p a0 a1 a2 a3)), (1013, qN a4), (2000, sR8 (q3 p a0 a1 a2)), (2001, qc), (2012, qL (q3 p a0 a1 a2)), (2013, qN a3), (3000, sR8 (q2 p a0 a1)), (3001, qc), (3012, qL (q2 p a0 a1)), (3013, qN a2), (4000, sR8 (q1 p a0)), (4001, qc), (4012, qL (q1 p a0)), (4013, qN a1), (5000, .ref 8 1 0), (5001, qc), (5012, qL p), (5013, qN a0), (6005, .ref 20 1 0)], [qb p, (20, .box 1 [sI x.2])]⟩) (fun x => (True) ∧ ∃ k, (List.length (Pln.Kids (q5 p a0 a1 a2 a3 a4))) - x.1 < k ∧ (iPlanSize_l5 p a0 a1 a2 a3 a4 ((List.length (Pln.Kids (q5 p a0 a1 a2 a3 a4))) - 0 + 1) 0 (wq (n4 + 1))) = iPlanSize_l5 p a0 a1 a2 a3 a4 k x.1 x.2) (fun x => (List.length (Pln.Kids (q5 p a0 a1 a2 a3 a4))) - x.1) (0, (wq (n4 + 1))) (by kernel_rfl) ⟨?_, _, Nat.lt_succ_self _, rfl⟩ ?_)
                  ·
                   show True
                   first | exact trivial | (refine ⟨?_, ?_⟩ <;> first | omega | simp) | omega | simp
                  ·
                   intro x hR
                   obtain ⟨a5, n5⟩ := x
                   obtain ⟨hI5, k11796, hk11794, e11795⟩ := hR
                   replace hI5 : True := hI5
                   replace hk11794 : (List.length (Pln.Kids (q5 p a0 a1 a2 a3 a4))) - a5 < k11796 := hk11794
                   obtain ⟨k11796q, rfl⟩ : ∃ k, k11796 = k + 1 := ⟨k11796 - 1, by omega⟩
                   have hK := hN.kids2
                   refine AW.seq (AW.r1 hC6 [0, 1, 12, 13, 14, 1000, 1001, 1012, 1013, 2000, 2001, 2012, 2013, 3000, 3001, 3012, 3013, 4000, 4001, 4012, 4013, 5000, 5001, 5012, 5013, 6005] [8, 20] ⟨[(0, sR8 (q5 p a0 a1 a2 a3 a4)), (1, qc), (12, qL (q5 p a0 a1 a2 a3 a4)), (13, qN a5), (14, sB (decide (((a5 : Nat) : Int) < ((List.length (Pln.Kids (q5 p a0 a1 a2 a3 a4)) : Nat) : Int)))), (1000, sR8 (q4 p a0 a1 a2 a3)), (1001, qc), (1012, qL (q4 p a0 a1 a2 a3)), (1013, qN a4), (2000, sR8 (q3 p a0 a1 a2)), (2001, qc), (2012, qL (q3 p a0 a1 a2)), (2013, qN a3), (3000, sR8 (q2 p a0 a1)), (3001, qc), (3012, qL (q2 p a0 a1)), (3013, qN a2), (4000, sR8 (q1 p a0)), (4001, qc), (4012, qL (q1 p a0)), (4013, qN a1), (5000, .ref 8 1 0), (5001, qc), (5012, qL p), (5013, qN a0), (6005, .ref 20 1 0)], [qb p, (20, .box 1 [sI n5])]⟩ ?_)
                   refine AW.seq (AW.cd (decide (((a5 : Nat) : Int) < ((List.length (Pln.Kids (q5 p a0 a1 a2 a3 a4)) : Nat) : Int))) ?_ ?_)
                   ·
                    intro h11797
                    have h11797q := (of_decide_eq_true h11797)
                    have e11798 := e11795.trans (Go.Am.bif_t h11797)
                    refine AW.kp [0, 1, 12, 13, 1000, 1001, 1012, 1013, 2000, 2001, 2012, 2013, 3000, 3001, 3012, 3013, 4000, 4001, 4012, 4013, 5000, 5001, 5012, 5013, 6005] [8, 20] ⟨[(0, sR8 (q5 p a0 a1 a2 a3 a4)), (1, qc), (12, qL (q5 p a0 a1 a2 a3 a4)), (13, qN a5), (1000, sR8 (q4 p a0 a1 a2 a3)), (1001, qc), (1012, qL (q4 p a0 a1 a2 a3)), (1013, qN a4), (2000, sR8 (q3 p a0 a1 a2)), (2001, qc), (2012, qL (q3 p a0 a1 a2)), (2013, qN a3), (3000, sR8 (q2 p a0 a1)), (3001, qc), (3012, qL (q2 p a0 a1)), (3013, qN a2), (4000, sR8 (q1 p a0)), (4001, qc), (4012, qL (q1 p a0)), (4013, qN a1), (5000, .ref 8 1 0), (5001, qc), (5012, qL p), (5013, qN a0), (6005, .ref 20 1 0)], [qb p, (20, .box 1 [sI n5])]⟩ ?_
                    refine AW.skip (AW.seq (AW.block (AW.seq ?_)))
                    have hN : WL ws 2 (q6 p a0 a1 a2 a3 a4 a5) := hN.kd (Int.ofNat_lt.1 h11797q)
                    refine AW.r1 hC6 [0, 1, 4, 12, 13, 1000, 1001, 1012, 1013, 2000, 2001, 2012, 2013, 3000, 3001, 3012, 3013, 4000, 4001, 4012, 4013, 5000, 5001, 5012, 5013, 6005] [8, 20] ⟨[(0, sR8 (q5 p a0 a1 a2 a3 a4)), (1, qc), (4, qN a5), (12, qL (q5 p a0 a1 a2 a3 a4)), (13, qN a5), (1000, sR8 (q4 p a0 a1 a2 a3)), (1001, qc), (1012, qL (q4 p a0 a1 a2 a3)), (1013, qN a4), (2000, sR8 (q3 p a0 a1 a2)), (2001, qc), (2012, qL (q3 p a0 a1 a2)), (2013, qN a3), (3000, sR8 (q2 p a0 a1)), (3001, qc), (3012, qL (q2 p a0 a1)), (3013, qN a2), (4000, sR8 (q1 p a0)), (4001, qc), (4012, qL (q1 p a0)), (4013, qN a1), (5000, .ref 8 1 0), (5001, qc), (5012, qL p), (5013, qN a0), (6005, .ref 20 1 0)], [qb p, (20, .box 1 [sI n5])]⟩ ?_
                    refine AW.regionO [0, 1, 2, 3, 4, 5, 6, 7] (by rfl) ?_
                    refine AWO.run hC6 false [] [0, 1, 2, 3, 4, 5, 6] [7] [0, 1, 12, 13, 21, 22, 1000, 1001, 1012, 1013, 2000, 2001, 2012, 2013, 3000, 3001, 3012, 3013, 4000, 4001, 4012, 4013, 5000, 5001, 5012, 5013, 6005] [8, 20]
                     ⟨[(0, sR8 (q5 p a0 a1 a2 a3 a4)), (1, qc), (12, qL (q5 p a0 a1 a2 a3 a4)), (13, qN a5), (21, sR8 (q6 p a0 a1 a2 a3 a4 a5)), (22, qc), (1000, sR8 (q4 p a0 a1 a2 a3)), (1001, qc), (1012, qL (q4 p a0 a1 a2 a3)), (1013, qN a4), (2000, sR8 (q3 p a0 a1 a2)), (2001, qc), (2012, qL (q3 p a0 a1 a2)), (2013, qN a3), (3000, sR8 (q2 p a0 a1)), (3001, qc), (3012, qL (q2 p a0 a1)), (3013, qN a2), (4000, sR8 (q1 p a0)), (4001, qc), (4012, qL (q1 p a0)), (4013, qN a1), (5000, .ref 8 1 0), (5001, qc), (5012, qL p), (5013, qN a0), (6005, .ref 20 1 0)], [qb p, (20, .box 1 [sI n5])]⟩
                     [IX ((a5 : Nat) : Int) ((List.length (Pln.Kids (q5 p a0 a1 a2 a3 a4)) : Nat) : Int)] (by rfl) (by kernel_rfl) ?_ ?_
                    ·
                     refine ⟨?_, trivial⟩
                     ·
                      refine IX.of ?_
                      first | omega | (dsimp only; omega) | (simp only [lens] at *; omega)
                    refine AWO.call hC6.ty (vs := [sR8 (q6 p a0 a1 a2 a3 a4 a5), qc]) (caps := []) (by rfl) rfl (.inl rfl) (by decide) (by kernel_rfl) (by kernel_rfl) Try.func19 (by kernel_rfl) rfl (by kernel_rfl) ?_
                    intro o7
                    refine AW.kp [0, 1, 1000, 1001, 1012, 1013, 2000, 2001, 2012, 2013, 3000, 3001, 3012, 3013, 4000, 4001, 4012, 4013, 5000, 5001, 5012, 5013, 6000, 6001, 6012, 6013, 7005] [8, 20] ⟨[(0, sR8 (q6 p a0 a1 a2 a3 a4 a5)), (1, qc), (1000, sR8 (q5 p a0 a1 a2 a3 a4)), (1001, qc), (1012, qL (q5 p a0 a1 a2 a3 a4)), (1013, qN a5), (2000, sR8 (q4 p a0 a1 a2 a3)), (2001, qc), (2012, qL (q4 p a0 a1 a2 a3)), (2013, qN a4), (3000, sR8 (q3 p a0 a1 a2)), (3001, qc), (3012, qL (q3 p a0 a1 a2)), (3013, qN a3), (4000, sR8 (q2 p a0 a1)), (4001, qc), (4012, qL (q2 p a0 a1)), (4013, qN a2), (5000, sR8 (q1 p a0)), (5001, qc), (5012, qL (q1 p a0)), (5013, qN a1), (6000, .ref 8 1 0), (6001, qc), (6012, qL p), (6013, qN a0), (7005, .ref 20 1 0)], [qb p, (20, .box 1 [sI n5])]⟩ ?_
                    refine AW.seq (AW.regionO [0, 1, 2] (by rfl) ?_)
                    refine AWO.run hC7 false [] [0, 1] [2] [0, 1, 5, 6, 1000, 1001, 1012, 1013, 2000, 2001, 2012, 2013, 3000, 3001, 3012, 3013, 4000, 4001, 4012, 4013, 5000, 5001, 5012, 5013, 6000, 6001, 6012, 6013, 7005] [8, 20]
                     ⟨[(0, sR8 (q6 p a0 a1 a2 a3 a4 a5)), (1, qc), (5, qc), (6, sR8 (q6 p a0 a1 a2 a3 a4 a5)), (1000, sR8 (q5 p a0 a1 a2 a3 a4)), (1001, qc), (1012, qL (q5 p a0 a1 a2 a3 a4)), (1013, qN a5), (2000, sR8 (q4 p a0 a1 a2 a3)), (2001, qc), (2012, qL (q4 p a0 a1 a2 a3)), (2013, qN a4), (3000, sR8 (q3 p a0 a1 a2)), (3001, qc), (3012, qL (q3 p a0 a1 a2)), (3013, qN a3), (4000, sR8 (q2 p a0 a1)), (4001, qc), (4012, qL (q2 p a0 a1)), (4013, qN a2), (5000, sR8 (q1 p a0)), (5001, qc), (5012, qL (q1 p a0)), (5013, qN a1), (6000, .ref 8 1 0), (6001, qc), (6012, qL p), (6013, qN a0), (7005, .ref 20 1 0)], [qb p, (20, .box 1 [sI n5])]⟩
                     [] (by rfl) (by kernel_rfl) ?_ ?_
                    ·
                     exact trivial
                    refine AWO.call hC7.ty (vs := [sR8 (q6 p a0 a1 a2 a3 a4 a5)]) (caps := [.ref 20 1 0]) (by rfl) rfl (.inl rfl) (by decide) (by kernel_rfl) (by kernel_rfl) Try.func20 (by kernel_rfl) rfl (by kernel_rfl) ?_
                    intro o8
                    refine AW.kp [0, 1, 1000, 1001, 2000, 2001, 2012, 2013, 3000, 3001, 3012, 3013, 4000, 4001, 4012, 4013, 5000, 5001, 5012, 5013, 6000, 6001, 6012, 6013, 7000, 7001, 7012, 7013, 8005] [8, 20] ⟨[(0, sR8 (q6 p a0 a1 a2 a3 a4 a5)), (1, .ref 20 1 0), (1000, sR8 (q6 p a0 a1 a2 a3 a4 a5)), (1001, qc), (2000, sR8 (q5 p a0 a1 a2 a3 a4)), (2001, qc), (2012, qL (q5 p a0 a1 a2 a3 a4)), (2013, qN a5), (3000, sR8 (q4 p a0 a1 a2 a3)), (3001, qc), (3012, qL (q4 p a0 a1 a2 a3)), (3013, qN a4), (4000, sR8 (q3 p a0 a1 a2)), (4001, qc), (4012, qL (q3 p a0 a1 a2)), (4013, qN a3), (5000, sR8 (q2 p a0 a1)), (5001, qc), (5012, qL (q2 p a0 a1)), (5013, qN a2), (6000, sR8 (q1 p a0)), (6001, qc), (6012, qL (q1 p a0)), (6013, qN a1), (7000, .ref 8 1 0), (7001, qc), (7012, qL p), (7013, qN a0), (8005, .ref 20 1 0)], [qb p, (20, .box 1 [sI n5])]⟩ ?_
                    refine AW.reg hC8  true [] [1000, 1001, 2000, 2001, 2012, 2013, 3000, 3001, 3012, 3013, 4000, 4001, 4012, 4013, 5000, 5001, 5012, 5013, 6000, 6001, 6012, 6013, 7000, 7001, 7012, 7013, 8005] [8, 20]
                     ⟨[(1000, sR8 (q6 p a0 a1 a2 a3 a4 a5)), (1001, qc), (2000, sR8 (q5 p a0 a1 a2 a3 a4)), (2001, qc), (2012, qL (q5 p a0 a1 a2 a3 a4)), (2013, qN a5), (3000, sR8 (q4 p a0 a1 a2 a3)), (3001, qc), (3012, qL (q4 p a0 a1 a2 a3)), (3013, qN a4), (4000, sR8 (q3 p a0 a1 a2)), (4001, qc), (4012, qL (q3 p a0 a1 a2)), (4013, qN a3), (5000, sR8 (q2 p a0 a1)), (5001, qc), (5012, qL (q2 p a0 a1)), (5013, qN a2), (6000, sR8 (q1 p a0)), (6001, qc), (6012, qL (q1 p a0)), (6013, qN a1), (7000, .ref 8 1 0), (7001, qc), (7012, qL p), (7013, qN a0), (8005, .ref 20 1 0)], [qb p, (20, .box 1 [sI (wq (n5 + 1))])]⟩
                     [] (by kernel_rfl) ?_ ?_
                    ·
                     exact trivial
                    refine ⟨[], by kernel_rfl, ?_⟩
                    refine AWO.keep [0, 1, 1000, 1001, 1012, 1013, 2000, 2001, 2012, 2013, 3000, 3001, 3012, 3013, 4000, 4001, 4012, 4013, 5000, 5001, 5012, 5013, 6000, 6001, 6012, 6013, 7005] [8, 20] ⟨[(0, sR8 (q6 p a0 a1 a2 a3 a4 a5)), (1, qc), (1000, sR8 (q5 p a0 a1 a2 a3 a4)), (1001, qc), (1012, qL (q5 p a0 a1 a2 a3 a4)), (1013, qN a5), (2000, sR8 (q4 p a0 a1 a2 a3)), (2001, qc), (2012, qL (q4 p a0 a1 a2 a3)), (2013, qN a4), (3000, sR8 (q3 p a0 a1 a2)), (3001, qc), (3012, qL (q3 p a0 a1 a2)), (3013, qN a3), (4000, sR8 (q2 p a0 a1)), (4001, qc), (4012, qL (q2 p a0 a1)), (4013, qN a2), (5000, sR8 (q1 p a0)), (5001, qc), (5012, qL (q1 p a0)), (5013, qN a1), (6000, .ref 8 1 0), (6001, qc), (6012, qL p), (6013, qN a0), (7005, .ref 20 1 0)], [qb p, (20, .box 1 [sI (wq (n5 + 1))])]⟩ (by kernel_rfl) ?_
                    refine AWO.run hC7 false [] [] [] [0, 1, 1000, 1001, 1012, 1013, 2000, 2001, 2012, 2013, 3000, 3001, 3012, 3013, 4000, 4001, 4012, 4013, 5000, 5001, 5012, 5013, 6000, 6001, 6012, 6013, 7005] [8, 20]
                     ⟨[(0, sR8 (q6 p a0 a1 a2 a3 a4 a5)), (1, qc), (1000, sR8 (q5 p a0 a1 a2 a3 a4)), (1001, qc), (1012, qL (q5 p a0 a1 a2 a3 a4)), (1013, qN a5), (2000, sR8 (q4 p a0 a1 a2 a3)), (2001, qc), (2012, qL (q4 p a0 a1 a2 a3)), (2013, qN a4), (3000, sR8 (q3 p a0 a1 a2)), (3001, qc), (3012, qL (q3 p a0 a1 a2)), (3013, qN a3), (4000, sR8 (q2 p a0 a1)), (4001, qc), (4012, qL (q2 p a0 a1)), (4013, qN a2), (5000, sR8 (q1 p a0)), (5001, qc), (5012, qL (q1 p a0)), (5013, qN a1), (6000, .ref 8 1 0), (6001, qc), (6012, qL p), (6013, qN a0), (7005, .ref 20 1 0)], [qb p, (20, .box 1 [sI (wq (n5 + 1))])]⟩
                     [] (by rfl) (by kernel_rfl) ?_ ?_
                    ·
                     exact trivial
                    refine AWO.nil ?_
                    refine AW.seq (AW.r1 hC7 [0, 1, 12, 13, 1000, 1001, 1012, 1013, 2000, 2001, 2012, 2013, 3000, 3001, 3012, 3013, 4000, 4001, 4012, 4013, 5000, 5001, 5012, 5013, 6000, 6001, 6012, 6013, 7005] [8, 20] ⟨[(0, sR8 (q6 p a0 a1 a2 a3 a4 a5)), (1, qc), (12, qL (q6 p a0 a1 a2 a3 a4 a5)), (13, sI 0), (1000, sR8 (q5 p a0 a1 a2 a3 a4)), (1001, qc), (1012, qL (q5 p a0 a1 a2 a3 a4)), (1013, qN a5), (2000, sR8 (q4 p a0 a1 a2 a3)), (2001, qc), (2012, qL (q4 p a0 a1 a2 a3)), (2013, qN a4), (3000, sR8 (q3 p a0 a1 a2)), (3001, qc), (3012, qL (q3 p a0 a1 a2)), (3013, qN a3), (4000, sR8 (q2 p a0 a1)), (4001, qc), (4012, qL (q2 p a0 a1)), (4013, qN a2), (5000, sR8 (q1 p a0)), (5001, qc), (5012, qL (q1 p a0)), (5013, qN a1), (6000, .ref 8 1 0), (6001, qc), (6012, qL p), (6013, qN a0), (7005, .ref 20 1 0)], [qb p, (20, .box 1 [sI (wq (n5 + 1))])]⟩ ?_)
                    refine AW.cutQ (α := Int) (fun x => ⟨[(1000, sR8 (q5 p a0 a1 a2 a3 a4)), (1001, qc), (1012, qL (q5 p a0 a1 a2 a3 a4)), (1013, qN a5), (2000, sR8 (q4 p a0 a1 a2 a3)), (2001, qc), (2012, qL (q4 p a0 a1 a2 a3)), (2013, qN a4), (3000, sR8 (q3 p a0 a1 a2)), (3001, qc), (3012, qL (q3 p a0 a1 a2)), (3013, qN a3), (4000, sR8 (q2 p a0 a1)), (4001, qc), (4012, qL (q2 p a0 a1)), (4013, qN a2), (5000, sR8 (q1 p a0)), (5001, qc), (5012, qL (q1 p a0)), (5013, qN a1), (6000, .ref 8 1 0), (6001, qc), (6012, qL p), (6013, qN a0), (7005, .ref 20 1 0)], [qb p, (20, .box 1 [sI x])]⟩) (fun x => (True) ∧ (iPlanSize_l6 p a0 a1 a2 a3 a4 a5 ((List.length (Pln.Kids (q6 p a0 a1 a2 a3 a4 a5))) - 0 + 1) 0 (wq (n5 + 1))) = x) ?_ ?_
                    ·
                     skip
                     refine AW.block (AW.loop (α := Nat × Int) (fun x => ⟨[(0, sR8 (q6 p a0 a1 a2 a3 a4 a5)), (1, qc), (12, qL (q6 p a0 a1 a2 a3 a4 a5)), (13, sI ((x.1 : Nat) : Int)), (1000, sR8 (q5 p a0 a1 a2 a3 a4)), (1001, qc), (1012, qL (q5 p a0 a1 a2 a3 a4)), (1013, qN a5), (2000, sR8 (q4 p a0 a1 a2 a3)), (2001, qc), (2012, qL (q4 p a0 a1 a2 a3)), (2013, qN a4), (3000, sR8 (q3 p a0 a1 a2)), (3001, qc), (3012, qL (q3 p a0 a1 a2)), (3013, qN a3), (4000, sR8 (q2 p a0 a1)), (4001, qc), (4012, qL (q2 p a0 a1)), (4013, qN a2), (5000, sR8 (q1 p a0)), (5001, qc), (5012, qL (q1 p a0)), (5013, qN a1), (6000, .ref 8 1 0), (6001, qc), (6012, qL p), (6013, qN a0), (7005, .ref 20 1 0)], [qb p, (20, .box 1 [sI x.2])]⟩) (fun x => (True) ∧ ∃ k, (List.length (Pln.Kids (q6 p a0 a1 a2 a3 a4 a5))) - x.1 < k ∧ (iPlanSize_l6 p a0 a1 a2 a3 a4 a5 ((List.length (Pln.Kids (q6 p a0 a1 a2 a3 a4 a5))) - 0 + 1) 0 (wq (n5 + 1))) = iPlanSize_l6 p a0 a1 a2 a3 a4 a5 k x.1 x.2) (fun x => (List.length (Pln.Kids (q6 p a0 a1 a2 a3 a4 a5))) - x.1) (0, (wq (n5 + 1))) (by kernel_rfl) ⟨?_, _, Nat.lt_succ_self _, rfl⟩ ?_)
                     ·
                      show True
                      first | exact trivial | (refine ⟨?_, ?_⟩ <;> first | omega | simp) | omega | simp
                     ·
                      intro x hR
                      obtain ⟨a6, n6⟩ := x
                      obtain ⟨hI6, k11806, hk11804, e11805⟩ := hR
                      replace hI6 : True := hI6
                      replace hk11804 : (List.length (Pln.Kids (q6 p a0 a1 a2 a3 a4 a5))) - a6 < k11806 := hk11804
                      obtain ⟨k11806q, rfl⟩ : ∃ k, k11806 = k + 1 := ⟨k11806 - 1, by omega⟩
                      have hK := hN.kids2
                      refine AW.seq (AW.r1 hC7 [0, 1, 12, 13, 14, 1000, 1001, 1012, 1013, 2000, 2001, 2012, 2013, 3000, 3001, 3012, 3013, 4000, 4001, 4012, 4013, 5000, 5001, 5012, 5013, 6000, 6001, 6012, 6013, 7005] [8, 20] ⟨[(0, sR8 (q6 p a0 a1 a2 a3 a4 a5)), (1, qc), (12, qL (q6 p a0 a1 a2 a3 a4 a5)), (13, qN a6), (14, sB (decide (((a6 : Nat) : Int) < ((List.length (Pln.Kids (q6 p a0 a1 a2 a3 a4 a5)) : Nat) : Int)))), (1000, sR8 (q5 p a0 a1 a2 a3 a4)), (1001, qc), (1012, qL (q5 p a0 a1 a2 a3 a4)), (1013, qN a5), (2000, sR8 (q4 p a0 a1 a2 a3)), (2001, qc), (2012, qL (q4 p a0 a1 a2 a3)), (2013, qN a4), (3000, sR8 (q3 p a0 a1 a2)), (3001, qc), (3012, qL (q3 p a0 a1 a2)), (3013, qN a3), (4000, sR8 (q2 p a0 a1)), (4001, qc), (4012, qL (q2 p a0 a1)), (4013, qN a2), (5000, sR8 (q1 p a0)), (5001, qc), (5012, qL (q1 p a0)), (5013, qN a1), (6000, .ref 8 1 0), (6001, qc), (6012, qL p), (6013, qN a0), (7005, .ref 20 1 0)], [qb p, (20, .box 1 [sI n6])]⟩ ?_)
                      refine AW.seq (AW.cd (decide (((a6 : Nat) : Int) < ((List.length (Pln.Kids (q6 p a0 a1 a2 a3 a4 a5)) : Nat) : Int))) ?_ ?_)
                      ·
                       intro h11807
                       have h11807q := (of_decide_eq_true h11807)
                       have e11808 := e11805.trans (Go.Am.bif_t h11807)
                       refine AW.kp [0, 1, 12, 13, 1000, 1001, 1012, 1013, 2000, 2001, 2012, 2013, 3000, 3001, 3012, 3013, 4000, 4001, 4012, 4013, 5000, 5001, 5012, 5013, 6000, 6001, 6012, 6013, 7005] [8, 20] ⟨[(0, sR8 (q6 p a0 a1 a2 a3 a4 a5)), (1, qc), (12, qL (q6 p a0 a1 a2 a3 a4 a5)), (13, qN a6), (1000, sR8 (q5 p a0 a1 a2 a3 a4)), (1001, qc), (1012, qL (q5 p a0 a1 a2 a3 a4)), (1013, qN a5), (2000, sR8 (q4 p a0 a1 a2 a3)), (2001, qc), (2012, qL (q4 p a0 a1 a2 a3)), (2013, qN a4), (3000, sR8 (q3 p a0 a1 a2)), (3001, qc), (3012, qL (q3 p a0 a1 a2)), (3013, qN a3), (4000, sR8 (q2 p a0 a1)), (4001, qc), (4012, qL (q2 p a0 a1)), (4013, qN a2), (5000, sR8 (q1 p a0)), (5001, qc), (5012, qL (q1 p a0)), (5013, qN a1), (6000, .ref 8 1 0), (6001, qc), (6012, qL p), (6013, qN a0), (7005, .ref 20 1 0)], [qb p, (20, .box 1 [sI n6])]⟩ ?_
                       refine AW.skip (AW.seq (AW.block (AW.seq ?_)))
                       have hN : WL ws 1 (q7 p a0 a1 a2 a3 a4 a5 a6) := hN.kd (Int.ofNat_lt.1 h11807q)
                       refine AW.r1 hC7 [0, 1, 4, 12, 13, 1000, 1001, 1012, 1013, 2000, 2001, 2012, 2013, 3000, 3001, 3012, 3013, 4000, 4001, 4012, 4013, 5000, 5001, 5012, 5013, 6000, 6001, 6012, 6013, 7005] [8, 20] ⟨[(0, sR8 (q6 p a0 a1 a2 a3 a4 a5)), (1, qc), (4, qN a6), (12, qL (q6 p a0 a1 a2 a3 a4 a5)), (13, qN a6), (1000, sR8 (q5 p a0 a1 a2 a3 a4)), (1001, qc), (1012, qL (q5 p a0 a1 a2 a3 a4)), (1013, qN a5), (2000, sR8 (q4 p a0 a1 a2 a3)), (2001, qc), (2012, qL (q4 p a0 a1 a2 a3)), (2013, qN a4), (3000, sR8 (q3 p a0 a1 a2)), (3001, qc), (3012, qL (q3 p a0 a1 a2)), (3013, qN a3), (4000, sR8 (q2 p a0 a1)), (4001, qc), (4012, qL (q2 p a0 a1)), (4013, qN a2), (5000, sR8 (q1 p a0)), (5001, qc), (5012, qL (q1 p a0)), (5013, qN a1), (6000, .ref 8 1 0), (6001, qc), (6012, qL p), (6013, qN a0), (7005, .ref 20 1 0)], [qb p, (20, .box 1 [sI n6])]⟩ ?_
                       refine AW.regionO [0, 1, 2, 3, 4, 5, 6, 7] (by rfl) ?_
                       refine AWO.run hC7 false [] [0, 1, 2, 3, 4, 5, 6] [7] [0, 1, 12, 13, 21, 22, 1000, 1001, 1012, 1013, 2000, 2001, 2012, 2013, 3000, 3001, 3012, 3013, 4000, 4001, 4012, 4013, 5000, 5001, 5012, 5013, 6000, 6001, 6012, 6013, 7005] [8, 20]
                        ⟨[(0, sR8 (q6 p a0 a1 a2 a3 a4 a5)), (1, qc), (12, qL (q6 p a0 a1 a2 a3 a4 a5)), (13, qN a6), (21, sR8 (q7 p a0 a1 a2 a3 a4 a5 a6)), (22, qc), (1000, sR8 (q5 p a0 a1 a2 a3 a4)), (1001, qc), (1012, qL (q5 p a0 a1 a2 a3 a4)), (1013, qN a5), (2000, sR8 (q4 p a0 a1 a2 a3)), (2001, qc), (2012, qL (q4 p a0 a1 a2 a3)), (2013, qN a4), (3000, sR8 (q3 p a0 a1 a2)), (3001, qc), (3012, qL (q3 p a0 a1 a2)), (3013, qN a3), (4000, sR8 (q2 p a0 a1)), (4001, qc), (4012, qL (q2 p a0 a1)), (4013, qN a2), (5000, sR8 (q1 p a0)), (5001, qc), (5012, qL (q1 p a0)), (5013, qN a1), (6000, .ref 8 1 0), (6001, qc), (6012, qL p), (6013, qN a0), (7005, .ref 20 1 0)], [qb p, (20, .box 1 [sI n6])]⟩
                        [IX ((a6 : Nat) : Int) ((List.length (Pln.Kids (q6 p a0 a1 a2 a3 a4 a5)) : Nat) : Int)] (by rfl) (by kernel_rfl) ?_ ?_
                       ·
                        refine ⟨?_, trivial⟩
                        ·
                         refine IX.of ?_
                         first | omega | (dsimp only; omega) | (simp only [lens] at *; omega)
                       refine AWO.call hC7.ty (vs := [sR8 (q7 p a0 a1 a2 a3 a4 a5 a6), qc]) (caps := []) (by rfl) rfl (.inl rfl) (by decide) (by kernel_rfl) (by kernel_rfl) Try.func19 (by kernel_rfl) rfl (by kernel_rfl) ?_
                       intro o8
                       refine AW.kp [0, 1, 1000, 1001, 1012, 1013, 2000, 2001, 2012, 2013, 3000, 3001, 3012, 3013, 4000, 4001, 4012, 4013, 5000, 5001, 5012, 5013, 6000, 6001, 6012, 6013, 7000, 7001, 7012, 7013, 8005] [8, 20] ⟨[(0, sR8 (q7 p a0 a1 a2 a3 a4 a5 a6)), (1, qc), (1000, sR8 (q6 p a0 a1 a2 a3 a4 a5)), (1001, qc), (1012, qL (q6 p a0 a1 a2 a3 a4 a5)), (1013, qN a6), (2000, sR8 (q5 p a0 a1 a2 a3 a4)), (2001, qc), (2012, qL (q5 p a0 a1 a2 a3 a4)), (2013, qN a5), (3000, sR8 (q4 p a0 a1 a2 a3)), (3001, qc), (3012, qL (q4 p a0 a1 a2 a3)), (3013, qN a4), (4000, sR8 (q3 p a0 a1 a2)), (4001, qc), (4012, qL (q3 p a0 a1 a2)), (4013, qN a3), (5000, sR8 (q2 p a0 a1)), (5001, qc), (5012, qL (q2 p a0 a1)), (5013, qN a2), (6000, sR8 (q1 p a0)), (6001, qc), (6012, qL (q1 p a0)), (6013, qN a1), (7000, .ref 8 1 0), (7001, qc), (7012, qL p), (7013, qN a0), (8005, .ref 20 1 0)], [qb p, (20, .box 1 [sI n6])]⟩ ?_
                       refine AW.seq (AW.regionO [0, 1, 2] (by rfl) ?_)
                       refine AWO.run hC8 false [] [0, 1] [2] [0, 1, 5, 6, 1000, 1001, 1012, 1013, 2000, 2001, 2012, 2013, 3000, 3001, 3012, 3013, 4000, 4001, 4012, 4013, 5000, 5001, 5012, 5013, 6000, 6001, 6012, 6013, 7000, 7001, 7012, 7013, 8005] [8, 20]
                        ⟨[(0, sR8 (q7 p a0 a1 a2 a3 a4 a5 a6)), (1, qc), (5, qc), (6, sR8 (q7 p a0 a1 a2 a3 a4 a5 a6)), (1000, sR8 (q6 p a0 a1 a2 a3 a4 a5)), (1001, qc), (1012, qL (q6 p a0 a1 a2 a3 a4 a5)), (1013, qN a6), (2000, sR8 (q5 p a0 a1 a2 a3 a4)), (2001, qc), (2012, qL (q5 p a0 a1 a2 a3 a4)), (2013, qN a5), (3000, sR8 (q4 p a0 a1 a2 a3)), (3001, qc), (3012, qL (q4 p a0 a1 a2 a3)), (3013, qN a4), (4000, sR8 (q3 p a0 a1 a2)), (4001, qc), (4012, qL (q3 p a0 a1 a2)), (4013, qN a3), (5000, sR8 (q2 p a0 a1)), (5001, qc), (5012, qL (q2 p a0 a1)), (5013, qN a2), (6000, sR8 (q1 p a0)), (6001, qc), (6012, qL (q1 p a0)), (6013, qN a1), (7000, .ref 8 1 0), (7001, qc), (7012, qL p), (7013, qN a0), (8005, .ref 20 1 0)], [qb p, (20, .box 1 [sI n6])]⟩
                        [] (by rfl) (by kernel_rfl) ?_ ?_
                       ·
                        exact trivial
                       refine AWO.call hC8.ty (vs := [sR8 (q7 p a0 a1 a2 a3 a4 a5 a6)]) (caps := [.ref 20 1 0]) (by rfl) rfl (.inl rfl) (by decide) (by kernel_rfl) (by kernel_rfl) Try.func20 (by kernel_rfl) rfl (by kernel_rfl) ?_
                       intro o9
                       refine AW.kp [0, 1, 1000, 1001, 2000, 2001, 2012, 2013, 3000, 3001, 3012, 3013, 4000, 4001, 4012, 4013, 5000, 5001, 5012, 5013, 6000, 6001, 6012, 6013, 7000, 7001, 7012, 7013, 8000, 8001, 8012, 8013, 9005] [8, 20] ⟨[(0, sR8 (q7 p a0 a1 a2 a3 a4 a5 a6)), (1, .ref 20 1 0), (1000, sR8 (q7 p a0 a1 a2 a3 a4 a5 a6)), (1001, qc), (2000, sR8 (q6 p a0 a1 a2 a3 a4 a5)), (2001, qc), (2012, qL (q6 p a0 a1 a2 a3 a4 a5)), (2013, qN a6), (3000, sR8 (q5 p a0 a1 a2 a3 a4)), (3001, qc), (3012, qL (q5 p a0 a1 a2 a3 a4)), (3013, qN a5), (4000, sR8 (q4 p a0 a1 a2 a3)), (4001, qc), (4012, qL (q4 p a0 a1 a2 a3)), (4013, qN a4), (5000, sR8 (q3 p a0 a1 a2)), (5001, qc), (5012, qL (q3 p a0 a1 a2)), (5013, qN a3), (6000, sR8 (q2 p a0 a1)), (6001, qc), (6012, qL (q2 p a0 a1)), (6013, qN a2), (7000, sR8 (q1 p a0)), (7001, qc), (7012, qL (q1 p a0)), (7013, qN a1), (8000, .ref 8 1 0), (8001, qc), (8012, qL p), (8013, qN a0), (9005, .ref 20 1 0)], [qb p, (20, .box 1 [sI n6])]⟩ ?_
                       refine AW.reg hC9  true [] [1000, 1001, 2000, 2001, 2012, 2013, 3000, 3001, 3012, 3013, 4000, 4001, 4012, 4013, 5000, 5001, 5012, 5013, 6000, 6001, 6012, 6013, 7000, 7001, 7012, 7013, 8000, 8001, 8012, 8013, 9005] [8, 20]
                        ⟨[(1000, sR8 (q7 p a0 a1 a2 a3 a4 a5 a6)), (1001, qc), (2000, sR8 (q6 p a0 a1 a2 a3 a4 a5)), (2001, qc), (2012, qL (q6 p a0 a1 a2 a3 a4 a5)), (2013, qN a6), (3000, sR8 (q5 p a0 a1 a2 a3 a4)), (3001, qc), (3012, qL (q5 p a0 a1 a2 a3 a4)), (3013, qN a5), (4000, sR8 (q4 p a0 a1 a2 a3)), (4001, qc), (4012, qL (q4 p a0 a1 a2 a3)), (4013, qN a4), (5000, sR8 (q3 p a0 a1 a2)), (5001, qc), (5012, qL (q3 p a0 a1 a2)), (5013, qN a3), (6000, sR8 (q2 p a0 a1)), (6001, qc), (6012, qL (q2 p a0 a1)), (6013, qN a2), (7000, sR8 (q1 p a0)), (7001, qc), (7012, qL (q1 p a0)), (7013, qN a1), (8000, .ref 8 1 0), (8001, qc), (8012, qL p), (8013, qN a0), (9005, .ref 20 1 0)], [qb p, (20, .box 1 [sI (wq (n6 + 1))])]⟩
                        [] (by kernel_rfl) ?_ ?_
                       ·
                        exact trivial
                       refine ⟨[], by kernel_rfl, ?_⟩
                       refine AWO.keep [0, 1, 1000, 1001, 1012, 1013, 2000, 2001, 2012, 2013, 3000, 3001, 3012, 3013, 4000, 4001, 4012, 4013, 5000, 5001, 5012, 5013, 6000, 6001, 6012, 6013, 7000, 7001, 7012, 7013, 8005] [8, 20] ⟨[(0, sR8 (q7 p a0 a1 a2 a3 a4 a5 a6)), (1, qc), (1000, sR8 (q6 p a0 a1 a2 a3 a4 a5)), (1001, qc), (1012, qL (q6 p a0 a1 a2 a3 a4 a5)), (1013, qN a6), (2000, sR8 (q5 p a0 a1 a2 a3 a4)), (2001, qc), (2012, qL (q5 p a0 a1 a2 a3 a4)), (2013, qN a5), (3000, sR8 (q4 p a0 a1 a2 a3)), (3001, qc), (3012, qL (q4 p a0 a1 a2 a3)), (3013, qN a4), (4000, sR8 (q3 p a0 a1 a2)), (4001, qc), (4012, qL (q3 p a0 a1 a2)), (4013, qN a3), (5000, sR8 (q2 p a0 a1)), (5001, qc), (5012, qL (q2 p a0 a1)), (5013, qN a2), (6000, sR8 (q1 p a0)), (6001, qc), (6012, qL (q1 p a0)), (6013, qN a1), (7000, .ref 8 1 0), (7001, qc), (7012, qL p), (7013, qN a0), (8005, .ref 20 1 0)], [qb p, (20, .box 1 [sI (wq (n6 + 1))])]⟩ (by kernel_rfl) ?_
                       refine AWO.run hC8 false [] [] [] [0, 1, 1000, 1001, 1012, 1013, 2000, 2001, 2012, 2013, 3000, 3001, 3012, 3013, 4000, 4001, 4012, 4013, 5000, 5001, 5012, 5013, 6000, 6001, 6012, 6013, 7000, 7001, 7012, 7013, 8005] [8, 20]
                        ⟨[(0, sR8 (q7 p a0 a1 a2 a3 a4 a5 a6)), (1, qc), (1000, sR8 (q6 p a0 a1 a2 a3 a4 a5)), (1001, qc), (1012, qL (q6 p a0 a1 a2 a3 a4 a5)), (1013, qN a6), (2000, sR8 (q5 p a0 a1 a2 a3 a4)), (2001, qc), (2012, qL (q5 p a0 a1 a2 a3 a4)), (2013, qN a5), (3000, sR8 (q4 p a0 a1 a2 a3)), (3001, qc), (3012, qL (q4 p a0 a1 a2 a3)), (3013, qN a4), (4000, sR8 (q3 p a0 a1 a2)), (4001, qc), (4012, qL (q3 p a0 a1 a2)), (4013, qN a3), (5000, sR8 (q2 p a0 a1)), (5001, qc), (5012, qL (q2 p a0 a1)), (5013, qN a2), (6000, sR8 (q1 p a0)), (6001, qc), (6012, qL (q1 p a0)), (6013, qN a1), (7000, .ref 8 1 0), (7001, qc), (7012, qL p), (7013, qN a0), (8005, .ref 20 1 0)], [qb p, (20, .box 1 [sI (wq (n6 + 1))])]⟩
                        [] (by rfl) (by kernel_rfl) ?_ ?_
                       ·
                        exact trivial
                       refine AWO.nil ?_
                       refine AW.seq (AW.r1 hC8 [0, 1, 12, 13, 1000, 1001, 1012, 1013, 2000, 2001, 2012, 2013, 3000, 3001, 3012, 3013, 4000, 4001, 4012, 4013, 5000, 5001, 5012, 5013, 6000, 6001, 6012, 6013, 7000, 7001, 7012, 7013, 8005] [8, 20] ⟨[(0, sR8 (q7 p a0 a1 a2 a3 a4 a5 a6)), (1, qc), (12, qL (q7 p a0 a1 a2 a3 a4 a5 a6)), (13, sI 0), (1000, sR8 (q6 p a0 a1 a2 a3 a4 a5)), (1001, qc), (1012, qL (q6 p a0 a1 a2 a3 a4 a5)), (1013, qN a6), (2000, sR8 (q5 p a0 a1 a2 a3 a4)), (2001, qc), (2012, qL (q5 p a0 a1 a2 a3 a4)), (2013, qN a5), (3000, sR8 (q4 p a0 a1 a2 a3)), (3001, qc), (3012, qL (q4 p a0 a1 a2 a3)), (3013, qN a4), (4000, sR8 (q3 p a0 a1 a2)), (4001, qc), (4012, qL (q3 p a0 a1 a2)), (4013, qN a3), (5000, sR8 (q2 p a0 a1)), (5001, qc), (5012, qL (q2 p a0 a1)), (5013, qN a2), (6000, sR8 (q1 p a0)), (6001, qc), (6012, qL (q1 p a0)), (6013, qN a1), (7000, .ref 8 1 0), (7001, qc), (7012, qL p), (7013, qN a0), (8005, .ref 20 1 0)], [qb p, (20, .box 1 [sI (wq (n6 + 1))])]⟩ ?_)
                       refine AW.cutQ (α := Int) (fun x => ⟨[(1000, sR8 (q6 p a0 a1 a2 a3 a4 a5)), (1001, qc), (1012, qL (q6 p a0 a1 a2 a3 a4 a5)), (1013, qN a6), (2000, sR8 (q5 p a0 a1 a2 a3 a4)), (2001, qc), (2012, qL (q5 p a0 a1 a2 a3 a4)), (2013, qN a5), (3000, sR8 (q4 p a0 a1 a2 a3)), (3001, qc), (3012, qL (q4 p a0 a1 a2 a3)), (3013, qN a4), (4000, sR8 (q3 p a0 a1 a2)), (4001, qc), (4012, qL (q3 p a0 a1 a2)), (4013, qN a3), (5000, sR8 (q2 p a0 a1)), (5001, qc), (5012, qL (q2 p a0 a1)), (5013, qN a2), (6000, sR8 (q1 p a0)), (6001, qc), (6012, qL (q1 p a0)), (6013, qN a1), (7000, .ref 8 1 0), (7001, qc), (7012, qL p), (7013, qN a0), (8005, .ref 20 1 0)], [qb p, (20, .box 1 [sI x])]⟩) (fun x => (True) ∧ (iPlanSize_l7 p a0 a1 a2 a3 a4 a5 a6 ((List.length (Pln.Kids (q7 p a0 a1 a2 a3 a4 a5 a6))) - 0 + 1) 0 (wq (n6 + 1))) = x) ?_ ?_
                       ·
                        skip
                        refine AW.block (AW.loop (α := Nat × Int) (fun x => ⟨[(0, sR8 (q7 p a0 a1 a2 a3 a4 a5 a6)), (1, qc), (12, qL (q7 p a0 a1 a2 a3 a4 a5 a6)), (13, sI ((x.1 : Nat) : Int)), (1000, sR8 (q6 p a0 a1 a2 a3 a4 a5)), (1001, qc), (1012, qL (q6 p a0 a1 a2 a3 a4 a5)), (1013, qN a6), (2000, sR8 (q5 p a0 a1 a2 a3 a4)), (2001, qc), (2012, qL (q5 p a0 a1 a2 a3 a4)), (2013, qN a5), (3000, sR8 (q4 p a0 a1 a2 a3)), (3001, qc), (3012, qL (q4 p a0 a1 a2 a3)), (3013, qN a4), (4000, sR8 (q3 p a0 a1 a2)), (4001, qc), (4012, qL (q3 p a0 a1 a2)), (4013, qN a3), (5000, sR8 (q2 p a0 a1)), (5001, qc), (5012, qL (q2 p a0 a1)), (5013, qN a2), (6000, sR8 (q1 p a0)), (6001, qc), (6012, qL (q1 p a0)), (6013, qN a1), (7000, .ref 8 1 0), (7001, qc), (7012, qL p), (7013, qN a0), (8005, .ref 20 1 0)], [qb p, (20, .box 1 [sI x.2])]⟩) (fun x => (True) ∧ ∃ k, (List.length (Pln.Kids (q7 p a0 a1 a2 a3 a4 a5 a6))) - x.1 < k ∧ (iPlanSize_l7 p a0 a1 a2 a3 a4 a5 a6 ((List.length (Pln.Kids (q7 p a0 a1 a2 a3 a4 a5 a6))) - 0 + 1) 0 (wq (n6 + 1))) = iPlanSize_l7 p a0 a1 a2 a3 a4 a5 a6 k x.1 x.2) (fun x => (List.length (Pln.Kids (q7 p a0 a1 a2 a3 a4 a5 a6))) - x.1) (0, (wq (n6 + 1))) (by kernel_rfl) ⟨?_, _, Nat.lt_succ_self _, rfl⟩ ?_)
                        ·
                         show True
                         first | exact trivial | (refine ⟨?_, ?_⟩ <;> first | omega | simp) | omega | simp
                        ·
                         intro x hR
                         obtain ⟨a7, n7⟩ := x
                         obtain ⟨hI7, k11816, hk11814, e11815⟩ := hR
                         replace hI7 : True := hI7
                         replace hk11814 : (List.length (Pln.Kids (q7 p a0 a1 a2 a3 a4 a5 a6))) - a7 < k11816 := hk11814
                         obtain ⟨k11816q, rfl⟩ : ∃ k, k11816 = k + 1 := ⟨k11816 - 1, by omega⟩
                         have hK := hN.kids2
                         refine AW.seq (AW.r1 hC8 [0, 1, 12, 13, 14, 1000, 1001, 1012, 1013, 2000, 2001, 2012, 2013, 3000, 3001, 3012, 3013, 4000, 4001, 4012, 4013, 5000, 5001, 5012, 5013, 6000, 6001, 6012, 6013, 7000, 7001, 7012, 7013, 8005] [8, 20] ⟨[(0, sR8 (q7 p a0 a1 a2 a3 a4 a5 a6)), (1, qc), (12, qL (q7 p a0 a1 a2 a3 a4 a5 a6)), (13, qN a7), (14, sB (decide (((a7 : Nat) : Int) < ((List.length (Pln.Kids (q7 p a0 a1 a2 a3 a4 a5 a6)) : Nat) : Int)))), (1000, sR8 (q6 p a0 a1 a2 a3 a4 a5)), (1001, qc), (1012, qL (q6 p a0 a1 a2 a3 a4 a5)), (1013, qN a6), (2000, sR8 (q5 p a0 a1 a2 a3 a4)), (2001, qc), (2012, qL (q5 p a0 a1 a2 a3 a4)), (2013, qN a5), (3000, sR8 (q4 p a0 a1 a2 a3)), (3001, qc), (3012, qL (q4 p a0 a1 a2 a3)), (3013, qN a4), (4000, sR8 (q3 p a0 a1 a2)), (4001, qc), (4012, qL (q3 p a0 a1 a2)), (4013, qN a3), (5000, sR8 (q2 p a0 a1)), (5001, qc), (5012, qL (q2 p a0 a1)), (5013, qN a2), (6000, sR8 (q1 p a0)), (6001, qc), (6012, qL (q1 p a0)), (6013, qN a1), (7000, .ref 8 1 0), (7001, qc), (7012, qL p), (7013, qN a0), (8005, .ref 20 1 0)], [qb p, (20, .box 1 [sI n7])]⟩ ?_)
                         refine AW.seq (AW.cd (decide (((a7 : Nat) : Int) < ((List.length (Pln.Kids (q7 p a0 a1 a2 a3 a4 a5 a6)) : Nat) : Int))) ?_ ?_)
                         ·
                          intro h11817
                          have h11817q := (of_decide_eq_true h11817)
                          have e11818 := e11815.trans (Go.Am.bif_t h11817)
                          refine AW.kp [0, 1, 12, 13, 1000, 1001, 1012, 1013, 2000, 2001, 2012, 2013, 3000, 3001, 3012, 3013, 4000, 4001, 4012, 4013, 5000, 5001, 5012, 5013, 6000, 6001, 6012, 6013, 7000, 7001, 7012, 7013, 8005] [8, 20] ⟨[(0, sR8 (q7 p a0 a1 a2 a3 a4 a5 a6)), (1, qc), (12, qL (q7 p a0 a1 a2 a3 a4 a5 a6)), (13, qN a7), (1000, sR8 (q6 p a0 a1 a2 a3 a4 a5)), (1001, qc), (1012, qL (q6 p a0 a1 a2 a3 a4 a5)), (1013, qN a6), (2000, sR8 (q5 p a0 a1 a2 a3 a4)), (2001, qc), (2012, qL (q5 p a0 a1 a2 a3 a4)), (2013, qN a5), (3000, sR8 (q4 p a0 a1 a2 a3)), (3001, qc), (3012, qL (q4 p a0 a1 a2 a3)), (3013, qN a4), (4000, sR8 (q3 p a0 a1 a2)), (4001, qc), (4012, qL (q3 p a0 a1 a2)), (4013, qN a3), (5000, sR8 (q2 p a0 a1)), (5001, qc), (5012, qL (q2 p a0 a1)), (5013, qN a2), (6000, sR8 (q1 p a0)), (6001, qc), (6012, qL (q1 p a0)), (6013, qN a1), (7000, .ref 8 1 0), (7001, qc), (7012, qL p), (7013, qN a0), (8005, .ref 20 1 0)], [qb p, (20, .box 1 [sI n7])]⟩ ?_
                          refine AW.skip (AW.seq (AW.block (AW.seq ?_)))
                          have hN : WL ws 0 (q8 p a0 a1 a2 a3 a4 a5 a6 a7) := hN.kd (Int.ofNat_lt.1 h11817q)
                          refine AW.r1 hC8 [0, 1, 4, 12, 13, 1000, 1001, 1012, 1013, 2000, 2001, 2012, 2013, 3000, 3001, 3012, 3013, 4000, 4001, 4012, 4013, 5000, 5001, 5012, 5013, 6000, 6001, 6012, 6013, 7000, 7001, 7012, 7013, 8005] [8, 20] ⟨[(0, sR8 (q7 p a0 a1 a2 a3 a4 a5 a6)), (1, qc), (4, qN a7), (12, qL (q7 p a0 a1 a2 a3 a4 a5 a6)), (13, qN a7), (1000, sR8 (q6 p a0 a1 a2 a3 a4 a5)), (1001, qc), (1012, qL (q6 p a0 a1 a2 a3 a4 a5)), (1013, qN a6), (2000, sR8 (q5 p a0 a1 a2 a3 a4)), (2001, qc), (2012, qL (q5 p a0 a1 a2 a3 a4)), (2013, qN a5), (3000, sR8 (q4 p a0 a1 a2 a3)), (3001, qc), (3012, qL (q4 p a0 a1 a2 a3)), (3013, qN a4), (4000, sR8 (q3 p a0 a1 a2)), (4001, qc), (4012, qL (q3 p a0 a1 a2)), (4013, qN a3), (5000, sR8 (q2 p a0 a1)), (5001, qc), (5012, qL (q2 p a0 a1)), (5013, qN a2), (6000, sR8 (q1 p a0)), (6001, qc), (6012, qL (q1 p a0)), (6013, qN a1), (7000, .ref 8 1 0), (7001, qc), (7012, qL p), (7013, qN a0), (8005, .ref 20 1 0)], [qb p, (20, .box 1 [sI n7])]⟩ ?_
                          refine AW.regionO [0, 1, 2, 3, 4, 5, 6, 7] (by rfl) ?_
                          refine AWO.run hC8 false [] [0, 1, 2, 3, 4, 5, 6] [7] [0, 1, 12, 13, 21, 22, 1000, 1001, 1012, 1013, 2000, 2001, 2012, 2013, 3000, 3001, 3012, 3013, 4000, 4001, 4012, 4013, 5000, 5001, 5012, 5013, 6000, 6001, 6012, 6013, 7000, 7001, 7012, 7013, 8005] [8, 20]
                           ⟨[(0, sR8 (q7 p a0 a1 a2 a3 a4 a5 a6)), (1, qc), (12, qL (q7 p a0 a1 a2 a3 a4 a5 a6)), (13, qN a7), (21, sR8 (q8 p a0 a1 a2 a3 a4 a5 a6 a7)), (22, qc), (1000, sR8 (q6 p a0 a1 a2 a3 a4 a5)), (1001, qc), (1012, qL (q6 p a0 a1 a2 a3 a4 a5)), (1013, qN a6), (2000, sR8 (q5 p a0 a1 a2 a3 a4)), (2001, qc), (2012, qL (q5 p a0 a1 a2 a3 a4)), (2013, qN a5), (3000, sR8 (q4 p a0 a1 a2 a3)), (3001, qc), (3012, qL (q4 p a0 a1 a2 a3)), (3013, qN a4), (4000, sR8 (q3 p a0 a1 a2)), (4001, qc), (4012, qL (q3 p a0 a1 a2)), (4013, qN a3), (5000, sR8 (q2 p a0 a1)), (5001, qc), (5012, qL (q2 p a0 a1)), (5013, qN a2), (6000, sR8 (q1 p a0)), (6001, qc), (6012, qL (q1 p a0)), (6013, qN a1), (7000, .ref 8 1 0), (7001, qc), (7012, qL p), (7013, qN a0), (8005, .ref 20 1 0)], [qb p, (20, .box 1 [sI n7])]⟩
                           [IX ((a7 : Nat) : Int) ((List.length (Pln.Kids (q7 p a0 a1 a2 a3 a4 a5 a6)) : Nat) : Int)] (by rfl) (by kernel_rfl) ?_ ?_
                          ·
                           refine ⟨?_, trivial⟩
                           ·
                            refine IX.of ?_
                            first | omega | (dsimp only; omega) | (simp only [lens] at *; omega)
                          refine AWO.call hC8.ty (vs := [sR8 (q8 p a0 a1 a2 a3 a4 a5 a6 a7), qc]) (caps := []) (by rfl) rfl (.inl rfl) (by decide) (by kernel_rfl) (by kernel_rfl) Try.func19 (by kernel_rfl) rfl (by kernel_rfl) ?_
                          intro o9
                          refine AW.kp [0, 1, 1000, 1001, 1012, 1013, 2000, 2001, 2012, 2013, 3000, 3001, 3012, 3013, 4000, 4001, 4012, 4013, 5000, 5001, 5012, 5013, 6000, 6001, 6012, 6013, 7000, 7001, 7012, 7013, 8000, 8001, 8012, 8013, 9005] [8, 20] ⟨[(0, sR8 (q8 p a0 a1 a2 a3 a4 a5 a6 a7)), (1, qc), (1000, sR8 (q7 p a0 a1 a2 a3 a4 a5 a6)), (1001, qc), (1012, qL (q7 p a0 a1 a2 a3 a4 a5 a6)), (1013, qN a7), (2000, sR8 (q6 p a0 a1 a2 a3 a4 a5)), (2001, qc), (2012, qL (q6 p a0 a1 a2 a3 a4 a5)), (2013, qN a6), (3000, sR8 (q5 p a0 a1 a2 a3 a4)), (3001, qc), (3012, qL (q5 p a0 a1 a2 a3 a4)), (3013, qN a5), (4000, sR8 (q4 p a0 a1 a2 a3)), (4001, qc), (4012, qL (q4 p a0 a1 a2 a3)), (4013, qN a4), (5000, sR8 (q3 p a0 a1 a2)), (5001, qc), (5012, qL (q3 p a0 a1 a2)), (5013, qN a3), (6000, sR8 (q2 p a0 a1)), (6001, qc), (6012, qL (q2 p a0 a1)), (6013, qN a2), (7000, sR8 (q1 p a0)), (7001, qc), (7012, qL (q1 p a0)), (7013, qN a1), (8000, .ref 8 1 0), (8001, qc), (8012, qL p), (8013, qN a0), (9005, .ref 20 1 0)], [qb p, (20, .box 1 [sI n7])]⟩ ?_
                          refine AW.seq (AW.regionO [0, 1, 2] (by rfl) ?_)
                          refine AWO.run hC9 false [] [0, 1] [2] [0, 1, 5, 6, 1000, 1001, 1012, 1013, 2000, 2001, 2012, 2013, 3000, 3001, 3012, 3013, 4000, 4001, 4012, 4013, 5000, 5001, 5012, 5013, 6000, 6001, 6012, 6013, 7000, 7001, 7012, 7013, 8000, 8001, 8012, 8013, 9005] [8, 20]
                           ⟨[(0, sR8 (q8 p a0 a1 a2 a3 a4 a5 a6 a7)), (1, qc), (5, qc), (6, sR8 (q8 p a0 a1 a2 a3 a4 a5 a6 a7)), (1000, sR8 (q7 p a0 a1 a2 a3 a4 a5 a6)), (1001, qc), (1012, qL (q7 p a0 a1 a2 a3 a4 a5 a6)), (1013, qN a7), (2000, sR8 (q6 p a0 a1 a2 a3 a4 a5)), (2001, qc), (2012, qL (q6 p a0 a1 a2 a3 a4 a5)), (2013, qN a6), (3000, sR8 (q5 p a0 a1 a2 a3 a4)), (3001, qc), (3012, qL (q5 p a0 a1 a2 a3 a4)), (3013, qN a5), (4000, sR8 (q4 p a0 a1 a2 a3)), (4001, qc), (4012, qL (q4 p a0 a1 a2 a3)), (4013, qN a4), (5000, sR8 (q3 p a0 a1 a2)), (5001, qc), (5012, qL (q3 p a0 a1 a2)), (5013, qN a3), (6000, sR8 (q2 p a0 a1)), (6001, qc), (6012, qL (q2 p a0 a1)), (6013, qN a2), (7000, sR8 (q1 p a0)), (7001, qc), (7012, qL (q1 p a0)), (7013, qN a1), (8000, .ref 8 1 0), (8001, qc), (8012, qL p), (8013, qN a0), (9005, .ref 20 1 0)], [qb p, (20, .box 1 [sI n7])]⟩
                           [] (by rfl) (by kernel_rfl) ?_ ?_
                          ·
                           exact trivial
                          refine AWO.call hC9.ty (vs := [sR8 (q8 p a0 a1 a2 a3 a4 a5 a6 a7)]) (caps := [.ref 20 1 0]) (by rfl) rfl (.inl rfl) (by decide) (by kernel_rfl) (by kernel_rfl) Try.func20 (by kernel_rfl) rfl (by kernel_rfl) ?_
                          intro o10
                          refine AW.kp [0, 1, 1000, 1001, 2000, 2001, 2012, 2013, 3000, 3001, 3012, 3013, 4000, 4001, 4012, 4013, 5000, 5001, 5012, 5013, 6000, 6001, 6012, 6013, 7000, 7001, 7012, 7013, 8000, 8001, 8012, 8013, 9000, 9001, 9012, 9013, 10005] [8, 20] ⟨[(0, sR8 (q8 p a0 a1 a2 a3 a4 a5 a6 a7)), (1, .ref 20 1 0), (1000, sR8 (q8 p a0 a1 a2 a3 a4 a5 a6 a7)), (1001, qc), (2000, sR8 (q7 p a0 a1 a2 a3 a4 a5 a6)), (2001, qc), (2012, qL (q7 p a0 a1 a2 a3 a4 a5 a6)), (2013, qN a7), (3000, sR8 (q6 p a0 a1 a2 a3 a4 a5)), (3001, qc), (3012, qL (q6 p a0 a1 a2 a3 a4 a5)), (3013, qN a6), (4000, sR8 (q5 p a0 a1 a2 a3 a4)), (4001, qc), (4012, qL (q5 p a0 a1 a2 a3 a4)), (4013, qN a5), (5000, sR8 (q4 p a0 a1 a2 a3)), (5001, qc), (5012, qL (q4 p a0 a1 a2 a3)), (5013, qN a4), (6000, sR8 (q3 p a0 a1 a2)), (6001, qc), (6012, qL (q3 p a0 a1 a2)), (6013, qN a3), (7000, sR8 (q2 p a0 a1)), (7001, qc), (7012, qL (q2 p a0 a1)), (7013, qN a2), (8000, sR8 (q1 p a0)), (8001, qc), (8012, qL (q1 p a0)), (8013, qN a1), (9000, .ref 8 1 0), (9001, qc), (9012, qL p), (9013, qN a0), (10005, .ref 20 1 0)], [qb p, (20, .box 1 [sI n7])]⟩ ?_
                          refine AW.reg hC10  true [] [1000, 1001, 2000, 2001, 2012, 2013, 3000, 3001, 3012, 3013, 4000, 4001, 4012, 4013, 5000, 5001, 5012, 5013, 6000, 6001, 6012, 6013, 7000, 7001, 7012, 7013, 8000, 8001, 8012, 8013, 9000, 9001, 9012, 9013, 10005] [8, 20]
                           ⟨[(1000, sR8 (q8 p a0 a1 a2 a3 a4 a5 a6 a7)), (1001, qc), (2000, sR8 (q7 p a0 a1 a2 a3 a4 a5 a6)), (2001, qc), (2012, qL (q7 p a0 a1 a2 a3 a4 a5 a6)), (2013, qN a7), (3000, sR8 (q6 p a0 a1 a2 a3 a4 a5)), (3001, qc), (3012, qL (q6 p a0 a1 a2 a3 a4 a5)), (3013, qN a6), (4000, sR8 (q5 p a0 a1 a2 a3 a4)), (4001, qc), (4012, qL (q5 p a0 a1 a2 a3 a4)), (4013, qN a5), (5000, sR8 (q4 p a0 a1 a2 a3)), (5001, qc), (5012, qL (q4 p a0 a1 a2 a3)), (5013, qN a4), (6000, sR8 (q3 p a0 a1 a2)), (6001, qc), (6012, qL (q3 p a0 a1 a2)), (6013, qN a3), (7000, sR8 (q2 p a0 a1)), (7001, qc), (7012, qL (q2 p a0 a1)), (7013, qN a2), (8000, sR8 (q1 p a0)), (8001, qc), (8012, qL (q1 p a0)), (8013, qN a1), (9000, .ref 8 1 0), (9001, qc), (9012, qL p), (9013, qN a0), (10005, .ref 20 1 0)], [qb p, (20, .box 1 [sI (wq (n7 + 1))])]⟩
                           [] (by kernel_rfl) ?_ ?_
                          ·
                           exact trivial
                          refine ⟨[], by kernel_rfl, ?_⟩
                          refine AWO.keep [0, 1, 1000, 1001, 1012, 1013, 2000, 2001, 2012, 2013, 3000, 3001, 3012, 3013, 4000, 4001, 4012, 4013, 5000, 5001, 5012, 5013, 6000, 6001, 6012, 6013, 7000, 7001, 7012, 7013, 8000, 8001, 8012, 8013, 9005] [8, 20] ⟨[(0, sR8 (q8 p a0 a1 a2 a3 a4 a5 a6 a7)), (1, qc), (1000, sR8 (q7 p a0 a1 a2 a3 a4 a5 a6)), (1001, qc), (1012, qL (q7 p a0 a1 a2 a3 a4 a5 a6)), (1013, qN a7), (2000, sR8 (q6 p a0 a1 a2 a3 a4 a5)), (2001, qc), (2012, qL (q6 p a0 a1 a2 a3 a4 a5)), (2013, qN a6), (3000, sR8 (q5 p a0 a1 a2 a3 a4)), (3001, qc), (3012, qL (q5 p a0 a1 a2 a3 a4)), (3013, qN a5), (4000, sR8 (q4 p a0 a1 a2 a3)), (4001, qc), (4012, qL (q4 p a0 a1 a2 a3)), (4013, qN a4), (5000, sR8 (q3 p a0 a1 a2)), (5001, qc), (5012, qL (q3 p a0 a1 a2)), (5013, qN a3), (6000, sR8 (q2 p a0 a1)), (6001, qc), (6012, qL (q2 p a0 a1)), (6013, qN a2), (7000, sR8 (q1 p a0)), (7001, qc), (7012, qL (q1 p a0)), (7013, qN a1), (8000, .ref 8 1 0), (8001, qc), (8012, qL p), (8013, qN a0), (9005, .ref 20 1 0)], [qb p, (20, .box 1 [sI (wq (n7 + 1))])]⟩ (by kernel_rfl) ?_
                          refine AWO.run hC9 false [] [] [] [0, 1, 1000, 1001, 1012, 1013, 2000, 2001, 2012, 2013, 3000, 3001, 3012, 3013, 4000, 4001, 4012, 4013, 5000, 5001, 5012, 5013, 6000, 6001, 6012, 6013, 7000, 7001, 7012, 7013, 8000, 8001, 8012, 8013, 9005] [8, 20]
                           ⟨[(0, sR8 (q8 p a0 a1 a2 a3 a4 a5 a6 a7)), (1, qc), (1000, sR8 (q7 p a0 a1 a2 a3 a4 a5 a6)), (1001, qc), (1012, qL (q7 p a0 a1 a2 a3 a4 a5 a6)), (1013, qN a7), (2000, sR8 (q6 p a0 a1 a2 a3 a4 a5)), (2001, qc), (2012, qL (q6 p a0 a1 a2 a3 a4 a5)), (2013, qN a6), (3000, sR8 (q5 p a0 a1 a2 a3 a4)), (3001, qc), (3012, qL (q5 p a0 a1 a2 a3 a4)), (3013, qN a5), (4000, sR8 (q4 p a0 a1 a2 a3)), (4001, qc), (4012, qL (q4 p a0 a1 a2 a3)), (4013, qN a4), (5000, sR8 (q3 p a0 a1 a2)), (5001, qc), (5012, qL (q3 p a0 a1 a2)), (5013, qN a3), (6000, sR8 (q2 p a0 a1)), (6001, qc), (6012, qL (q2 p a0 a1)), (6013, qN a2), (7000, sR8 (q1 p a0)), (7001, qc), (7012, qL (q1 p a0)), (7013, qN a1), (8000, .ref 8 1 0), (8001, qc), (8012, qL p), (8013, qN a0), (9005, .ref 20 1 0)], [qb p, (20, .box 1 [sI (wq (n7 + 1))])]⟩
                           [] (by rfl) (by kernel_rfl) ?_ ?_
                          ·
                           exact trivial
                          refine AWO.nil ?_
                          refine AW.seq (AW.r1 hC9 [0, 1, 12, 13, 1000, 1001, 1012, 1013, 2000, 2001, 2012, 2013, 3000, 3001, 3012, 3013, 4000, 4001, 4012, 4013, 5000, 5001, 5012, 5013, 6000, 6001, 6012, 6013, 7000, 7001, 7012, 7013, 8000, 8001, 8012, 8013, 9005] [8, 20] ⟨[(0, sR8 (q8 p a0 a1 a2 a3 a4 a5 a6 a7)), (1, qc), (12, qL (q8 p a0 a1 a2 a3 a4 a5 a6 a7)), (13, sI 0), (1000, sR8 (q7 p a0 a1 a2 a3 a4 a5 a6)), (1001, qc), (1012, qL (q7 p a0 a1 a2 a3 a4 a5 a6)), (1013, qN a7), (2000, sR8 (q6 p a0 a1 a2 a3 a4 a5)), (2001, qc), (2012, qL (q6 p a0 a1 a2 a3 a4 a5)), (2013, qN a6), (3000, sR8 (q5 p a0 a1 a2 a3 a4)), (3001, qc), (3012, qL (q5 p a0 a1 a2 a3 a4)), (3013, qN a5), (4000, sR8 (q4 p a0 a1 a2 a3)), (4001, qc), (4012, qL (q4 p a0 a1 a2 a3)), (4013, qN a4), (5000, sR8 (q3 p a0 a1 a2)), (5001, qc), (5012, qL (q3 p a0 a1 a2)), (5013, qN a3), (6000, sR8 (q2 p a0 a1)), (6001, qc), (6012, qL (q2 p a0 a1)), (6013, qN a2), (7000, sR8 (q1 p a0)), (7001, qc), (7012, qL (q1 p a0)), (7013, qN a1), (8000, .ref 8 1 0), (8001, qc), (8012, qL p), (8013, qN a0), (9005, .ref 20 1 0)], [qb p, (20, .box 1 [sI (wq (n7 + 1))])]⟩ ?_)
                          refine AW.cutQ (α := Unit) (fun x => ⟨[(1000, sR8 (q7 p a0 a1 a2 a3 a4 a5 a6)), (1001, qc), (1012, qL (q7 p a0 a1 a2 a3 a4 a5 a6)), (1013, qN a7), (2000, sR8 (q6 p a0 a1 a2 a3 a4 a5)), (2001, qc), (2012, qL (q6 p a0 a1 a2 a3 a4 a5)), (2013, qN a6), (3000, sR8 (q5 p a0 a1 a2 a3 a4)), (3001, qc), (3012, qL (q5 p a0 a1 a2 a3 a4)), (3013, qN a5), (4000, sR8 (q4 p a0 a1 a2 a3)), (4001, qc), (4012, qL (q4 p a0 a1 a2 a3)), (4013, qN a4), (5000, sR8 (q3 p a0 a1 a2)), (5001, qc), (5012, qL (q3 p a0 a1 a2)), (5013, qN a3), (6000, sR8 (q2 p a0 a1)), (6001, qc), (6012, qL (q2 p a0 a1)), (6013, qN a2), (7000, sR8 (q1 p a0)), (7001, qc), (7012, qL (q1 p a0)), (7013, qN a1), (8000, .ref 8 1 0), (8001, qc), (8012, qL p), (8013, qN a0), (9005, .ref 20 1 0)], [qb p, (20, .box 1 [sI (wq (n7 + 1))])]⟩) (fun x => (True) ∧ (iPlanSize_l8 (0 + 1)) = ()) ?_ ?_
                          ·
                           skip
                           refine AW.block (AW.loop (α := Unit) (fun x => ⟨[(0, sR8 (q8 p a0 a1 a2 a3 a4 a5 a6 a7)), (1, qc), (12, qL (q8 p a0 a1 a2 a3 a4 a5 a6 a7)), (13, sI 0), (1000, sR8 (q7 p a0 a1 a2 a3 a4 a5 a6)), (1001, qc), (1012, qL (q7 p a0 a1 a2 a3 a4 a5 a6)), (1013, qN a7), (2000, sR8 (q6 p a0 a1 a2 a3 a4 a5)), (2001, qc), (2012, qL (q6 p a0 a1 a2 a3 a4 a5)), (2013, qN a6), (3000, sR8 (q5 p a0 a1 a2 a3 a4)), (3001, qc), (3012, qL (q5 p a0 a1 a2 a3 a4)), (3013, qN a5), (4000, sR8 (q4 p a0 a1 a2 a3)), (4001, qc), (4012, qL (q4 p a0 a1 a2 a3)), (4013, qN a4), (5000, sR8 (q3 p a0 a1 a2)), (5001, qc), (5012, qL (q3 p a0 a1 a2)), (5013, qN a3), (6000, sR8 (q2 p a0 a1)), (6001, qc), (6012, qL (q2 p a0 a1)), (6013, qN a2), (7000, sR8 (q1 p a0)), (7001, qc), (7012, qL (q1 p a0)), (7013, qN a1), (8000, .ref 8 1 0), (8001, qc), (8012, qL p), (8013, qN a0), (9005, .ref 20 1 0)], [qb p, (20, .box 1 [sI (wq (n7 + 1))])]⟩) (fun x => (True) ∧ ∃ k, 0 < k ∧ (iPlanSize_l8 (0 + 1)) = iPlanSize_l8 k ) (fun x => 0) () (by kernel_rfl) ⟨?_, _, Nat.lt_succ_self _, rfl⟩ ?_)
                           ·
                            show True
                            first | exact trivial | (refine ⟨?_, ?_⟩ <;> first | omega | simp) | omega | simp
                           ·
                            intro x hR
                            obtain ⟨hI8, k11826, hk11824, e11825⟩ := hR
                            replace hI8 : True := hI8
                            replace hk11824 : 0 < k11826 := hk11824
                            obtain ⟨k11826q, rfl⟩ : ∃ k, k11826 = k + 1 := ⟨k11826 - 1, by omega⟩
                            have hK := hN.kids2
                            refine AW.seq (AW.r1 hC9 [0, 1, 12, 13, 14, 1000, 1001, 1012, 1013, 2000, 2001, 2012, 2013, 3000, 3001, 3012, 3013, 4000, 4001, 4012, 4013, 5000, 5001, 5012, 5013, 6000, 6001, 6012, 6013, 7000, 7001, 7012, 7013, 8000, 8001, 8012, 8013, 9005] [8, 20] ⟨[(0, sR8 (q8 p a0 a1 a2 a3 a4 a5 a6 a7)), (1, qc), (12, qL (q8 p a0 a1 a2 a3 a4 a5 a6 a7)), (13, sI 0), (14, sB (decide (0 < ((List.length (Pln.Kids (q8 p a0 a1 a2 a3 a4 a5 a6 a7)) : Nat) : Int)))), (1000, sR8 (q7 p a0 a1 a2 a3 a4 a5 a6)), (1001, qc), (1012, qL (q7 p a0 a1 a2 a3 a4 a5 a6)), (1013, qN a7), (2000, sR8 (q6 p a0 a1 a2 a3 a4 a5)), (2001, qc), (2012, qL (q6 p a0 a1 a2 a3 a4 a5)), (2013, qN a6), (3000, sR8 (q5 p a0 a1 a2 a3 a4)), (3001, qc), (3012, qL (q5 p a0 a1 a2 a3 a4)), (3013, qN a5), (4000, sR8 (q4 p a0 a1 a2 a3)), (4001, qc), (4012, qL (q4 p a0 a1 a2 a3)), (4013, qN a4), (5000, sR8 (q3 p a0 a1 a2)), (5001, qc), (5012, qL (q3 p a0 a1 a2)), (5013, qN a3), (6000, sR8 (q2 p a0 a1)), (6001, qc), (6012, qL (q2 p a0 a1)), (6013, qN a2), (7000, sR8 (q1 p a0)), (7001, qc), (7012, qL (q1 p a0)), (7013, qN a1), (8000, .ref 8 1 0), (8001, qc), (8012, qL p), (8013, qN a0), (9005, .ref 20 1 0)], [qb p, (20, .box 1 [sI (wq (n7 + 1))])]⟩ ?_)
                            refine AW.seq (AW.cd (decide (0 < ((List.length (Pln.Kids (q8 p a0 a1 a2 a3 a4 a5 a6 a7)) : Nat) : Int))) ?_ ?_)
                            ·
                             intro h11827
                             have h11827q : 0 < ((List.length (Pln.Kids (q8 p a0 a1 a2 a3 a4 a5 a6 a7)) : Nat) : Int) := (of_decide_eq_true h11827)
                             exfalso
                             have h3 := hN.flat
                             omega
                            ·
                             intro h11828
                             have h11828q : ¬ (0 < ((List.length (Pln.Kids (q8 p a0 a1 a2 a3 a4 a5 a6 a7)) : Nat) : Int)) := (of_decide_eq_false h11828)
                             refine AW.kp [1000, 1001, 1012, 1013, 2000, 2001, 2012, 2013, 3000, 3001, 3012, 3013, 4000, 4001, 4012, 4013, 5000, 5001, 5012, 5013, 6000, 6001, 6012, 6013, 7000, 7001, 7012, 7013, 8000, 8001, 8012, 8013, 9005] [8, 20] ⟨[(1000, sR8 (q7 p a0 a1 a2 a3 a4 a5 a6)), (1001, qc), (1012, qL (q7 p a0 a1 a2 a3 a4 a5 a6)), (1013, qN a7), (2000, sR8 (q6 p a0 a1 a2 a3 a4 a5)), (2001, qc), (2012, qL (q6 p a0 a1 a2 a3 a4 a5)), (2013, qN a6), (3000, sR8 (q5 p a0 a1 a2 a3 a4)), (3001, qc), (3012, qL (q5 p a0 a1 a2 a3 a4)), (3013, qN a5), (4000, sR8 (q4 p a0 a1 a2 a3)), (4001, qc), (4012, qL (q4 p a0 a1 a2 a3)), (4013, qN a4), (5000, sR8 (q3 p a0 a1 a2)), (5001, qc), (5012, qL (q3 p a0 a1 a2)), (5013, qN a3), (6000, sR8 (q2 p a0 a1)), (6001, qc), (6012, qL (q2 p a0 a1)), (6013, qN a2), (7000, sR8 (q1 p a0)), (7001, qc), (7012, qL (q1 p a0)), (7013, qN a1), (8000, .ref 8 1 0), (8001, qc), (8012, qL p), (8013, qN a0), (9005, .ref 20 1 0)], [qb p, (20, .box 1 [sI (wq (n7 + 1))])]⟩ ?_
                             refine AW.exit ?_
                             refine AW.meet () (by kernel_rfl) ⟨?_, e11825⟩
                             show True
                             exact hI8
                          ·
                           intro x hR
                           obtain ⟨hJ8, e11829⟩ := hR
                           replace hJ8 : True := hJ8
                           have e11830 := e11818.trans (Go.Am.then_eq e11829)
                           refine ⟨[], by kernel_rfl, ?_⟩
                           refine AWO.keep [0, 1, 12, 13, 1000, 1001, 1012, 1013, 2000, 2001, 2012, 2013, 3000, 3001, 3012, 3013, 4000, 4001, 4012, 4013, 5000, 5001, 5012, 5013, 6000, 6001, 6012, 6013, 7000, 7001, 7012, 7013, 8005] [8, 20] ⟨[(0, sR8 (q7 p a0 a1 a2 a3 a4 a5 a6)), (1, qc), (12, qL (q7 p a0 a1 a2 a3 a4 a5 a6)), (13, qN a7), (1000, sR8 (q6 p a0 a1 a2 a3 a4 a5)), (1001, qc), (1012, qL (q6 p a0 a1 a2 a3 a4 a5)), (1013, qN a6), (2000, sR8 (q5 p a0 a1 a2 a3 a4)), (2001, qc), (2012, qL (q5 p a0 a1 a2 a3 a4)), (2013, qN a5), (3000, sR8 (q4 p a0 a1 a2 a3)), (3001, qc), (3012, qL (q4 p a0 a1 a2 a3)), (3013, qN a4), (4000, sR8 (q3 p a0 a1 a2)), (4001, qc), (4012, qL (q3 p a0 a1 a2)), (4013, qN a3), (5000, sR8 (q2 p a0 a1)), (5001, qc), (5012, qL (q2 p a0 a1)), (5013, qN a2), (6000, sR8 (q1 p a0)), (6001, qc), (6012, qL (q1 p a0)), (6013, qN a1), (7000, .ref 8 1 0), (7001, qc), (7012, qL p), (7013, qN a0), (8005, .ref 20 1 0)], [qb p, (20, .box 1 [sI (wq (n7 + 1))])]⟩ (by kernel_rfl) ?_
                           refine AWO.run hC8 false [] [] [] [0, 1, 12, 13, 1000, 1001, 1012, 1013, 2000, 2001, 2012, 2013, 3000, 3001, 3012, 3013, 4000, 4001, 4012, 4013, 5000, 5001, 5012, 5013, 6000, 6001, 6012, 6013, 7000, 7001, 7012, 7013, 8005] [8, 20]
                            ⟨[(0, sR8 (q7 p a0 a1 a2 a3 a4 a5 a6)), (1, qc), (12, qL (q7 p a0 a1 a2 a3 a4 a5 a6)), (13, qN a7), (1000, sR8 (q6 p a0 a1 a2 a3 a4 a5)), (1001, qc), (1012, qL (q6 p a0 a1 a2 a3 a4 a5)), (1013, qN a6), (2000, sR8 (q5 p a0 a1 a2 a3 a4)), (2001, qc), (2012, qL (q5 p a0 a1 a2 a3 a4)), (2013, qN a5), (3000, sR8 (q4 p a0 a1 a2 a3)), (3001, qc), (3012, qL (q4 p a0 a1 a2 a3)), (3013, qN a4), (4000, sR8 (q3 p a0 a1 a2)), (4001, qc), (4012, qL (q3 p a0 a1 a2)), (4013, qN a3), (5000, sR8 (q2 p a0 a1)), (5001, qc), (5012, qL (q2 p a0 a1)), (5013, qN a2), (6000, sR8 (q1 p a0)), (6001, qc), (6012, qL (q1 p a0)), (6013, qN a1), (7000, .ref 8 1 0), (7001, qc), (7012, qL p), (7013, qN a0), (8005, .ref 20 1 0)], [qb p, (20, .box 1 [sI (wq (n7 + 1))])]⟩
                            [] (by rfl) (by kernel_rfl) ?_ ?_
                           ·
                            exact trivial
                           refine AWO.nil ?_
                           refine AW.r0 hC8 [0, 1, 12, 13, 1000, 1001, 1012, 1013, 2000, 2001, 2012, 2013, 3000, 3001, 3012, 3013, 4000, 4001, 4012, 4013, 5000, 5001, 5012, 5013, 6000, 6001, 6012, 6013, 7000, 7001, 7012, 7013, 8005] [8, 20] ⟨[(0, sR8 (q7 p a0 a1 a2 a3 a4 a5 a6)), (1, qc), (12, qL (q7 p a0 a1 a2 a3 a4 a5 a6)), (13, sI ((a7 + 1 : Nat) : Int)), (1000, sR8 (q6 p a0 a1 a2 a3 a4 a5)), (1001, qc), (1012, qL (q6 p a0 a1 a2 a3 a4 a5)), (1013, qN a6), (2000, sR8 (q5 p a0 a1 a2 a3 a4)), (2001, qc), (2012, qL (q5 p a0 a1 a2 a3 a4)), (2013, qN a5), (3000, sR8 (q4 p a0 a1 a2 a3)), (3001, qc), (3012, qL (q4 p a0 a1 a2 a3)), (3013, qN a4), (4000, sR8 (q3 p a0 a1 a2)), (4001, qc), (4012, qL (q3 p a0 a1 a2)), (4013, qN a3), (5000, sR8 (q2 p a0 a1)), (5001, qc), (5012, qL (q2 p a0 a1)), (5013, qN a2), (6000, sR8 (q1 p a0)), (6001, qc), (6012, qL (q1 p a0)), (6013, qN a1), (7000, .ref 8 1 0), (7001, qc), (7012, qL p), (7013, qN a0), (8005, .ref 20 1 0)], [qb p, (20, .box 1 [sI (wq (n7 + 1))])]⟩ [R64 ((a7 + 1 : Nat) : Int)] ?_ ?_
                           ·
                            refine ⟨?_, trivial⟩
                            ·
                             refine R64.of ?_
                             first | omega | (dsimp only; omega) | (simp only [lens] at *; omega)
                           refine AW.back (x := (a7, n7)) (a7 + 1, (wq (n7 + 1))) (by kernel_rfl) ⟨?_, k11816q, ?_, e11830⟩ ?_
                           ·
                            show True
                            first | assumption | exact trivial | (refine ⟨?_, ?_⟩ <;> first | omega | (simp only [lens] at *; omega)) | omega | (simp only [lens] at *; omega)
                           ·
                            show (List.length (Pln.Kids (q7 p a0 a1 a2 a3 a4 a5 a6))) - (a7 + 1) < k11816q
                            first | omega | (simp only [lens]; omega)
                           ·
                            show (List.length (Pln.Kids (q7 p a0 a1 a2 a3 a4 a5 a6))) - (a7 + 1) < (List.length (Pln.Kids (q7 p a0 a1 a2 a3 a4 a5 a6))) - a7
                            first | omega | (simp only [lens]; omega)
                         ·
                          intro h11831
                          have h11831q := (of_decide_eq_false h11831)
                          have e11832 := e11815.trans (Go.Am.bif_f h11831)
                          refine AW.kp [1000, 1001, 1012, 1013, 2000, 2001, 2012, 2013, 3000, 3001, 3012, 3013, 4000, 4001, 4012, 4013, 5000, 5001, 5012, 5013, 6000, 6001, 6012, 6013, 7000, 7001, 7012, 7013, 8005] [8, 20] ⟨[(1000, sR8 (q6 p a0 a1 a2 a3 a4 a5)), (1001, qc), (1012, qL (q6 p a0 a1 a2 a3 a4 a5)), (1013, qN a6), (2000, sR8 (q5 p a0 a1 a2 a3 a4)), (2001, qc), (2012, qL (q5 p a0 a1 a2 a3 a4)), (2013, qN a5), (3000, sR8 (q4 p a0 a1 a2 a3)), (3001, qc), (3012, qL (q4 p a0 a1 a2 a3)), (3013, qN a4), (4000, sR8 (q3 p a0 a1 a2)), (4001, qc), (4012, qL (q3 p a0 a1 a2)), (4013, qN a3), (5000, sR8 (q2 p a0 a1)), (5001, qc), (5012, qL (q2 p a0 a1)), (5013, qN a2), (6000, sR8 (q1 p a0)), (6001, qc), (6012, qL (q1 p a0)), (6013, qN a1), (7000, .ref 8 1 0), (7001, qc), (7012, qL p), (7013, qN a0), (8005, .ref 20 1 0)], [qb p, (20, .box 1 [sI n7])]⟩ ?_
                          refine AW.exit ?_
                          refine AW.meet n7 (by kernel_rfl) ⟨?_, e11832⟩
                          show True
                          first | assumption | exact trivial | omega
                       ·
                        intro n7 hR
                        obtain ⟨hJ7, e11833⟩ := hR
                        replace hJ7 : True := hJ7
                        have e11834 := e11808.trans (Go.Am.then_eq e11833)
                        refine ⟨[], by kernel_rfl, ?_⟩
                        refine AWO.keep [0, 1, 12, 13, 1000, 1001, 1012, 1013, 2000, 2001, 2012, 2013, 3000, 3001, 3012, 3013, 4000, 4001, 4012, 4013, 5000, 5001, 5012, 5013, 6000, 6001, 6012, 6013, 7005] [8, 20] ⟨[(0, sR8 (q6 p a0 a1 a2 a3 a4 a5)), (1, qc), (12, qL (q6 p a0 a1 a2 a3 a4 a5)), (13, qN a6), (1000, sR8 (q5 p a0 a1 a2 a3 a4)), (1001, qc), (1012, qL (q5 p a0 a1 a2 a3 a4)), (1013, qN a5), (2000, sR8 (q4 p a0 a1 a2 a3)), (2001, qc), (2012, qL (q4 p a0 a1 a2 a3)), (2013, qN a4), (3000, sR8 (q3 p a0 a1 a2)), (3001, qc), (3012, qL (q3 p a0 a1 a2)), (3013, qN a3), (4000, sR8 (q2 p a0 a1)), (4001, qc), (4012, qL (q2 p a0 a1)), (4013, qN a2), (5000, sR8 (q1 p a0)), (5001, qc), (5012, qL (q1 p a0)), (5013, qN a1), (6000, .ref 8 1 0), (6001, qc), (6012, qL p), (6013, qN a0), (7005, .ref 20 1 0)], [qb p, (20, .box 1 [sI n7])]⟩ (by kernel_rfl) ?_
                        refine AWO.run hC7 false [] [] [] [0, 1, 12, 13, 1000, 1001, 1012, 1013, 2000, 2001, 2012, 2013, 3000, 3001, 3012, 3013, 4000, 4001, 4012, 4013, 5000, 5001, 5012, 5013, 6000, 6001, 6012, 6013, 7005] [8, 20]
                         ⟨[(0, sR8 (q6 p a0 a1 a2 a3 a4 a5)), (1, qc), (12, qL (q6 p a0 a1 a2 a3 a4 a5)), (13, qN a6), (1000, sR8 (q5 p a0 a1 a2 a3 a4)), (1001, qc), (1012, qL (q5 p a0 a1 a2 a3 a4)), (1013, qN a5), (2000, sR8 (q4 p a0 a1 a2 a3)), (2001, qc), (2012, qL (q4 p a0 a1 a2 a3)), (2013, qN a4), (3000, sR8 (q3 p a0 a1 a2)), (3001, qc), (3012, qL (q3 p a0 a1 a2)), (3013, qN a3), (4000, sR8 (q2 p a0 a1)), (4001, qc), (4012, qL (q2 p a0 a1)), (4013, qN a2), (5000, sR8 (q1 p a0)), (5001, qc), (5012, qL (q1 p a0)), (5013, qN a1), (6000, .ref 8 1 0), (6001, qc), (6012, qL p), (6013, qN a0), (7005, .ref 20 1 0)], [qb p, (20, .box 1 [sI n7])]⟩
                         [] (by rfl) (by kernel_rfl) ?_ ?_
                        ·
                         exact trivial
                        refine AWO.nil ?_
                        refine AW.r0 hC7 [0, 1, 12, 13, 1000, 1001, 1012, 1013, 2000, 2001, 2012, 2013, 3000, 3001, 3012, 3013, 4000, 4001, 4012, 4013, 5000, 5001, 5012, 5013, 6000, 6001, 6012, 6013, 7005] [8, 20] ⟨[(0, sR8 (q6 p a0 a1 a2 a3 a4 a5)), (1, qc), (12, qL (q6 p a0 a1 a2 a3 a4 a5)), (13, sI ((a6 + 1 : Nat) : Int)), (1000, sR8 (q5 p a0 a1 a2 a3 a4)), (1001, qc), (1012, qL (q5 p a0 a1 a2 a3 a4)), (1013, qN a5), (2000, sR8 (q4 p a0 a1 a2 a3)), (2001, qc), (2012, qL (q4 p a0 a1 a2 a3)), (2013, qN a4), (3000, sR8 (q3 p a0 a1 a2)), (3001, qc), (3012, qL (q3 p a0 a1 a2)), (3013, qN a3), (4000, sR8 (q2 p a0 a1)), (4001, qc), (4012, qL (q2 p a0 a1)), (4013, qN a2), (5000, sR8 (q1 p a0)), (5001, qc), (5012, qL (q1 p a0)), (5013, qN a1), (6000, .ref 8 1 0), (6001, qc), (6012, qL p), (6013, qN a0), (7005, .ref 20 1 0)], [qb p, (20, .box 1 [sI n7])]⟩ [R64 ((a6 + 1 : Nat) : Int)] ?_ ?_
                        ·
                         refine ⟨?_, trivial⟩
                         ·
                          refine R64.of ?_
                          first | omega | (dsimp only; omega) | (simp only [lens] at *; omega)
                        refine AW.back (x := (a6, n6)) (a6 + 1, n7) (by kernel_rfl) ⟨?_, k11806q, ?_, e11834⟩ ?_
                        ·
                         show True
                         first | assumption | exact trivial | (refine ⟨?_, ?_⟩ <;> first | omega | (simp only [lens] at *; omega)) | omega | (simp only [lens] at *; omega)
                        ·
                         show (List.length (Pln.Kids (q6 p a0 a1 a2 a3 a4 a5))) - (a6 + 1) < k11806q
                         first | omega | (simp only [lens]; omega)
                        ·
                         show (List.length (Pln.Kids (q6 p a0 a1 a2 a3 a4 a5))) - (a6 + 1) < (List.length (Pln.Kids (q6 p a0 a1 a2 a3 a4 a5))) - a6
                         first | omega | (simp only [lens]; omega)
                      ·
                       intro h11835
                       have h11835q := (of_decide_eq_false h11835)
                       have e11836 := e11805.trans (Go.Am.bif_f h11835)
                       refine AW.kp [1000, 1001, 1012, 1013, 2000, 2001, 2012, 2013, 3000, 3001, 3012, 3013, 4000, 4001, 4012, 4013, 5000, 5001, 5012, 5013, 6000, 6001, 6012, 6013, 7005] [8, 20] ⟨[(1000, sR8 (q5 p a0 a1 a2 a3 a4)), (1001, qc), (1012, qL (q5 p a0 a1 a2 a3 a4)), (1013, qN a5), (2000, sR8 (q4 p a0 a1 a2 a3)), (2001, qc), (2012, qL (q4 p a0 a1 a2 a3)), (2013, qN a4), (3000, sR8 (q3 p a0 a1 a2)), (3001, qc), (3012, qL (q3 p a0 a1 a2)), (3013, qN a3), (4000, sR8 (q2 p a0 a1)), (4001, qc), (4012, qL (q2 p a0 a1)), (4013, qN a2), (5000, sR8 (q1 p a0)), (5001, qc), (5012, qL (q1 p a0)), (5013, qN a1), (6000, .ref 8 1 0), (6001, qc), (6012, qL p), (6013, qN a0), (7005, .ref 20 1 0)], [qb p, (20, .box 1 [sI n6])]⟩ ?_
                       refine AW.exit ?_
                       refine AW.meet n6 (by kernel_rfl) ⟨?_, e11836⟩
                       show True
                       first | assumption | exact trivial | omega
                    ·
                     intro n6 hR
                     obtain ⟨hJ6, e11837⟩ := hR
                     replace hJ6 : True := hJ6
                     have e11838 := e11798.trans (Go.Am.then_eq e11837)
                     refine ⟨[], by kernel_rfl, ?_⟩
                     refine AWO.keep [0, 1, 12, 13, 1000, 1001, 1012, 1013, 2000, 2001, 2012, 2013, 3000, 3001, 3012, 3013, 4000, 4001, 4012, 4013, 5000, 5001, 5012, 5013, 6005] [8, 20] ⟨[(0, sR8 (q5 p a0 a1 a2 a3 a4)), (1, qc), (12, qL (q5 p a0 a1 a2 a3 a4)), (13, qN a5), (1000, sR8 (q4 p a0 a1 a2 a3)), (1001, qc), (1012, qL (q4 p a0 a1 a2 a3)), (1013, qN a4), (2000, sR8 (q3 p a0 a1 a2)), (2001, qc), (2012, qL (q3 p a0 a1 a2)), (2013, qN a3), (3000, sR8 (q2 p a0 a1)), (3001, qc), (3012, qL (q2 p a0 a1)), (3013, qN a2), (4000, sR8 (q1 p a0)), (4001, qc), (4012, qL (q1 p a0)), (4013, qN a1), (5000, .ref 8 1 0), (5001, qc), (5012, qL p), (5013, qN a0), (6005, .ref 20 1 0)], [qb p, (20, .box 1 [sI n6])]⟩ (by kernel_rfl) ?_
                     refine AWO.run hC6 false [] [] [] [0, 1, 12, 13, 1000, 1001, 1012, 1013, 2000, 2001, 2012, 2013, 3000, 3001, 3012, 3013, 4000, 4001, 4012, 4013, 5000, 5001, 5012, 5013, 6005] [8, 20]
                      ⟨[(0, sR8 (q5 p a0 a1 a2 a3 a4)), (1, qc), (12, qL (q5 p a0 a1 a2 a3 a4)), (13, qN a5), (1000, sR8 (q4 p a0 a1 a2 a3)), (1001, qc), (1012, qL (q4 p a0 a1 a2 a3)), (1013, qN a4), (2000, sR8 (q3 p a0 a1 a2)), (2001, qc), (2012, qL (q3 p a0 a1 a2)), (2013, qN a3), (3000, sR8 (q2 p a0 a1)), (3001, qc), (3012, qL (q2 p a0 a1)), (3013, qN a2), (4000, sR8 (q1 p a0)), (4001, qc), (4012, qL (q1 p a0)), (4013, qN a1), (5000, .ref 8 1 0), (5001, qc), (5012, qL p), (5013, qN a0), (6005, .ref 20 1 0)], [qb p, (20, .box 1 [sI n6])]⟩
                      [] (by rfl) (by kernel_rfl) ?_ ?_
                     ·
                      exact trivial
                     refine AWO.nil ?_
                     refine AW.r0 hC6 [0, 1, 12, 13, 1000, 1001, 1012, 1013, 2000, 2001, 2012, 2013, 3000, 3001, 3012, 3013, 4000, 4001, 4012, 4013, 5000, 5001, 5012, 5013, 6005] [8, 20] ⟨[(0, sR8 (q5 p a0 a1 a2 a3 a4)), (1, qc), (12, qL (q5 p a0 a1 a2 a3 a4)), (13, sI ((a5 + 1 : Nat) : Int)), (1000, sR8 (q4 p a0 a1 a2 a3)), (1001, qc), (1012, qL (q4 p a0 a1 a2 a3)), (1013, qN a4), (2000, sR8 (q3 p a0 a1 a2)), (2001, qc), (2012, qL (q3 p a0 a1 a2)), (2013, qN a3), (3000, sR8 (q2 p a0 a1)), (3001, qc), (3012, qL (q2 p a0 a1)), (3013, qN a2), (4000, sR8 (q1 p a0)), (4001, qc), (4012, qL (q1 p a0)), (4013, qN a1), (5000, .ref 8 1 0), (5001, qc), (5012, qL p), (5013, qN a0), (6005, .ref 20 1 0)], [qb p, (20, .box 1 [sI n6])]⟩ [R64 ((a5 + 1 : Nat) : Int)] ?_ ?_
                     ·
                      refine ⟨?_, trivial⟩
                      ·
                       refine R64.of ?_
                       first | omega | (dsimp only; omega) | (simp only [lens] at *; omega)
                     refine AW.back (x := (a5, n5)) (a5 + 1, n6) (by kernel_rfl) ⟨?_, k11796q, ?_, e11838⟩ ?_
                     ·
                      show True
                      first | assumption | exact trivial | (refine ⟨?_, ?_⟩ <;> first | omega | (simp only [lens] at *; omega)) | omega | (simp only [lens] at *; omega)
                     ·
                      show (List.length (Pln.Kids (q5 p a0 a1 a2 a3 a4))) - (a5 + 1) < k11796q
                      first | omega | (simp only [lens]; omega)
                     ·
                      show (List.length (Pln.Kids (q5 p a0 a1 a2 a3 a4))) - (a5 + 1) < (List.length (Pln.Kids (q5 p a0 a1 a2 a3 a4))) - a5
                      first | omega | (simp only [lens]; omega)
                   ·
                    intro h11839
                    have h11839q := (of_decide_eq_false h11839)
                    have e11840 := e11795.trans (Go.Am.bif_f h11839)
                    refine AW.kp [1000, 1001, 1012, 1013, 2000, 2001, 2012, 2013, 3000, 3001, 3012, 3013, 4000, 4001, 4012, 4013, 5000, 5001, 5012, 5013, 6005] [8, 20] ⟨[(1000, sR8 (q4 p a0 a1 a2 a3)), (1001, qc), (1012, qL (q4 p a0 a1 a2 a3)), (1013, qN a4), (2000, sR8 (q3 p a0 a1 a2)), (2001, qc), (2012, qL (q3 p a0 a1 a2)), (2013, qN a3), (3000, sR8 (q2 p a0 a1)), (3001, qc), (3012, qL (q2 p a0 a1)), (3013, qN a2), (4000, sR8 (q1 p a0)), (4001, qc), (4012, qL (q1 p a0)), (4013, qN a1), (5000, .ref 8 1 0), (5001, qc), (5012, qL p), (5013, qN a0), (6005, .ref 20 1 0)], [qb p, (20, .box 1 [sI n5])]⟩ ?_
                    refine AW.exit ?_
                    refine AW.meet n5 (by kernel_rfl) ⟨?_, e11840⟩
                    show True
                    first | assumption | exact trivial | omega
                 ·
                  intro n5 hR
                  obtain ⟨hJ5, e11841⟩ := hR
                  replace hJ5 : True := hJ5
                  have e11842 := e11788.trans (Go.Am.then_eq e11841)
                  refine ⟨[], by kernel_rfl, ?_⟩
                  refine AWO.keep [0, 1, 12, 13, 1000, 1001, 1012, 1013, 2000, 2001, 2012, 2013, 3000, 3001, 3012, 3013, 4000, 4001, 4012, 4013, 5005] [8, 20] ⟨[(0, sR8 (q4 p a0 a1 a2 a3)), (1, qc), (12, qL (q4 p a0 a1 a2 a3)), (13, qN a4), (1000, sR8 (q3 p a0 a1 a2)), (1001, qc), (1012, qL (q3 p a0 a1 a2)), (1013, qN a3), (2000, sR8 (q2 p a0 a1)), (2001, qc), (2012, qL (q2 p a0 a1)), (2013, qN a2), (3000, sR8 (q1 p a0)), (3001, qc), (3012, qL (q1 p a0)), (3013, qN a1), (4000, .ref 8 1 0), (4001, qc), (4012, qL p), (4013, qN a0), (5005, .ref 20 1 0)], [qb p, (20, .box 1 [sI n5])]⟩ (by kernel_rfl) ?_
                  refine AWO.run hC5 false [] [] [] [0, 1, 12, 13, 1000, 1001, 1012, 1013, 2000, 2001, 2012, 2013, 3000, 3001, 3012, 3013, 4000, 4001, 4012, 4013, 5005] [8, 20]
                   ⟨[(0, sR8 (q4 p a0 a1 a2 a3)), (1, qc), (12, qL (q4 p a0 a1 a2 a3)), (13, qN a4), (1000, sR8 (q3 p a0 a1 a2)), (1001, qc), (1012, qL (q3 p a0 a1 a2)), (1013, qN a3), (2000, sR8 (q2 p a0 a1)), (2001, qc), (2012, qL (q2 p a0 a1)), (2013, qN a2), (3000, sR8 (q1 p a0)), (3001, qc), (3012, qL (q1 p a0)), (3013, qN a1), (4000, .ref 8 1 0), (4001, qc), (4012, qL p), (4013, qN a0), (5005, .ref 20 1 0)], [qb p, (20, .box 1 [sI n5])]⟩
                   [] (by rfl) (by kernel_rfl) ?_ ?_
                  ·
                   exact trivial
                  refine AWO.nil ?_
                  refine AW.r0 hC5 [0, 1, 12, 13, 1000, 1001, 1012, 1013, 2000, 2001, 2012, 2013, 3000, 3001, 3012, 3013, 4000, 4001, 4012, 4013, 5005] [8, 20] ⟨[(0, sR8 (q4 p a0 a1 a2 a3)), (1, qc), (12, qL (q4 p a0 a1 a2 a3)), (13, sI ((a4 + 1 : Nat) : Int)), (1000, sR8 (q3 p a0 a1 a2)), (1001, qc), (1012, qL (q3 p a0 a1 a2)), (1013, qN a3), (2000, sR8 (q2 p a0 a1)), (2001, qc), (2012, qL (q2 p a0 a1)), (2013, qN a2), (3000, sR8 (q1 p a0)), (3001, qc), (3012, qL (q1 p a0)), (3013, qN a1), (4000, .ref 8 1 0), (4001, qc), (4012, qL p), (4013, qN a0), (5005, .ref 20 1 0)], [qb p, (20, .box 1 [sI n5])]⟩ [R64 ((a4 + 1 : Nat) : Int)] ?_ ?_
                  ·
                   refine ⟨?_, trivial⟩
                   ·
                    refine R64.of ?_
                    first | omega | (dsimp only; omega) | (simp only [lens] at *; omega)
                  refine AW.back (x := (a4, n4)) (a4 + 1, n5) (by kernel_rfl) ⟨?_, k11786q, ?_, e11842⟩ ?_
                  ·
                   show True
                   first | assumption | exact trivial | (refine ⟨?_, ?_⟩ <;> first | omega | (simp only [lens] at *; omega)) | omega | (simp only [lens] at *; omega)
                  ·
                   show (List.length (Pln.Kids (q4 p a0 a1 a2 a3))) - (a4 + 1) < k11786q
                   first | omega | (simp only [lens]; omega)
                  ·
                   show (List.length (Pln.Kids (q4 p a0 a1 a2 a3))) - (a4 + 1) < (List.length (Pln.Kids (q4 p a0 a1 a2 a3))) - a4
                   first | omega | (simp only [lens]; omega)
                ·
                 intro h11843
                 have h11843q := (of_decide_eq_false h11843)
                 have e11844 := e11785.trans (Go.Am.bif_f h11843)
                 refine AW.kp [1000, 1001, 1012, 1013, 2000, 2001, 2012, 2013, 3000, 3001, 3012, 3013, 4000, 4001, 4012, 4013, 5005] [8, 20] ⟨[(1000, sR8 (q3 p a0 a1 a2)), (1001, qc), (1012, qL (q3 p a0 a1 a2)), (1013, qN a3), (2000, sR8 (q2 p a0 a1)), (2001, qc), (2012, qL (q2 p a0 a1)), (2013, qN a2), (3000, sR8 (q1 p a0)), (3001, qc), (3012, qL (q1 p a0)), (3013, qN a1), (4000, .ref 8 1 0), (4001, qc), (4012, qL p), (4013, qN a0), (5005, .ref 20 1 0)], [qb p, (20, .box 1 [sI n4])]⟩ ?_
                 refine AW.exit ?_
                 refine AW.meet n4 (by kernel_rfl) ⟨?_, e11844⟩
                 show True
                 first | assumption | exact trivial | omega
              ·
               intro n4 hR
               obtain ⟨hJ4, e11845⟩ := hR
               replace hJ4 : True := hJ4
               have e11846 := e11778.trans (Go.Am.then_eq e11845)
               refine ⟨[], by kernel_rfl, ?_⟩
               refine AWO.keep [0, 1, 12, 13, 1000, 1001, 1012, 1013, 2000, 2001, 2012, 2013, 3000, 3001, 3012, 3013, 4005] [8, 20] ⟨[(0, sR8 (q3 p a0 a1 a2)), (1, qc), (12, qL (q3 p a0 a1 a2)), (13, qN a3), (1000, sR8 (q2 p a0 a1)), (1001, qc), (1012, qL (q2 p a0 a1)), (1013, qN a2), (2000, sR8 (q1 p a0)), (2001, qc), (2012, qL (q1 p a0)), (2013, qN a1), (3000, .ref 8 1 0), (3001, qc), (3012, qL p), (3013, qN a0), (4005, .ref 20 1 0)], [qb p, (20, .box 1 [sI n4])]⟩ (by kernel_rfl) ?_
               refine AWO.run hC4 false [] [] [] [0, 1, 12, 13, 1000, 1001, 1012, 1013, 2000, 2001, 2012, 2013, 3000, 3001, 3012, 3013, 4005] [8, 20]
                ⟨[(0, sR8 (q3 p a0 a1 a2)), (1, qc), (12, qL (q3 p a0 a1 a2)), (13, qN a3), (1000, sR8 (q2 p a0 a1)), (1001, qc), (1012, qL (q2 p a0 a1)), (1013, qN a2), (2000, sR8 (q1 p a0)), (2001, qc), (2012, qL (q1 p a0)), (2013, qN a1), (3000, .ref 8 1 0), (3001, qc), (3012, qL p), (3013, qN a0), (4005, .ref 20 1 0)], [qb p, (20, .box 1 [sI n4])]⟩
                [] (by rfl) (by kernel_rfl) ?_ ?_
               ·
                exact trivial
               refine AWO.nil ?_
               refine AW.r0 hC4 [0, 1, 12, 13, 1000, 1001, 1012, 1013, 2000, 2001, 2012, 2013, 3000, 3001, 3012, 3013, 4005] [8, 20] ⟨[(0, sR8 (q3 p a0 a1 a2)), (1, qc), (12, qL (q3 p a0 a1 a2)), (13, sI ((a3 + 1 : Nat) : Int)), (1000, sR8 (q2 p a0 a1)), (1001, qc), (1012, qL (q2 p a0 a1)), (1013, qN a2), (2000, sR8 (q1 p a0)), (2001, qc), (2012, qL (q1 p a0)), (2013, qN a1), (3000, .ref 8 1 0), (3001, qc), (3012, qL p), (3013, qN a0), (4005, .ref 20 1 0)], [qb p, (20, .box 1 [sI n4])]⟩ [R64 ((a3 + 1 : Nat) : Int)] ?_ ?_
               ·
                refine ⟨?_, trivial⟩
                ·
                 refine R64.of ?_
                 first | omega | (dsimp only; omega) | (simp only [lens] at *; omega)
               refine AW.back (x := (a3, n3)) (a3 + 1, n4) (by kernel_rfl) ⟨?_, k11776q, ?_, e11846⟩ ?_
               ·
                show True
                first | assumption | exact trivial | (refine ⟨?_, ?_⟩ <;> first | omega | (simp only [lens] at *; omega)) | omega | (simp only [lens] at *; omega)
               ·
                show (List.length (Pln.Kids (q3 p a0 a1 a2))) - (a3 + 1) < k11776q
                first | omega | (simp only [lens]; omega)
               ·
                show (List.length (Pln.Kids (q3 p a0 a1 a2))) - (a3 + 1) < (List.length (Pln.Kids (q3 p a0 a1 a2))) - a3
                first | omega | (simp only [lens]; omega)
             ·
              intro h11847
              have h11847q := (of_decide_eq_false h11847)
              have e11848 := e11775.trans (Go.Am.bif_f h11847)
              refine AW.kp [1000, 1001, 1012, 1013, 2000, 2001, 2012, 2013, 3000, 3001, 3012, 3013, 4005] [8, 20] ⟨[(1000, sR8 (q2 p a0 a1)), (1001, qc), (1012, qL (q2 p a0 a1)), (1013, qN a2), (2000, sR8 (q1 p a0)), (2001, qc), (2012, qL (q1 p a0)), (2013, qN a1), (3000, .ref 8 1 0), (3001, qc), (3012, qL p), (3013, qN a0), (4005, .ref 20 1 0)], [qb p, (20, .box 1 [sI n3])]⟩ ?_
              refine AW.exit ?_
              refine AW.meet n3 (by kernel_rfl) ⟨?_, e11848⟩
              show True
              first | assumption | exact trivial | omega
           ·
            intro n3 hR
            obtain ⟨hJ3, e11849⟩ := hR
            replace hJ3 : True := hJ3
            have e11850 := e11768.trans (Go.Am.then_eq e11849)
            refine ⟨[], by kernel_rfl, ?_⟩
            refine AWO.keep [0, 1, 12, 13, 1000, 1001, 1012, 1013, 2000, 2001, 2012, 2013, 3005] [8, 20] ⟨[(0, sR8 (q2 p a0 a1)), (1, qc), (12, qL (q2 p a0 a1)), (13, qN a2), (1000, sR8 (q1 p a0)), (1001, qc), (1012, qL (q1 p a0)), (1013, qN a1), (2000, .ref 8 1 0), (2001, qc), (2012, qL p), (2013, qN a0), (3005, .ref 20 1 0)], [qb p, (20, .box 1 [sI n3])]⟩ (by kernel_rfl) ?_
            refine AWO.run hC3 false [] [] [] [0, 1, 12, 13, 1000, 1001, 1012, 1013, 2000, 2001, 2012, 2013, 3005] [8, 20]
             ⟨[(0, sR8 (q2 p a0 a1)), (1, qc), (12, qL (q2 p a0 a1)), (13, qN a2), (1000, sR8 (q1 p a0)), (1001, qc), (1012, qL (q1 p a0)), (1013, qN a1), (2000, .ref 8 1 0), (2001, qc), (2012, qL p), (2013, qN a0), (3005, .ref 20 1 0)], [qb p, (20, .box 1 [sI n3])]⟩
             [] (by rfl) (by kernel_rfl) ?_ ?_
            ·
             exact trivial
            refine AWO.nil ?_
            refine AW.r0 hC3 [0, 1, 12, 13, 1000, 1001, 1012, 1013, 2000, 2001, 2012, 2013, 3005] [8, 20] ⟨[(0, sR8 (q2 p a0 a1)), (1, qc), (12, qL (q2 p a0 a1)), (13, sI ((a2 + 1 : Nat) : Int)), (1000, sR8 (q1 p a0)), (1001, qc), (1012, qL (q1 p a0)), (1013, qN a1), (2000, .ref 8 1 0), (2001, qc), (2012, qL p), (2013, qN a0), (3005, .ref 20 1 0)], [qb p, (20, .box 1 [sI n3])]⟩ [R64 ((a2 + 1 : Nat) : Int)] ?_ ?_
            ·
             refine ⟨?_, trivial⟩
             ·
              refine R64.of ?_
              first | omega | (dsimp only; omega) | (simp only [lens] at *; omega)
            refine AW.back (x := (a2, n2)) (a2 + 1, n3) (by kernel_rfl) ⟨?_, k11766q, ?_, e11850⟩ ?_
            ·
             show True
             first | assumption | exact trivial | (refine ⟨?_, ?_⟩ <;> first | omega | (simp only [lens] at *; omega)) | omega | (simp only [lens] at *; omega)
            ·
             show (List.length (Pln.Kids (q2 p a0 a1))) - (a2 + 1) < k11766q
             first | omega | (simp only [lens]; omega)
            ·
             show (List.length (Pln.Kids (q2 p a0 a1))) - (a2 + 1) < (List.length (Pln.Kids (q2 p a0 a1))) - a2
             first | omega | (simp only [lens]; omega)
          ·
           intro h11851
           have h11851q := (of_decide_eq_false h11851)
           have e11852 := e11765.trans (Go.Am.bif_f h11851)
           refine AW.kp [1000, 1001, 1012, 1013, 2000, 2001, 2012, 2013, 3005] [8, 20] ⟨[(1000, sR8 (q1 p a0)), (1001, qc), (1012, qL (q1 p a0)), (1013, qN a1), (2000, .ref 8 1 0), (2001, qc), (2012, qL p), (2013, qN a0), (3005, .ref 20 1 0)], [qb p, (20, .box 1 [sI n2])]⟩ ?_
           refine AW.exit ?_
           refine AW.meet n2 (by kernel_rfl) ⟨?_, e11852⟩
           show True
           first | assumption | exact trivial | omega
        ·
         intro n2 hR
         obtain ⟨hJ2, e11853⟩ := hR
         replace hJ2 : True := hJ2
         have e11854 := e11758.trans (Go.Am.then_eq e11853)
         refine ⟨[], by kernel_rfl, ?_⟩
         refine AWO.keep [0, 1, 12, 13, 1000, 1001, 1012, 1013, 2005] [8, 20] ⟨[(0, sR8 (q1 p a0)), (1, qc), (12, qL (q1 p a0)), (13, qN a1), (1000, .ref 8 1 0), (1001, qc), (1012, qL p), (1013, qN a0), (2005, .ref 20 1 0)], [qb p, (20, .box 1 [sI n2])]⟩ (by kernel_rfl) ?_
         refine AWO.run hC2 false [] [] [] [0, 1, 12, 13, 1000, 1001, 1012, 1013, 2005] [8, 20]
          ⟨[(0, sR8 (q1 p a0)), (1, qc), (12, qL (q1 p a0)), (13, qN a1), (1000, .ref 8 1 0), (1001, qc), (1012, qL p), (1013, qN a0), (2005, .ref 20 1 0)], [qb p, (20, .box 1 [sI n2])]⟩
          [] (by rfl) (by kernel_rfl) ?_ ?_
         ·
          exact trivial
         refine AWO.nil ?_
         refine AW.r0 hC2 [0, 1, 12, 13, 1000, 1001, 1012, 1013, 2005] [8, 20] ⟨[(0, sR8 (q1 p a0)), (1, qc), (12, qL (q1 p a0)), (13, sI ((a1 + 1 : Nat) : Int)), (1000, .ref 8 1 0), (1001, qc), (1012, qL p), (1013, qN a0), (2005, .ref 20 1 0)], [qb p, (20, .box 1 [sI n2])]⟩ [R64 ((a1 + 1 : Nat) : Int)] ?_ ?_
         ·
          refine ⟨?_, trivial⟩
          ·
           refine R64.of ?_
           first | omega | (dsimp only; omega) | (simp only [lens] at *; omega)
         refine AW.back (x := (a1, n1)) (a1 + 1, n2) (by kernel_rfl) ⟨?_, k11756q, ?_, e11854⟩ ?_
         ·
          show True
          first | assumption | exact trivial | (refine ⟨?_, ?_⟩ <;> first | omega | (simp only [lens] at *; omega)) | omega | (simp only [lens] at *; omega)
         ·
          show (List.length (Pln.Kids (q1 p a0))) - (a1 + 1) < k11756q
          first | omega | (simp only [lens]; omega)
         ·
          show (List.length (Pln.Kids (q1 p a0))) - (a1 + 1) < (List.length (Pln.Kids (q1 p a0))) - a1
          first | omega | (simp only [lens]; omega)
       ·
        intro h11855
        have h11855q := (of_decide_eq_false h11855)
        have e11856 := e11755.trans (Go.Am.bif_f h11855)
        refine AW.kp [1000, 1001, 1012, 1013, 2005] [8, 20] ⟨[(1000, .ref 8 1 0), (1001, qc), (1012, qL p), (1013, qN a0), (2005, .ref 20 1 0)], [qb p, (20, .box 1 [sI n1])]⟩ ?_
        refine AW.exit ?_
        refine AW.meet n1 (by kernel_rfl) ⟨?_, e11856⟩
        show True
        first | assumption | exact trivial | omega
     ·
      intro n1 hR
      obtain ⟨hJ1, e11857⟩ := hR
      replace hJ1 : True := hJ1
      have e11858 := e11748.trans (Go.Am.then_eq e11857)
      refine ⟨[], by kernel_rfl, ?_⟩
      refine AWO.keep [0, 1, 12, 13, 1005] [8, 20] ⟨[(0, .ref 8 1 0), (1, qc), (12, qL p), (13, qN a0), (1005, .ref 20 1 0)], [qb p, (20, .box 1 [sI n1])]⟩ (by kernel_rfl) ?_
      refine AWO.run hC1 false [] [] [] [0, 1, 12, 13, 1005] [8, 20]
       ⟨[(0, .ref 8 1 0), (1, qc), (12, qL p), (13, qN a0), (1005, .ref 20 1 0)], [qb p, (20, .box 1 [sI n1])]⟩
       [] (by rfl) (by kernel_rfl) ?_ ?_
      ·
       exact trivial
      refine AWO.nil ?_
      refine AW.r0 hC1 [0, 1, 12, 13, 1005] [8, 20] ⟨[(0, .ref 8 1 0), (1, qc), (12, qL p), (13, sI ((a0 + 1 : Nat) : Int)), (1005, .ref 20 1 0)], [qb p, (20, .box 1 [sI n1])]⟩ [R64 ((a0 + 1 : Nat) : Int)] ?_ ?_
      ·
       refine ⟨?_, trivial⟩
       ·
        refine R64.of ?_
        first | omega | (dsimp only; omega) | (simp only [lens] at *; omega)
      refine AW.back (x := (a0, n)) (a0 + 1, n1) (by kernel_rfl) ⟨?_, k11746q, ?_, e11858⟩ ?_
      ·
       show True
       first | assumption | exact trivial | (refine ⟨?_, ?_⟩ <;> first | omega | (simp only [lens] at *; omega)) | omega | (simp only [lens] at *; omega)
      ·
       show (List.length (Pln.Kids p)) - (a0 + 1) < k11746q
       first | omega | (simp only [lens]; omega)
      ·
       show (List.length (Pln.Kids p)) - (a0 + 1) < (List.length (Pln.Kids p)) - a0
       first | omega | (simp only [lens]; omega)
    ·
     intro h11859
     have h11859q := (of_decide_eq_false h11859)
     have e11860 := e11745.trans (Go.Am.bif_f h11859)
     refine AW.kp [1005] [20] ⟨[(1005, .ref 20 1 0)], [(20, .box 1 [sI n])]⟩ ?_
     refine AW.exit ?_
     refine AW.meet n (by kernel_rfl) ⟨?_, e11860⟩
     show True
     first | assumption | exact trivial | omega
  ·
   intro n hR
   obtain ⟨hJ0, e11861⟩ := hR
   replace hJ0 : True := hJ0
   have e11862 := e4.trans (Go.Am.then_eq e11861)
   refine ⟨[], by kernel_rfl, ?_⟩
   refine AWO.keep [5] [20] ⟨[(5, .ref 20 1 0)], [(20, .box 1 [sI n])]⟩ (by kernel_rfl) ?_
   refine AWO.run hC false [] [] [] [5] [20]
    ⟨[(5, .ref 20 1 0)], [(20, .box 1 [sI n])]⟩
    [] (by rfl) (by kernel_rfl) ?_ ?_
   ·
    exact trivial
   refine AWO.nil ?_
   refine AW.seq (AW.r1 hC [4] [] ⟨[(4, sI n)], []⟩ ?_)
   exact AW.ret (AW.rI n e11862)

end
end Go.Proofs.Ytbcgmoaipneoeaa
