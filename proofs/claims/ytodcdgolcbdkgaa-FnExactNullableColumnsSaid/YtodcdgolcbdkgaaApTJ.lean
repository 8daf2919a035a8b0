/-
  A part of the proof of this claim (ApTJ): what functions of the program compute, and plain facts of that. No conditions.
-/
import Derived.Test.YtodcdgolcbdkgaaApTI
set_option linter.all false
namespace Go.Proofs.Ytodcdgolcbdkgaa
open Go Go.Am
open Go.Am.AW (seq r1U ret kpU cdE r0U r1 meet block rB rS bk exit lpB r0 kp d0U)
open List (length getD)
noncomputable section

def validFlags_l0 (ws : List Int) (fl : List (List Bool)) : Nat → Nat → Unit ⊕ Bool
 | 0, i => .inl ()
 | k + 1, i => (bif (decide ((i : Int) < (length ws : Int))) then (bif ((length (getD fl i []) : Int) != (getD ws i 0)) then (.inr false) else (validFlags_l0 ws fl k (i + 1))) else (.inl ()))

def validFlags (ws : List Int) (fl : List (List Bool)) : Bool := (bif ((length fl : Int) != (length ws : Int)) then false else (Sum.elim (fun _ => true) (fun r => r) (validFlags_l0 ws fl ((length ws) - 0 + 1) 0)))

def validFlags_sp : FnSpec := mkSpec [.val (.slice (.int .i64)), .val (.slice (.slice .bool))] [.val .bool] (fun (ws : List Int) (fl : List (List Bool)) => True) (fun (ws : List Int) (fl : List (List Bool)) => [⟨.bool, (validFlags ws fl)⟩])

theorem validFlags_ok : FnOK Try.prog 78 validFlags_sp := by
 have hC : CtxOK Try.prog (mkCtx tyL []) := CtxOK.nil tyOK; have hM : Try.prog.follows .mixedOrders = true := Try.checked.mixed; refine FnOK.of_body Try.func78 (by kernel_rfl) rfl (C := (mkCtx tyL [])) hC.ty (by kernel_rfl) ?_; intro (ws : List Int) (fl : List (List Bool)) hwf hpre E; have hpre : True := hpre; have hw_ws : Wf ⟨(.slice (.int .i64)), (ws : List Int)⟩ := hwf _ (List.Mem.head _); have hl_ws : (length ws : Int) ≤ 9223372036854775807 := hw_ws.len; have hw_fl : Wf ⟨(.slice (.slice .bool)), (fl : List (List Bool))⟩ := hwf _ (List.Mem.tail _ (List.Mem.head _)); have hl_fl : (length fl : Int) ≤ 9223372036854775807 := hw_fl.len; have e0 : validFlags ws fl = validFlags ws fl := rfl; refine seq (r1U hC [0, 1] [] [] [] ?_); refine seq (seq (r1U hC [0, 1, 10] [] [(10, sB ((length fl : Int) != (length ws : Int)))] [] ?_)); refine cdE e0 ?_ ?_
 · intro h1q e2; refine seq (r1 hC [4] [] ⟨[(4, sB false)], []⟩ ?_); exact ret (rB _ e2)
 ·
  intro h3q e4; refine kpU [0, 1] [] [] [] ?_; refine AW.skip (seq (seq (r1U hC [0, 1, 5] [] [(5, sI 0)] [] ?_))); refine lpB (ζ := Unit) (fun x => ⟨[], []⟩) (fun x => True) (fun x => (.inl ())) (α := Nat) (fun x => ⟨[(0, sD7 ws), (1, sD12 fl), (5, sI (x : Int))], []⟩) (fun x => True) (fun x => (length ws) - x) (fun k x => validFlags_l0 ws fl k x) 0 (by kernel_rfl) ?_ ?_ ?_
  · exact trivial
  ·
   intro i k34q hI0 hk32 e33; refine seq (seq (r1U hC [0, 1, 5, 14] [] [(14, sB (decide ((i : Int) < (length ws : Int))))] [] ?_)); refine cdE e33 ?_ ?_
   ·
    intro h35q e36; refine kpU [0, 1, 5] [] [] [] ?_; refine AW.skip (seq (block (seq (d0U hC hM [0, 1, 5, 26] [] [(26, sB ((length (getD fl i []) : Int) != (getD ws i 0)))] [] [IX (i : Int) (length fl : Int), IX (i : Int) (length ws : Int)] ?_ ?_))))
    ·
     exact ⟨IX.of (by omega), IX.of (by omega), trivial⟩
    refine cdE e36 ?_ ?_
    · intro h37q e38; refine seq (r1 hC [4] [] ⟨[(4, sB false)], []⟩ ?_); refine ret ?_; have e39 := e4.trans (elim_r e38); exact rB _ e39
    ·
     intro h40q e41; refine kpU [0, 1, 5] [] [] [] ?_; refine AW.skip (r0U hC [0, 1, 5] [] [(5, sI ((i + 1 : Nat) : Int))] [] [R64 ((i + 1 : Nat) : Int)] ?_ ?_)
     ·
      exact ⟨R64.of (by omega), trivial⟩
     refine bk (i + 1) e41 hk32 ?_ ?_
     · assumption
     · omega
   · intro h42q e43; refine kp [] [] ⟨[], []⟩ ?_; refine exit ?_; refine meet () (by kernel_rfl) ⟨?_, e43⟩; assumption
  · intro x hJ0 e44; have e45 := e4.trans (elim_l e44); refine seq (r1 hC [4] [] ⟨[(4, sB true)], []⟩ ?_); exact ret (rB _ e45)

theorem validFlags_iff {ws : List Int} {fl : List (List Bool)} : validFlags ws fl = true ↔ FL ws fl := by
 unfold validFlags FL; by_cases hl : fl.length = ws.length
 ·
  rw [show ((length fl : Int) != (length ws : Int)) = false by simp; omega, cond_false]; rcases all_loop (validFlags_l0 ws fl) ws.length (fun i => (length (getD fl i []) : Int) != getD ws i 0) (fun k i => rfl) (ws.length - 0 + 1) 0 (by omega) with ⟨h1, h2⟩ | ⟨h1, j, h2, h3, h4⟩
  · rw [h1]; exact ⟨fun _ => ⟨hl, fun i hi => bne_eq_false_iff_eq.1 (h2 i (Nat.zero_le _) hi)⟩, fun _ => rfl⟩
  · rw [h1]; exact ⟨fun h => absurd h Bool.false_ne_true, fun h => absurd (h.2 j h3) (bne_iff_ne.1 h4)⟩
 · rw [show ((length fl : Int) != (length ws : Int)) = true by simp; omega, cond_true]; exact ⟨fun h => absurd h Bool.false_ne_true, fun h => absurd h.1 hl⟩

def NullableColumns (p : Pln) (ws : List Int) (fl : List (List Bool)) : (List Bool) := (bif (bif ((widthOf (Pln.mk (Pln.Kind p) (Pln.Table p) (Pln.Exprs p) (Pln.Cols p) (Pln.Kids p)) ws) == 0) then true else (!(validFlags ws fl))) then ([] : List Bool) else (nul (Pln.mk (Pln.Kind p) (Pln.Table p) (Pln.Exprs p) (Pln.Cols p) (Pln.Kids p)) fl))

def NullableColumns_sp : FnSpec := mkSpec [.val (.named 2), .val (.slice (.int .i64)), .val (.slice (.slice .bool))] [.own .bool] (fun (p : Pln) (ws : List Int) (fl : List (List Bool)) => True) (fun (p : Pln) (ws : List Int) (fl : List (List Bool)) => [⟨(.slice .bool), (NullableColumns p ws fl)⟩])

theorem NullableColumns_ok : FnOK Try.prog 29 NullableColumns_sp := by
 have hC : CtxOK Try.prog (mkCtx tyL [(77, widthOf_sp), (78, validFlags_sp), (79, nul_sp)]) := CtxOK.cons widthOf_ok (CtxOK.cons validFlags_ok (CtxOK.cons nul_ok (CtxOK.nil tyOK))); refine FnOK.of_body Try.func29 (by kernel_rfl) rfl (C := (mkCtx tyL [(77, widthOf_sp), (78, validFlags_sp), (79, nul_sp)])) hC.ty (by kernel_rfl) ?_; intro (p : Pln) (ws : List Int) (fl : List (List Bool)) hwf hpre E; have e0 : NullableColumns p ws fl = NullableColumns p ws fl := rfl; refine seq (r1U hC [1, 2, 3] [12] [(3, .ref 12 1 0)] [(12, .box 1 [sI (Pln.Kind p), sI (Pln.Table p), sD9 (Pln.Exprs p), sD7 (Pln.Cols p), sD10 (Pln.Kids p)])] ?_); refine seq (seq (r0U hC [2, 3, 16] [12] [(16, sB (bif ((widthOf (Pln.mk (Pln.Kind p) (Pln.Table p) (Pln.Exprs p) (Pln.Cols p) (Pln.Kids p)) ws) == 0) then true else (!(validFlags ws fl))))] [] [(True), ((((widthOf (Pln.mk (Pln.Kind p) (Pln.Table p) (Pln.Exprs p) (Pln.Cols p) (Pln.Kids p)) ws) == 0) = false) → ((((widthOf (Pln.mk (Pln.Kind p) (Pln.Table p) (Pln.Exprs p) (Pln.Cols p) (Pln.Kids p)) ws) == 0) = false))), ((((widthOf (Pln.mk (Pln.Kind p) (Pln.Table p) (Pln.Exprs p) (Pln.Cols p) (Pln.Kids p)) ws) == 0) = false) → ((((widthOf (Pln.mk (Pln.Kind p) (Pln.Table p) (Pln.Exprs p) (Pln.Cols p) (Pln.Kids p)) ws) == 0) = false))), ((((widthOf (Pln.mk (Pln.Kind p) (Pln.Table p) (Pln.Exprs p) (Pln.Cols p) (Pln.Kids p)) ws) == 0) = false) → (True)), ((((widthOf (Pln.mk (Pln.Kind p) (Pln.Table p) (Pln.Exprs p) (Pln.Cols p) (Pln.Kids p)) ws) == 0) = false) → ((((widthOf (Pln.mk (Pln.Kind p) (Pln.Table p) (Pln.Exprs p) (Pln.Cols p) (Pln.Kids p)) ws) == 0) = false))), ((((widthOf (Pln.mk (Pln.Kind p) (Pln.Table p) (Pln.Exprs p) (Pln.Cols p) (Pln.Kids p)) ws) == 0) = false) → ((((widthOf (Pln.mk (Pln.Kind p) (Pln.Table p) (Pln.Exprs p) (Pln.Cols p) (Pln.Kids p)) ws) == 0) = false)))] ?_ ?_))
 ·
  exact ⟨trivial, (by intro g1; assumption), (by intro g2; assumption), (by intro g3; trivial), (by intro g4; assumption), (by intro g5; assumption), trivial⟩
 refine cdE e0 ?_ ?_
 · intro h6q e7; refine seq (r1 hC [6] [] ⟨[(6, .nilsl)], []⟩ ?_); exact ret (rS (.slice .bool) e7)
 ·
  intro h8q e9; refine kpU [2, 3] [12] [] [] ?_; refine AW.skip (seq (r0 hC [6] [76] ⟨[(6, .arr 76 1)], [(76, .arr 1 .bool ((nul (Pln.mk (Pln.Kind p) (Pln.Table p) (Pln.Exprs p) (Pln.Cols p) (Pln.Kids p)) fl) : List Bool))]⟩ [(∃ ws, NPl ws fl (Pln.mk (Pln.Kind p) (Pln.Table p) (Pln.Exprs p) (Pln.Cols p) (Pln.Kids p)))] ?_ ?_))
  ·
   exact ⟨(by exact ⟨ws, PVw.mk' (by have := h8q.1; omega), validFlags_iff.1 h8q.2⟩), trivial⟩
  exact ret (rS (.slice .bool) e9)

def iNullableColumns_l0 (ws : List Int) (fl : List (List Bool)) : Nat → Nat → Unit ⊕ (List Bool)
 | 0, v22 => .inl ()
 | k + 1, v22 => (bif (decide ((v22 : Int) < (length fl : Int))) then (bif ((length (getD fl v22 []) : Int) != (getD ws v22 0)) then (.inr ([] : List Bool)) else (iNullableColumns_l0 ws fl k (v22 + 1))) else (.inl ()))

def iNullableColumns (p : Pln) (ws : List Int) (fl : List (List Bool)) : (List Bool) := (bif (bif ((iPlanWidth (Pln.mk (Pln.Kind p) (Pln.Table p) (Pln.Exprs p) (Pln.Cols p) (Pln.Kids p)) ws) == 0) then true else ((length fl : Int) != (length ws : Int))) then ([] : List Bool) else (Sum.elim (fun _ => (inul (Pln.mk (Pln.Kind p) (Pln.Table p) (Pln.Exprs p) (Pln.Cols p) (Pln.Kids p)) fl)) (fun r => r) (iNullableColumns_l0 ws fl ((length fl) - 0 + 1) 0)))

def iNullableColumns_sp : FnSpec := mkSpec [.val (.named 2), .val (.slice (.int .i64)), .val (.slice (.slice .bool))] [.own .bool] (fun (p : Pln) (ws : List Int) (fl : List (List Bool)) => True) (fun (p : Pln) (ws : List Int) (fl : List (List Bool)) => [⟨(.slice .bool), (iNullableColumns p ws fl)⟩])

theorem iNullableColumns_ok : FnOK Try.prog 32 iNullableColumns_sp := by
 have hC : CtxOK Try.prog (mkCtx tyL [(54, iPlanWidth_sp), (80, inul_sp)]) := CtxOK.cons iPlanWidth_ok (CtxOK.cons inul_ok (CtxOK.nil tyOK)); refine FnOK.of_body Try.func32 (by kernel_rfl) rfl (C := (mkCtx tyL [(54, iPlanWidth_sp), (80, inul_sp)])) hC.ty (by kernel_rfl) ?_; intro (p : Pln) (ws : List Int) (fl : List (List Bool)) hwf hpre E; have hw_p : Wf ⟨(.named 2), (p : Pln)⟩ := hwf _ (List.Mem.head _); obtain ⟨hr_p_Kind, hr_p_Table, hl_p_Exprs, hl_p_Cols, hl_p_Kids⟩ := Pln.wfl hw_p; have hw_ws : Wf ⟨(.slice (.int .i64)), (ws : List Int)⟩ := hwf _ (List.Mem.tail _ (List.Mem.head _)); have hl_ws : (length ws : Int) ≤ 9223372036854775807 := hw_ws.len; have hw_fl : Wf ⟨(.slice (.slice .bool)), (fl : List (List Bool))⟩ := hwf _ (List.Mem.tail _ (List.Mem.tail _ (List.Mem.head _))); have hl_fl : (length fl : Int) ≤ 9223372036854775807 := hw_fl.len; have e0 : iNullableColumns p ws fl = iNullableColumns p ws fl := rfl; refine seq (r1U hC [1, 2, 3] [12] [(3, .ref 12 1 0)] [(12, .box 1 [sI (Pln.Kind p), sI (Pln.Table p), sD9 (Pln.Exprs p), sD7 (Pln.Cols p), sD10 (Pln.Kids p)])] ?_); refine seq (seq (r0U hC [1, 2, 3, 19] [12] [(19, sB (bif ((iPlanWidth (Pln.mk (Pln.Kind p) (Pln.Table p) (Pln.Exprs p) (Pln.Cols p) (Pln.Kids p)) ws) == 0) then true else ((length fl : Int) != (length ws : Int))))] [] [(True), ((((iPlanWidth (Pln.mk (Pln.Kind p) (Pln.Table p) (Pln.Exprs p) (Pln.Cols p) (Pln.Kids p)) ws) == 0) = false) → ((((iPlanWidth (Pln.mk (Pln.Kind p) (Pln.Table p) (Pln.Exprs p) (Pln.Cols p) (Pln.Kids p)) ws) == 0) = false))), ((((iPlanWidth (Pln.mk (Pln.Kind p) (Pln.Table p) (Pln.Exprs p) (Pln.Cols p) (Pln.Kids p)) ws) == 0) = false) → ((((iPlanWidth (Pln.mk (Pln.Kind p) (Pln.Table p) (Pln.Exprs p) (Pln.Cols p) (Pln.Kids p)) ws) == 0) = false))), ((((iPlanWidth (Pln.mk (Pln.Kind p) (Pln.Table p) (Pln.Exprs p) (Pln.Cols p) (Pln.Kids p)) ws) == 0) = false) → ((((iPlanWidth (Pln.mk (Pln.Kind p) (Pln.Table p) (Pln.Exprs p) (Pln.Cols p) (Pln.Kids p)) ws) == 0) = false))), ((((iPlanWidth (Pln.mk (Pln.Kind p) (Pln.Table p) (Pln.Exprs p) (Pln.Cols p) (Pln.Kids p)) ws) == 0) = false) → ((((iPlanWidth (Pln.mk (Pln.Kind p) (Pln.Table p) (Pln.Exprs p) (Pln.Cols p) (Pln.Kids p)) ws) == 0) = false))), ((((iPlanWidth (Pln.mk (Pln.Kind p) (Pln.Table p) (Pln.Exprs p) (Pln.Cols p) (Pln.Kids p)) ws) == 0) = false) → ((((iPlanWidth (Pln.mk (Pln.Kind p) (Pln.Table p) (Pln.Exprs p) (Pln.Cols p) (Pln.Kids p)) ws) == 0) = false)))] ?_ ?_))
 ·
  exact ⟨trivial, (by intro g1; assumption), (by intro g2; assumption), (by intro g3; assumption), (by intro g4; assumption), (by intro g5; assumption), trivial⟩
 refine cdE e0 ?_ ?_
 · intro h6q e7; refine seq (r1 hC [6] [] ⟨[(6, .nilsl)], []⟩ ?_); exact ret (rS (.slice .bool) e7)
 ·
  intro h8q e9; refine kpU [1, 2, 3] [12] [] [] ?_; refine AW.skip (seq (seq (r1U hC [1, 2, 3, 20, 21, 22] [12] [(20, sD12 fl), (21, sI (length fl : Int)), (22, sI 0)] [] ?_))); refine lpB (ζ := Unit) (fun x => ⟨[(2, sD12 fl), (3, .ref 12 1 0)], [(12, .box 1 [sI (Pln.Kind p), sI (Pln.Table p), sD9 (Pln.Exprs p), sD7 (Pln.Cols p), sD10 (Pln.Kids p)])]⟩) (fun x => ∀ j, j < fl.length → (length (getD fl j []) : Int) = getD ws j 0) (fun x => (.inl ())) (α := Nat) (fun x => ⟨[(1, sD7 ws), (2, sD12 fl), (3, .ref 12 1 0), (20, sD12 fl), (21, sI (length fl : Int)), (22, sI (x : Int))], [(12, .box 1 [sI (Pln.Kind p), sI (Pln.Table p), sD9 (Pln.Exprs p), sD7 (Pln.Cols p), sD10 (Pln.Kids p)])]⟩) (fun x => ∀ j, j < x → (length (getD fl j []) : Int) = getD ws j 0) (fun x => (length fl) - x) (fun k x => iNullableColumns_l0 ws fl k x) 0 (by kernel_rfl) ?_ ?_ ?_
  · exact fun j hj => absurd hj (Nat.not_lt_zero _)
  ·
   intro v22 k39q hI0 hk37 e38; refine seq (r1U hC [1, 2, 3, 20, 21, 22, 23] [12] [(23, sB (decide ((v22 : Int) < (length fl : Int))))] [] ?_); refine seq (cdE e38 ?_ ?_)
   ·
    intro h40q e41; refine kpU [1, 2, 3, 20, 21, 22] [12] [] [] ?_; refine AW.skip (seq (block (seq (r0U hC [1, 2, 3, 7, 8, 20, 21, 22] [12] [(7, sI (v22 : Int)), (8, sD6 (getD fl v22 []))] [] [IX (v22 : Int) (length fl : Int)] ?_ ?_))))
    ·
     exact ⟨IX.of (by omega), trivial⟩
    refine seq (r0U hC [1, 2, 3, 20, 21, 22, 33] [12] [(33, sB ((length (getD fl v22 []) : Int) != (getD ws v22 0)))] [] [IX (v22 : Int) (length ws : Int)] ?_ ?_)
    ·
     exact ⟨IX.of (by omega), trivial⟩
    refine cdE e41 ?_ ?_
    · intro h42q e43; refine seq (r1 hC [6] [] ⟨[(6, .nilsl)], []⟩ ?_); refine ret ?_; have e44 := e9.trans (elim_r e43); exact rS (.slice .bool) e44
    ·
     intro h45q e46; refine kpU [1, 2, 3, 20, 21, 22] [12] [] [] ?_; refine AW.skip (r0U hC [1, 2, 3, 20, 21, 22] [12] [(22, sI ((v22 + 1 : Nat) : Int))] [] [R64 ((v22 + 1 : Nat) : Int)] ?_ ?_)
     ·
      exact ⟨R64.of (by omega), trivial⟩
     refine bk (v22 + 1) e46 hk37 ?_ ?_
     ·
      intro j hj; by_cases hj2 : j < v22
      · exact hI0 j hj2
      ·
       have : j = v22 := by omega
       subst this
       omega
     · omega
   · intro h47q e48; refine kpU [2, 3] [12] [] [] ?_; refine exit ?_; refine meet () (by kernel_rfl) ⟨?_, e48⟩; intro j hj; exact hI0 j (by omega)
  ·
   intro x hJ0 e49; have e50 := e9.trans (elim_l e49); refine seq (r0 hC [6] [144] ⟨[(6, .arr 144 1)], [(144, .arr 1 .bool ((inul (Pln.mk (Pln.Kind p) (Pln.Table p) (Pln.Exprs p) (Pln.Cols p) (Pln.Kids p)) fl) : List Bool))]⟩ [(∃ ws, NPl ws fl (Pln.mk (Pln.Kind p) (Pln.Table p) (Pln.Exprs p) (Pln.Cols p) (Pln.Kids p)))] ?_ ?_)
   ·
    exact ⟨(by exact ⟨ws, PVw.mk' (by rw [← iPlanWidth_eq]; exact h8q.1), by omega, fun j hj => hJ0 j (by omega)⟩), trivial⟩
   exact ret (rS (.slice .bool) e50)

end
end Go.Proofs.Ytodcdgolcbdkgaa
