/-
  A part of the proof of this claim (ApTK): what functions of the program compute, and plain facts of that. No conditions.
-/
import Derived.Test.YtodcdgolcbdkgaaApP
import Derived.Test.YtodcdgolcbdkgaaAmY
import Derived.Laws.BitsLemmas
import Derived.Test.YtodcdgolcbdkgaaApTJ
import Derived.Test.YtodcdgolcbdkgaaApTD
set_option linter.all false
namespace Go.Proofs.Ytodcdgolcbdkgaa
open Go Go.Am
open Go.Am.AW (seq r1U ret kpU cdE r0U r1 meet rI block rB bk exit lpB r0 kp cutQ cd d0)
open List (length getD)
noncomputable section

def VC (e : Xpr) : Prop := ∃ w l, w ≤ 6 ∧ VE w l e

theorem VC.kid {e : Xpr} (h : VC e) {i : Nat} (hi : i < e.Kids.length) : VC (e.Kids.getD i Xpr.zero) := by
 obtain ⟨w, l, h1, h2⟩ := h; obtain ⟨l', h3⟩ := h2.kid hi; exact ⟨w, l', h1, h3⟩

theorem VC.col {e : Xpr} (h : VC e) (hk : e.Kind = 1) : 0 ≤ e.Col ∧ e.Col < 6 := by
 obtain ⟨w, l, h1, h2⟩ := h; have := h2.node.col hk; omega

def PS (ws : List Int) (sets : List Bool) (p : Pln) : Prop := PVw ws p ∧ sets.length = ws.length

theorem PS.kid {ws : List Int} {sets : List Bool} {p : Pln} (h : PS ws sets p) {i : Nat} (hi : i < p.Kids.length) : PS ws sets (p.Kids.getD i Pln.zero) := ⟨h.1.kid hi, h.2⟩

theorem PVw.vc {p : Pln} {ws : List Int} (h : PVw ws p) (hk : p.Kind = 3) {i : Nat} (hi : i < p.Exprs.length) : VC (p.Exprs.getD i Xpr.zero) := by
 have := ValidExpr_iff.1 (allv_iff.1 (h.exprs.1 (.inr hk)) i hi); exact ⟨_, 8, this.1.2, this.2⟩

end
end Go.Proofs.Ytodcdgolcbdkgaa


namespace Go.Proofs.Ytodcdgolcbdkgaa
open Go Go.Am
open Go.Am.AW (seq r1U ret kpU cdE r0U r1 meet block rB rS bk exit lpB r0 kp d0U)
open List (length getD set replicate)
noncomputable section

def toBoolS_l0 (a : List Bool) : Nat → Nat → (List Bool) → (List Bool)
 | 0, i, out => out
 | k + 1, i, out => (bif (decide ((i : Int) < (length a : Int))) then (toBoolS_l0 a k (i + 1) (set out i (getD a i false))) else out)

def toBoolS (a : List Bool) : (List Bool) := (andThen (toBoolS_l0 a ((length a) - 0 + 1) 0 (replicate (length a) false : List Bool)) (fun z => (fun (out : List Bool) => out) z))

def toBoolS_sp : FnSpec := mkSpec [.val (.slice .bool)] [.own .bool] (fun (a : List Bool) => (length a : Int) ≤ 1048576) (fun (a : List Bool) => [⟨(.slice .bool), (toBoolS a)⟩])

theorem toBoolS_ok : FnOK Try.prog 47 toBoolS_sp := by
 have hC : CtxOK Try.prog (mkCtx tyL []) := CtxOK.nil tyOK; refine FnOK.of_body Try.func47 (by kernel_rfl) rfl (C := (mkCtx tyL [])) hC.ty (by kernel_rfl) ?_; intro (a : List Bool) hwf hpre E; have hpre : (length a : Int) ≤ 1048576 := hpre; have e0 : toBoolS a = toBoolS a := rfl; refine seq (r1U hC [0] [] [] [] ?_); refine seq (r0U hC [0, 3] [28] [(3, .arr 28 1)] [(28, .arr 1 .bool ((replicate (length a) false : List Bool) : List Bool))] [(0 ≤ (length a : Int) ∧ (length a : Int) ≤ (length a : Int) ∧ (length a : Int) ≤ 4294967296)] ?_ ?_)
 ·
  exact ⟨(by omega), trivial⟩
 refine seq (seq (r1U hC [0, 3, 4] [28] [(4, sI 0)] [] ?_)); refine lpB (ζ := (List Bool)) (fun x => ⟨[(3, .arr 28 1)], [(28, .arr 1 .bool (x : List Bool))]⟩) (fun x => x.length = (length a)) (fun x => x) (α := Nat × (List Bool)) (fun x => ⟨[(0, sD6 a), (3, .arr 28 1), (4, sI ((x.1 : Nat) : Int))], [(28, .arr 1 .bool (x.2 : List Bool))]⟩) (fun x => x.2.length = (length a)) (fun x => (length a) - x.1) (fun k x => toBoolS_l0 a k x.1 x.2) (0, (replicate (length a) false : List Bool)) (by kernel_rfl) ?_ ?_ ?_
 · simp
 ·
  intro x k15q hI0 hk13 e14; obtain ⟨i, out⟩ := x; replace hI0 : out.length = (length a) := hI0; refine seq (seq (r1U hC [0, 3, 4, 11] [28] [(11, sB (decide ((i : Int) < (length a : Int))))] [] ?_)); refine cdE e14 ?_ ?_
  ·
   intro h16q e17; refine kpU [0, 3, 4] [28] [] [] ?_; refine AW.skip (seq (block (r0U hC [0, 3, 4] [28] [] [(28, .arr 1 .bool ((set out i (getD a i false)) : List Bool))] [IX (i : Int) (length a : Int), IX (i : Int) (length out : Int)] ?_ ?_)))
   ·
    exact ⟨IX.of (by omega), IX.of (by omega), trivial⟩
   refine r0U hC [0, 3, 4] [28] [(4, sI ((i + 1 : Nat) : Int))] [] [R64 ((i + 1 : Nat) : Int)] ?_ ?_
   ·
    exact ⟨R64.of (by omega), trivial⟩
   refine bk (i + 1, (set out i (getD a i false))) e17 hk13 ?_ ?_
   · simp only [lens] at *; omega
   · omega
  · intro h18q e19; refine kpU [3] [28] [] [] ?_; refine exit ?_; refine meet out (by kernel_rfl) ⟨?_, e19⟩; assumption
 · intro out hJ0 e20; have e21 := e0.trans (then_eq e20); refine seq (r1U hC [2] [28] [(2, .arr 28 1)] [] ?_); exact ret (rS (.slice .bool) e21)

def eqBoolS_l0 (a : List Bool) (b : List Bool) : Nat → Nat → Unit ⊕ Bool
 | 0, i => .inl ()
 | k + 1, i => (bif (decide ((i : Int) < (length a : Int))) then (bif ((getD a i false) != (getD b i false)) then (.inr false) else (eqBoolS_l0 a b k (i + 1))) else (.inl ()))

def eqBoolS (a : List Bool) (b : List Bool) : Bool := (bif ((length a : Int) != (length b : Int)) then false else (Sum.elim (fun _ => true) (fun r => r) (eqBoolS_l0 a b ((length a) - 0 + 1) 0)))

def eqBoolS_sp : FnSpec := mkSpec [.val (.slice .bool), .val (.slice .bool)] [.val .bool] (fun (a : List Bool) (b : List Bool) => True) (fun (a : List Bool) (b : List Bool) => [⟨.bool, (eqBoolS a b)⟩])

theorem eqBoolS_ok : FnOK Try.prog 33 eqBoolS_sp := by
 have hC : CtxOK Try.prog (mkCtx tyL []) := CtxOK.nil tyOK; have hM : Try.prog.follows .mixedOrders = true := Try.checked.mixed; refine FnOK.of_body Try.func33 (by kernel_rfl) rfl (C := (mkCtx tyL [])) hC.ty (by kernel_rfl) ?_; intro (a : List Bool) (b : List Bool) hwf hpre E; have hpre : True := hpre; have hw_a : Wf ⟨(.slice .bool), (a : List Bool)⟩ := hwf _ (List.Mem.head _); have hl_a : (length a : Int) ≤ 9223372036854775807 := hw_a.len; have hw_b : Wf ⟨(.slice .bool), (b : List Bool)⟩ := hwf _ (List.Mem.tail _ (List.Mem.head _)); have hl_b : (length b : Int) ≤ 9223372036854775807 := hw_b.len; have e0 : eqBoolS a b = eqBoolS a b := rfl; refine seq (r1U hC [0, 1] [] [] [] ?_); refine seq (seq (r1U hC [0, 1, 10] [] [(10, sB ((length a : Int) != (length b : Int)))] [] ?_)); refine cdE e0 ?_ ?_
 · intro h1q e2; refine seq (r1 hC [4] [] ⟨[(4, sB false)], []⟩ ?_); exact ret (rB _ e2)
 ·
  intro h3q e4; refine kpU [0, 1] [] [] [] ?_; refine AW.skip (seq (seq (r1U hC [0, 1, 5] [] [(5, sI 0)] [] ?_))); refine lpB (ζ := Unit) (fun x => ⟨[], []⟩) (fun x => True) (fun x => (.inl ())) (α := Nat) (fun x => ⟨[(0, sD6 a), (1, sD6 b), (5, sI (x : Int))], []⟩) (fun x => True) (fun x => (length a) - x) (fun k x => eqBoolS_l0 a b k x) 0 (by kernel_rfl) ?_ ?_ ?_
  · exact trivial
  ·
   intro i k34q hI0 hk32 e33; refine seq (seq (r1U hC [0, 1, 5, 14] [] [(14, sB (decide ((i : Int) < (length a : Int))))] [] ?_)); refine cdE e33 ?_ ?_
   ·
    intro h35q e36; refine kpU [0, 1, 5] [] [] [] ?_; refine AW.skip (seq (block (seq (d0U hC hM [0, 1, 5, 25] [] [(25, sB ((getD a i false) != (getD b i false)))] [] [IX (i : Int) (length a : Int), IX (i : Int) (length b : Int)] ?_ ?_))))
    ·
     exact ⟨IX.of (by omega), IX.of (by omega), trivial⟩
    refine cdE e36 ?_ ?_
    · intro h37q e38; refine seq (r1 hC [4] [] ⟨[(4, sB false)], []⟩ ?_); refine ret ?_; have e39 := e4.trans (elim_r e38); exact rB _ e39
    ·
     intro h40q e41; refine kpU [0, 1, 5] [] [] [] ?_; refine AW.skip (r0U hC [0, 1, 5] [] [(5, sI ((i + 1 : Nat) : Int))] [] [R64 ((i + 1 : Nat) : Int)] ?_ ?_)
     ·
      exact ⟨R64.of (by omega), trivial⟩
     refine bk (i + 1) e41 hk32 ?_ ?_
     · assumption
     · omega
   · intro h42q e43; refine kp [] [] ⟨[], []⟩ ?_; refine exit ?_; refine meet () (by kernel_rfl) ⟨?_, e43⟩; assumption
  · intro x hJ0 e44; have e45 := e4.trans (elim_l e44); refine seq (r1 hC [4] [] ⟨[(4, sB true)], []⟩ ?_); exact ret (rB _ e45)

theorem eqBoolS_self (a : List Bool) : eqBoolS a a = true := by
 unfold eqBoolS; simp only [bne_self_eq_false, cond_false]; rcases all_loop (eqBoolS_l0 a a) a.length (fun i => (getD a i false) != (getD a i false)) (fun k i => rfl) (a.length - 0 + 1) 0 (by omega) with ⟨h1, _⟩ | ⟨_, j, _, hj, h2⟩
 · rw [h1]; rfl
 · rw [bne_self_eq_false] at h2; cases h2

end
end Go.Proofs.Ytodcdgolcbdkgaa


namespace Go.Proofs.Ytodcdgolcbdkgaa
open Go Go.Am
open Go.Am.AW (seq r1U ret kpU cdE r0U r1 meet rI block rB rS bk exit lpB r0 kp d0U)
open List (length getD set replicate)
noncomputable section

def markBoolS_l0 : Nat → Int → Nat → (List Bool) → Int × (List Bool)
 | 0, k1, i, a1 => (k1, a1)
 | k + 1, k1, i, a1 => (bif (decide ((i : Int) < (length a1 : Int))) then (markBoolS_l0 k (IntKind.wrap .i64 (k1 + 1)) (i + 1) (set a1 i ((Int.tmod k1 3) == 0))) else (k1, a1))

def markBoolS (a : List Bool) (k0 : Int) : List Bool × Int := (andThen (markBoolS_l0 ((length a) - 0 + 1) k0 0 a) (fun z => (fun (k1 : Int) (a1 : List Bool) => (a1, k1)) z.1 z.2))

theorem markBoolS_l0_len : ∀ (n : Nat) (k : Int) (i : Nat) (a : List Bool), (markBoolS_l0 n k i a).2.length = a.length := by
 intro n
 induction n with
 | zero => intro k i a; rfl
 | succ n ih =>
  intro k i a; unfold markBoolS_l0
  cases decide ((i : Int) < (length a : Int)) with
  | true => rw [cond_true, ih]; simp only [List.length_set]
  | false => rfl

theorem markBoolS_ok : MarkC Try.prog 39 .bool (fun _ _ => True) markBoolS := by
 have hC : CtxOK Try.prog { mkCtx tyL [] with deep := true } := CtxOK.deepen (CtxOK.nil tyOK); refine MarkC.of_body noGlob Try.func39 (by kernel_rfl) rfl (C := { mkCtx tyL [] with deep := true }) hC.ty (by kernel_rfl) (fun a k0 => by unfold markBoolS andThen; exact markBoolS_l0_len _ _ _ _) ?_; intro (a : List Bool) (k0 : Int) hl hk hpre E; have hl : (length a : Int) ≤ 4294967296 := hl; have hk : -9223372036854775808 ≤ k0 ∧ k0 ≤ 9223372036854775807 := hk; have e0 : markBoolS a k0 = markBoolS a k0 := rfl; refine seq ?_
 refine AW.regU hC  true [] [0, 1, 1000] [0]
  [] []
  [] (by kernel_rfl) ?_ ?_
 · exact trivial
 refine seq (seq (r1U hC [0, 1, 5, 1000] [0] [(5, sI 0)] [] ?_)); refine lpB (ζ := Int × (List Bool)) (fun x => ⟨[(1, sI x.1), (1000, .tr 0 1)], [(0, .tree 1 .bool (x.2 : List Bool))]⟩) (fun x => x.2.length = (length a)) (fun x => x) (α := Int × Nat × (List Bool)) (fun x => ⟨[(0, .tr 0 1), (1, sI x.1), (5, sI ((x.2.1 : Nat) : Int)), (1000, .tr 0 1)], [(0, .tree 1 .bool (x.2.2 : List Bool))]⟩) (fun x => x.2.2.length = (length a)) (fun x => (length x.2.2) - x.2.1) (fun k x => markBoolS_l0 k x.1 x.2.1 x.2.2) (k0, 0, a) (by kernel_rfl) ?_ ?_ ?_
 · simp
 ·
  intro x k15q hI0 hk13 e14; obtain ⟨k1, i, a1⟩ := x; dsimp only at e14; replace hI0 : a1.length = (length a) := hI0; refine seq (seq ?_)
  refine AW.regU hC  true [] [0, 1, 5, 9, 1000] [0]
   [(9, sB (decide ((i : Int) < (length a1 : Int))))] []
   [] (by kernel_rfl) ?_ ?_
  · exact trivial
  refine cdE e14 ?_ ?_
  ·
   intro h16q e17; refine kpU [0, 1, 5, 1000] [0] [] [] ?_; refine AW.skip (seq (block (seq ?_)))
   refine AW.regU hC  true [] [0, 1, 5, 1000] [0]
    [] [(0, .tree 1 .bool ((set a1 i ((Int.tmod k1 3) == 0)) : List Bool))]
    [((3 : Int) ≠ 0), IX (i : Int) (length a1 : Int)] (by kernel_rfl) ?_ ?_
   ·
    exact ⟨(by omega), IX.of (by omega), trivial⟩
   refine AW.regU hC  true [] [0, 1, 5, 1000] [0]
    [(1, sI (IntKind.wrap .i64 (k1 + 1)))] []
    [] (by kernel_rfl) ?_ ?_
   · exact trivial
   refine r0U hC [0, 1, 5, 1000] [0] [(5, sI ((i + 1 : Nat) : Int))] [] [R64 ((i + 1 : Nat) : Int)] ?_ ?_
   ·
    exact ⟨R64.of (by omega), trivial⟩
   refine bk ((IntKind.wrap .i64 (k1 + 1)), i + 1, (set a1 i ((Int.tmod k1 3) == 0))) e17 hk13 ?_ ?_
   · simp only [lens] at *; omega
   · simp only [lens]; omega
  · intro h18q e19; refine kpU [1, 1000] [0] [] [] ?_; refine exit ?_; refine meet (k1, a1) (by kernel_rfl) ⟨?_, e19⟩; assumption
 ·
  intro x hJ0 e20; obtain ⟨k1, a1⟩ := x; have e21 := e0.trans (then_eq e20); dsimp only at e21; refine seq ?_
  refine AW.regU hC  true [] [4, 1000] [0]
   [(4, sI k1)] []
   [] (by kernel_rfl) ?_ ?_
  · exact trivial
  exact ret (AW.retM (ys := a1) (k := k1) e21 (by kernel_rfl) (by kernel_rfl) (by kernel_rfl))

def markBoolSS_l0 : Nat → Int → Nat → (List (List Bool)) → Int × (List (List Bool))
 | 0, k1, i, a1 => (k1, a1)
 | k + 1, k1, i, a1 => (bif (decide ((i : Int) < (length a1 : Int))) then (markBoolSS_l0 k ((markBoolS (getD a1 i []) k1).2) (i + 1) (set a1 i ((markBoolS (getD a1 i []) k1).1))) else (k1, a1))

def markBoolSS (a : List (List Bool)) (k0 : Int) : List (List Bool) × Int := (andThen (markBoolSS_l0 ((length a) - 0 + 1) k0 0 a) (fun z => (fun (k1 : Int) (a1 : List (List Bool)) => (a1, k1)) z.1 z.2))

theorem markBoolSS_l0_len : ∀ (n : Nat) (k : Int) (i : Nat) (a : List (List Bool)), (markBoolSS_l0 n k i a).2.length = a.length := by
 intro n
 induction n with
 | zero => intro k i a; rfl
 | succ n ih =>
  intro k i a; unfold markBoolSS_l0
  cases decide ((i : Int) < (length a : Int)) with
  | true => rw [cond_true, ih]; simp only [List.length_set]
  | false => rfl

theorem markBoolSS_ok : MarkC Try.prog 38 (.slice .bool) (fun _ _ => True) markBoolSS := by
 have hC : CtxOK Try.prog { mkCtx tyL [] with deep := true } := CtxOK.deepen (CtxOK.nil tyOK); refine MarkC.of_body noGlob Try.func38 (by kernel_rfl) rfl (C := { mkCtx tyL [] with deep := true }) hC.ty (by kernel_rfl) (fun a k0 => by unfold markBoolSS andThen; exact markBoolSS_l0_len _ _ _ _) ?_; intro (a : List (List Bool)) (k0 : Int) hl hk hpre E; have hl : (length a : Int) ≤ 4294967296 := hl; have hk : -9223372036854775808 ≤ k0 ∧ k0 ≤ 9223372036854775807 := hk; have e0 : markBoolSS a k0 = markBoolSS a k0 := rfl; refine seq ?_
 refine AW.regU hC  true [] [0, 1, 1000] [0]
  [] []
  [] (by kernel_rfl) ?_ ?_
 · exact trivial
 refine seq (seq (r1U hC [0, 1, 5, 1000] [0] [(5, sI 0)] [] ?_)); refine lpB (ζ := Int × (List (List Bool))) (fun x => ⟨[(1, sI x.1), (1000, .tr 0 1)], [(0, .tree 1 (.slice .bool) (x.2 : List (List Bool)))]⟩) (fun x => x.2.length = (length a)) (fun x => x) (α := Int × Nat × (List (List Bool))) (fun x => ⟨[(0, .tr 0 1), (1, sI x.1), (5, sI ((x.2.1 : Nat) : Int)), (1000, .tr 0 1)], [(0, .tree 1 (.slice .bool) (x.2.2 : List (List Bool)))]⟩) (fun x => x.2.2.length = (length a)) (fun x => (length x.2.2) - x.2.1) (fun k x => markBoolSS_l0 k x.1 x.2.1 x.2.2) (k0, 0, a) (by kernel_rfl) ?_ ?_ ?_
 · simp
 ·
  intro x k15q hI0 hk13 e14; obtain ⟨k1, i, a1⟩ := x; dsimp only at e14; replace hI0 : a1.length = (length a) := hI0; refine seq (seq ?_)
  refine AW.regU hC  true [] [0, 1, 5, 9, 1000] [0]
   [(9, sB (decide ((i : Int) < (length a1 : Int))))] []
   [] (by kernel_rfl) ?_ ?_
  · exact trivial
  refine cdE e14 ?_ ?_
  ·
   intro h16q e17; refine kpU [0, 1, 5, 1000] [0] [] [] ?_; refine AW.skip (seq (block (AW.regionO [0, 1, 2, 3, 4, 5, 6] (by rfl) ?_)))
   refine AWO.runU hC false [] [0, 1, 2] [3, 4, 5, 6] [0, 1, 5, 14, 1000] [0]
    [(14, .tref 0 1 i [])] []
    [IX (i : Int) (length a1 : Int)] (by rfl) (by kernel_rfl) ?_ ?_
   ·
    exact ⟨IX.of (by omega), trivial⟩
   refine AWO.markAt (u := (.slice .bool)) (id := 0) (ep := 1) (i := i) (p := []) (xs := (a1 : List (List Bool))) (ys := ((getD a1 i []) : List Bool)) (k := k1) markBoolS_ok hC.ty ((markBoolS (getD a1 i []) k1).1 : List Bool) (by rfl) (by rfl) (by rfl) (by rfl) (by kernel_rfl) (by kernel_rfl) (by kernel_rfl) (by kernel_rfl) (by kernel_rfl) (by kernel_rfl) (by kernel_rfl) (by kernel_rfl) (by kernel_rfl) (by kernel_rfl) ?_ ?_
   · assumption
   refine AWO.keepU [0, 5, 17, 1000] [0] [(17, sI ((markBoolS (getD a1 i []) k1).2))] [(0, .tree 1 (.slice .bool) ((set a1 i ((markBoolS (getD a1 i []) k1).1)) : List (List Bool)))] (by kernel_rfl) ?_
   refine AWO.runU hC false [] [6] [] [0, 1, 5, 1000] [0]
    [(1, sI ((markBoolS (getD a1 i []) k1).2))] []
    [] (by rfl) (by kernel_rfl) ?_ ?_
   · exact trivial
   refine AWO.nil ?_; refine r0U hC [0, 1, 5, 1000] [0] [(5, sI ((i + 1 : Nat) : Int))] [] [R64 ((i + 1 : Nat) : Int)] ?_ ?_
   ·
    exact ⟨R64.of (by omega), trivial⟩
   refine bk ((markBoolS (getD a1 i []) k1).2, i + 1, (set a1 i ((markBoolS (getD a1 i []) k1).1))) e17 hk13 ?_ ?_
   · simp only [lens] at *; omega
   · simp only [lens]; omega
  · intro h18q e19; refine kpU [1, 1000] [0] [] [] ?_; refine exit ?_; refine meet (k1, a1) (by kernel_rfl) ⟨?_, e19⟩; assumption
 ·
  intro x hJ0 e20; obtain ⟨k1, a1⟩ := x; have e21 := e0.trans (then_eq e20); dsimp only at e21; refine seq ?_
  refine AW.regU hC  true [] [4, 1000] [0]
   [(4, sI k1)] []
   [] (by kernel_rfl) ?_ ?_
  · exact trivial
  exact ret (AW.retM (ys := a1) (k := k1) e21 (by kernel_rfl) (by kernel_rfl) (by kernel_rfl))

def szBoolS (a : List Bool) (left : Int) : Int := (bif (decide ((left - (length a : Int)) < 0)) then (-1) else (left - (length a : Int)))

def szBoolS_sp : FnSpec := mkSpec [.val (.slice .bool), .val (.int .i64)] [.val (.int .i64)] (fun (a : List Bool) (left : Int) => 0 ≤ left) (fun (a : List Bool) (left : Int) => [⟨(.int .i64), (szBoolS a left)⟩])

theorem szBoolS_ok : FnOK Try.prog 76 szBoolS_sp := by
 have hC : CtxOK Try.prog (mkCtx tyL []) := CtxOK.nil tyOK; refine FnOK.of_body Try.func76 (by kernel_rfl) rfl (C := (mkCtx tyL [])) hC.ty (by kernel_rfl) ?_; intro (a : List Bool) (left : Int) hwf hpre E; have hpre : 0 ≤ left := hpre; have hw_a : Wf ⟨(.slice .bool), (a : List Bool)⟩ := hwf _ (List.Mem.head _); have hl_a : (length a : Int) ≤ 9223372036854775807 := hw_a.len; have hw_left : Wf ⟨(.int .i64), (left : Int)⟩ := hwf _ (List.Mem.tail _ (List.Mem.head _)); have hr_left : -9223372036854775808 ≤ left ∧ left ≤ 9223372036854775807 := hw_left.int_inv; have e0 : szBoolS a left = szBoolS a left := rfl; refine seq (r1U hC [0, 1] [] [] [] ?_); refine seq (r0 hC [1] [] ⟨[(1, sI (left - (length a : Int)))], []⟩ [R64 (left - (length a : Int))] ?_ ?_)
 ·
  exact ⟨R64.of (by omega), trivial⟩
 refine seq (seq (r1U hC [1, 10] [] [(10, sB (decide ((left - (length a : Int)) < 0)))] [] ?_)); refine cdE e0 ?_ ?_
 · intro h1q e2; refine seq (r1 hC [4] [] ⟨[(4, sI (-1))], []⟩ ?_); exact ret (rI _ e2)
 · intro h3q e4; refine kpU [1] [] [] [] ?_; refine AW.skip (seq (r1 hC [4] [] ⟨[(4, sI (left - (length a : Int)))], []⟩ ?_)); exact ret (rI _ e4)

theorem szBoolS_ge {a : List Bool} {l : Int} (hl : 0 ≤ l) : -1 ≤ szBoolS a l ∧ szBoolS a l ≤ l := by
 unfold szBoolS; by_cases e : l - (length a : Int) < 0
 · rw [decide_eq_true e, cond_true]; omega
 · rw [decide_eq_false e, cond_false]; omega

def szBoolSS_l0 (a : List (List Bool)) : Nat → Int → Nat → Int ⊕ Int
 | 0, left1, i => .inl left1
 | k + 1, left1, i => (bif (decide ((i : Int) < (length a : Int))) then (bif (decide ((szBoolS (getD a i []) left1) < 0)) then (.inr (-1)) else (szBoolSS_l0 a k (szBoolS (getD a i []) left1) (i + 1))) else (.inl left1))

def szBoolSS (a : List (List Bool)) (left : Int) : Int := (bif (decide ((left - (length a : Int)) < 0)) then (-1) else (Sum.elim (fun z => (fun (left1 : Int) => left1) z) (fun r => r) (szBoolSS_l0 a ((length a) - 0 + 1) (left - (length a : Int)) 0)))

def szBoolSS_sp : FnSpec := mkSpec [.val (.slice (.slice .bool)), .val (.int .i64)] [.val (.int .i64)] (fun (a : List (List Bool)) (left : Int) => 0 ≤ left) (fun (a : List (List Bool)) (left : Int) => [⟨(.int .i64), (szBoolSS a left)⟩])

theorem szBoolSS_ok : FnOK Try.prog 28 szBoolSS_sp := by
 have hC : CtxOK Try.prog (mkCtx tyL [(76, szBoolS_sp)]) := CtxOK.cons szBoolS_ok (CtxOK.nil tyOK); refine FnOK.of_body Try.func28 (by kernel_rfl) rfl (C := (mkCtx tyL [(76, szBoolS_sp)])) hC.ty (by kernel_rfl) ?_; intro (a : List (List Bool)) (left : Int) hwf hpre E; have hpre : 0 ≤ left := hpre; have hw_a : Wf ⟨(.slice (.slice .bool)), (a : List (List Bool))⟩ := hwf _ (List.Mem.head _); have hl_a : (length a : Int) ≤ 9223372036854775807 := hw_a.len; have hw_left : Wf ⟨(.int .i64), (left : Int)⟩ := hwf _ (List.Mem.tail _ (List.Mem.head _)); have hr_left : -9223372036854775808 ≤ left ∧ left ≤ 9223372036854775807 := hw_left.int_inv; have e0 : szBoolSS a left = szBoolSS a left := rfl; refine seq (r1U hC [0, 1] [] [] [] ?_); refine seq (r0U hC [0, 1] [] [(1, sI (left - (length a : Int)))] [] [R64 (left - (length a : Int))] ?_ ?_)
 ·
  exact ⟨R64.of (by omega), trivial⟩
 refine seq (seq (r1U hC [0, 1, 11] [] [(11, sB (decide ((left - (length a : Int)) < 0)))] [] ?_)); refine cdE e0 ?_ ?_
 · intro h1q e2; refine seq (r1 hC [4] [] ⟨[(4, sI (-1))], []⟩ ?_); exact ret (rI _ e2)
 ·
  intro h3q e4; refine kpU [0, 1] [] [] [] ?_; refine AW.skip (seq (seq (r1U hC [0, 1, 5] [] [(5, sI 0)] [] ?_))); refine lpB (ζ := Int) (fun x => ⟨[(1, sI x)], []⟩) (fun x => 0 ≤ x) (fun x => (.inl x)) (α := Int × Nat) (fun x => ⟨[(0, sD12 a), (1, sI x.1), (5, sI ((x.2 : Nat) : Int))], []⟩) (fun x => 0 ≤ x.1) (fun x => (length a) - x.2) (fun k x => szBoolSS_l0 a k x.1 x.2) ((left - (length a : Int)), 0) (by kernel_rfl) ?_ ?_ ?_
  · omega
  ·
   intro x k34q hI0 hk32 e33; obtain ⟨left1, i⟩ := x; refine seq (seq (r1U hC [0, 1, 5, 15] [] [(15, sB (decide ((i : Int) < (length a : Int))))] [] ?_)); refine cdE e33 ?_ ?_
   ·
    intro h35q e36; refine kpU [0, 1, 5] [] [] [] ?_; refine AW.skip (seq (block (seq (r0U hC [0, 1, 5] [] [(1, sI (szBoolS (getD a i []) left1))] [] [IX (i : Int) (length a : Int), (0 ≤ left1)] ?_ ?_))))
    ·
     exact ⟨IX.of (by omega), (by omega), trivial⟩
    refine seq (r1U hC [0, 1, 5, 25] [] [(25, sB (decide ((szBoolS (getD a i []) left1) < 0)))] [] ?_); refine cdE e36 ?_ ?_
    · intro h37q e38; refine seq (r1 hC [4] [] ⟨[(4, sI (-1))], []⟩ ?_); refine ret ?_; have e39 := e4.trans (elim_r e38); exact rI _ e39
    ·
     intro h40q e41; refine kpU [0, 1, 5] [] [] [] ?_; refine AW.skip (r0U hC [0, 1, 5] [] [(5, sI ((i + 1 : Nat) : Int))] [] [R64 ((i + 1 : Nat) : Int)] ?_ ?_)
     ·
      exact ⟨R64.of (by omega), trivial⟩
     refine bk ((szBoolS (getD a i []) left1), i + 1) e41 hk32 ?_ ?_
     · exact Int.not_lt.1 h40q
     · omega
   · intro h42q e43; refine kpU [1] [] [] [] ?_; refine exit ?_; refine meet left1 (by kernel_rfl) ⟨?_, e43⟩; assumption
  · intro left1 hJ0 e44; have e45 := e4.trans (elim_l e44); refine seq (r1 hC [4] [] ⟨[(4, sI left1)], []⟩ ?_); exact ret (rI _ e45)

def toBoolSS_l0 (a : List (List Bool)) : Nat → Nat → (List (List Bool)) → (List (List Bool))
 | 0, i, out => out
 | k + 1, i, out => (bif (decide ((i : Int) < (length a : Int))) then (toBoolSS_l0 a k (i + 1) (set out i (toBoolS (getD a i [])))) else out)

def toBoolSS (a : List (List Bool)) : (List (List Bool)) := (andThen (toBoolSS_l0 a ((length a) - 0 + 1) 0 (replicate (length a) [] : List (List Bool))) (fun z => (fun (out : List (List Bool)) => out) z))

def toBoolSS_sp : FnSpec := mkSpec [.val (.slice (.slice .bool))] [.deep (.slice (.slice .bool))] (fun (a : List (List Bool)) => (length a : Int) ≤ 1048576 ∧ ∀ i : Nat, i < length a → (length (getD a i []) : Int) ≤ 1048576) (fun (a : List (List Bool)) => [⟨(.slice (.slice .bool)), (toBoolSS a)⟩])

theorem toBoolSS_ok : FnOK Try.prog 31 toBoolSS_sp := by
 have hC : CtxOK Try.prog { (mkCtx tyL [(47, toBoolS_sp)]) with deep := true } := CtxOK.deepen (CtxOK.cons toBoolS_ok (CtxOK.nil tyOK)); refine FnOK.of_body Try.func31 (by kernel_rfl) rfl (C := { (mkCtx tyL [(47, toBoolS_sp)]) with deep := true }) hC.ty (by kernel_rfl) ?_; intro (a : List (List Bool)) hwf hpre E; have hpre : (length a : Int) ≤ 1048576 ∧ ∀ i : Nat, i < length a → (length (getD a i []) : Int) ≤ 1048576 := hpre; have e0 : toBoolSS a = toBoolSS a := rfl; refine seq (r1U hC [0] [] [] [] ?_); refine seq (r0U hC [0, 3] [28] [(3, .tr 28 1)] [(28, .tree 1 (.slice .bool) ((replicate (length a) [] : List (List Bool)) : List (List Bool)))] [(0 ≤ (length a : Int) ∧ (length a : Int) ≤ (length a : Int) ∧ (length a : Int) ≤ 4294967296)] ?_ ?_)
 ·
  exact ⟨(by omega), trivial⟩
 refine seq (seq (r1U hC [0, 3, 4] [28] [(4, sI 0)] [] ?_)); refine lpB (ζ := (List (List Bool))) (fun x => ⟨[(3, .tr 28 1)], [(28, .tree 1 (.slice .bool) (x : List (List Bool)))]⟩) (fun x => x.length = (length a)) (fun x => x) (α := Nat × (List (List Bool))) (fun x => ⟨[(0, sD12 a), (3, .tr 28 1), (4, sI ((x.1 : Nat) : Int))], [(28, .tree 1 (.slice .bool) (x.2 : List (List Bool)))]⟩) (fun x => x.2.length = (length a)) (fun x => (length a) - x.1) (fun k x => toBoolSS_l0 a k x.1 x.2) (0, (replicate (length a) [] : List (List Bool))) (by kernel_rfl) ?_ ?_ ?_
 · simp
 ·
  intro x k15q hI0 hk13 e14; obtain ⟨i, out⟩ := x; replace hI0 : out.length = (length a) := hI0; refine seq (seq (r1U hC [0, 3, 4, 11] [28] [(11, sB (decide ((i : Int) < (length a : Int))))] [] ?_)); refine cdE e14 ?_ ?_
  ·
   intro h16q e17; refine kpU [0, 3, 4] [28] [] [] ?_; refine AW.skip (seq (block (r0U hC [0, 3, 4] [28] [] [(28, .tree 1 (.slice .bool) ((set out i (toBoolS (getD a i []))) : List (List Bool)))] [IX (i : Int) (length a : Int), ((length (getD a i []) : Int) ≤ 1048576), IX (i : Int) (length out : Int)] ?_ ?_)))
   ·
    exact ⟨IX.of (by omega), (hpre.2 i (by omega)), IX.of (by omega), trivial⟩
   refine r0U hC [0, 3, 4] [28] [(4, sI ((i + 1 : Nat) : Int))] [] [R64 ((i + 1 : Nat) : Int)] ?_ ?_
   ·
    exact ⟨R64.of (by omega), trivial⟩
   refine bk (i + 1, (set out i (toBoolS (getD a i [])))) e17 hk13 ?_ ?_
   · simp only [lens] at *; omega
   · omega
  · intro h18q e19; refine kpU [3] [28] [] [] ?_; refine exit ?_; refine meet out (by kernel_rfl) ⟨?_, e19⟩; assumption
 · intro out hJ0 e20; have e21 := e0.trans (then_eq e20); refine seq (r1U hC [2] [28] [(2, .tr 28 1)] [] ?_); exact ret (rS (.slice (.slice .bool)) e21)

def eqBoolSS_l0 (a : List (List Bool)) (b : List (List Bool)) : Nat → Nat → Unit ⊕ Bool
 | 0, i => .inl ()
 | k + 1, i => (bif (decide ((i : Int) < (length a : Int))) then (bif (!(eqBoolS (getD a i []) (getD b i []))) then (.inr false) else (eqBoolSS_l0 a b k (i + 1))) else (.inl ()))

def eqBoolSS (a : List (List Bool)) (b : List (List Bool)) : Bool := (bif ((length a : Int) != (length b : Int)) then false else (Sum.elim (fun _ => true) (fun r => r) (eqBoolSS_l0 a b ((length a) - 0 + 1) 0)))

def eqBoolSS_sp : FnSpec := mkSpec [.val (.slice (.slice .bool)), .val (.slice (.slice .bool))] [.val .bool] (fun (a : List (List Bool)) (b : List (List Bool)) => True) (fun (a : List (List Bool)) (b : List (List Bool)) => [⟨.bool, (eqBoolSS a b)⟩])

theorem eqBoolSS_ok : FnOK Try.prog 35 eqBoolSS_sp := by
 have hC : CtxOK Try.prog (mkCtx tyL [(33, eqBoolS_sp)]) := CtxOK.cons eqBoolS_ok (CtxOK.nil tyOK); have hM : Try.prog.follows .mixedOrders = true := Try.checked.mixed; refine FnOK.of_body Try.func35 (by kernel_rfl) rfl (C := (mkCtx tyL [(33, eqBoolS_sp)])) hC.ty (by kernel_rfl) ?_; intro (a : List (List Bool)) (b : List (List Bool)) hwf hpre E; have hpre : True := hpre; have hw_a : Wf ⟨(.slice (.slice .bool)), (a : List (List Bool))⟩ := hwf _ (List.Mem.head _); have hl_a : (length a : Int) ≤ 9223372036854775807 := hw_a.len; have hw_b : Wf ⟨(.slice (.slice .bool)), (b : List (List Bool))⟩ := hwf _ (List.Mem.tail _ (List.Mem.head _)); have hl_b : (length b : Int) ≤ 9223372036854775807 := hw_b.len; have e0 : eqBoolSS a b = eqBoolSS a b := rfl; refine seq (r1U hC [0, 1] [] [] [] ?_); refine seq (seq (r1U hC [0, 1, 10] [] [(10, sB ((length a : Int) != (length b : Int)))] [] ?_)); refine cdE e0 ?_ ?_
 · intro h1q e2; refine seq (r1 hC [4] [] ⟨[(4, sB false)], []⟩ ?_); exact ret (rB _ e2)
 ·
  intro h3q e4; refine kpU [0, 1] [] [] [] ?_; refine AW.skip (seq (seq (r1U hC [0, 1, 5] [] [(5, sI 0)] [] ?_))); refine lpB (ζ := Unit) (fun x => ⟨[], []⟩) (fun x => True) (fun x => (.inl ())) (α := Nat) (fun x => ⟨[(0, sD12 a), (1, sD12 b), (5, sI (x : Int))], []⟩) (fun x => True) (fun x => (length a) - x) (fun k x => eqBoolSS_l0 a b k x) 0 (by kernel_rfl) ?_ ?_ ?_
  · exact trivial
  ·
   intro i k34q hI0 hk32 e33; refine seq (seq (r1U hC [0, 1, 5, 14] [] [(14, sB (decide ((i : Int) < (length a : Int))))] [] ?_)); refine cdE e33 ?_ ?_
   ·
    intro h35q e36; refine kpU [0, 1, 5] [] [] [] ?_; refine AW.skip (seq (block (seq (d0U hC hM [0, 1, 5, 26] [] [(26, sB (!(eqBoolS (getD a i []) (getD b i []))))] [] [IX (i : Int) (length a : Int), IX (i : Int) (length b : Int), (True)] ?_ ?_))))
    ·
     exact ⟨IX.of (by omega), IX.of (by omega), trivial, trivial⟩
    refine cdE e36 ?_ ?_
    · intro h37q e38; refine seq (r1 hC [4] [] ⟨[(4, sB false)], []⟩ ?_); refine ret ?_; have e39 := e4.trans (elim_r e38); exact rB _ e39
    ·
     intro h40q e41; refine kpU [0, 1, 5] [] [] [] ?_; refine AW.skip (r0U hC [0, 1, 5] [] [(5, sI ((i + 1 : Nat) : Int))] [] [R64 ((i + 1 : Nat) : Int)] ?_ ?_)
     ·
      exact ⟨R64.of (by omega), trivial⟩
     refine bk (i + 1) e41 hk32 ?_ ?_
     · assumption
     · omega
   · intro h42q e43; refine kp [] [] ⟨[], []⟩ ?_; refine exit ?_; refine meet () (by kernel_rfl) ⟨?_, e43⟩; assumption
  · intro x hJ0 e44; have e45 := e4.trans (elim_l e44); refine seq (r1 hC [4] [] ⟨[(4, sB true)], []⟩ ?_); exact ret (rB _ e45)

def heldBoolS_l0 (a : List Bool) : Nat → Int → Nat → Int ⊕ Int
 | 0, k1, i => .inl k1
 | k + 1, k1, i => (bif (decide ((i : Int) < (length a : Int))) then (bif ((getD a i false) != ((Int.tmod k1 3) == 0)) then (.inr (-1)) else (heldBoolS_l0 a k (IntKind.wrap .i64 (k1 + 1)) (i + 1))) else (.inl k1))

def heldBoolS (a : List Bool) (k0 : Int) : Int := (Sum.elim (fun z => (fun (k1 : Int) => k1) z) (fun r => r) (heldBoolS_l0 a ((length a) - 0 + 1) k0 0))

def heldBoolS_sp : FnSpec := mkSpec [.val (.slice .bool), .val (.int .i64)] [.val (.int .i64)] (fun (a : List Bool) (k0 : Int) => True) (fun (a : List Bool) (k0 : Int) => [⟨(.int .i64), (heldBoolS a k0)⟩])

theorem heldBoolS_ok : FnOK Try.prog 40 heldBoolS_sp := by
 have hC : CtxOK Try.prog (mkCtx tyL []) := CtxOK.nil tyOK; refine FnOK.of_body Try.func40 (by kernel_rfl) rfl (C := (mkCtx tyL [])) hC.ty (by kernel_rfl) ?_; intro (a : List Bool) (k0 : Int) hwf hpre E; have hw_a : Wf ⟨(.slice .bool), (a : List Bool)⟩ := hwf _ (List.Mem.head _); have hl_a : (length a : Int) ≤ 9223372036854775807 := hw_a.len; have hw_k0 : Wf ⟨(.int .i64), (k0 : Int)⟩ := hwf _ (List.Mem.tail _ (List.Mem.head _)); have hr_k0 : -9223372036854775808 ≤ k0 ∧ k0 ≤ 9223372036854775807 := hw_k0.int_inv; have e0 : heldBoolS a k0 = heldBoolS a k0 := rfl; refine seq ?_
 refine AW.regU hC  true [] [0, 1] []
  [] []
  [] (by kernel_rfl) ?_ ?_
 · exact trivial
 refine seq (seq (r1U hC [0, 1, 5] [] [(5, sI 0)] [] ?_)); refine lpB (ζ := Int) (fun x => ⟨[(1, sI x)], []⟩) (fun x => True) (fun x => (.inl x)) (α := Int × Nat) (fun x => ⟨[(0, sD6 a), (1, sI x.1), (5, sI ((x.2 : Nat) : Int))], []⟩) (fun x => True) (fun x => (length a) - x.2) (fun k x => heldBoolS_l0 a k x.1 x.2) (k0, 0) (by kernel_rfl) ?_ ?_ ?_
 · exact trivial
 ·
  intro x k30q hI0 hk28 e29; obtain ⟨k1, i⟩ := x; refine seq (seq ?_)
  refine AW.regU hC  true [] [0, 1, 5, 9] []
   [(9, sB (decide ((i : Int) < (length a : Int))))] []
   [] (by kernel_rfl) ?_ ?_
  · exact trivial
  refine cdE e29 ?_ ?_
  ·
   intro h31q e32; refine kpU [0, 1, 5] [] [] [] ?_; refine AW.skip (seq (block (seq (seq ?_))))
   refine AW.regU hC  true [] [0, 1, 5, 19] []
    [(19, sB ((getD a i false) != ((Int.tmod k1 3) == 0)))] []
    [IX (i : Int) (length a : Int), ((3 : Int) ≠ 0)] (by kernel_rfl) ?_ ?_
   ·
    exact ⟨IX.of (by omega), (by omega), trivial⟩
   refine cdE e32 ?_ ?_
   ·
    intro h33q e34; refine seq ?_
    refine AW.reg hC  true [] [4] []
     ⟨[(4, sI (-1))], []⟩
     [] (by kernel_rfl) ?_ ?_
    · exact trivial
    refine ret ?_; have e35 := e0.trans (elim_r e34); exact rI _ e35
   ·
    intro h36q e37; refine kpU [0, 1, 5] [] [] [] ?_; refine AW.skip ?_
    refine AW.regU hC  true [] [0, 1, 5] []
     [(1, sI (IntKind.wrap .i64 (k1 + 1)))] []
     [] (by kernel_rfl) ?_ ?_
    · exact trivial
    refine r0U hC [0, 1, 5] [] [(5, sI ((i + 1 : Nat) : Int))] [] [R64 ((i + 1 : Nat) : Int)] ?_ ?_
    ·
     exact ⟨R64.of (by omega), trivial⟩
    refine bk ((IntKind.wrap .i64 (k1 + 1)), i + 1) e37 hk28 ?_ ?_
    · assumption
    · omega
  · intro h38q e39; refine kpU [1] [] [] [] ?_; refine exit ?_; refine meet k1 (by kernel_rfl) ⟨?_, e39⟩; assumption
 ·
  intro k1 hJ0 e40; have e41 := e0.trans (elim_l e40); refine seq ?_
  refine AW.reg hC  true [] [4] []
   ⟨[(4, sI k1)], []⟩
   [] (by kernel_rfl) ?_ ?_
  · exact trivial
  exact ret (rI _ e41)

end
end Go.Proofs.Ytodcdgolcbdkgaa
