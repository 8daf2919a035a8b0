/-
  A part of the proof of this claim (ApTK): what functions of the program compute, and plain facts of that. No conditions.
-/
import Derived.Test.YtodcdgolcbdkgaaAp4
import Derived.Test.YtodcdgolcbdkgaaAmY
import Derived.Laws.BitsLemmas
import Derived.Test.YtodcdgolcbdkgaaAnU
import Derived.Test.YtodcdgolcbdkgaaApP
import Derived.Test.YtodcdgolcbdkgaaApTD
set_option linter.all false
namespace Go.Proofs.Ytodcdgolcbdkgaa
open Go Go.Am
open Go.Am.AW (seq r1U ret kpU cdE r0U r1 rI block r0 d0)
open List (length getD)
noncomputable section

def VS (st : List Int) : Prop := ∀ j, j < st.length → 1 ≤ st.getD j 0 ∧ st.getD j 0 ≤ 7

def VX (st : List Int) (e : Xpr) : Prop := VS st ∧ ∃ l, VE (st.length : Int) l e

theorem VX.kid {st : List Int} {e : Xpr} (h : VX st e) {i : Nat} (hi : i < e.Kids.length) : VX st (e.Kids.getD i Xpr.zero) := by
 obtain ⟨h1, l, h2⟩ := h; exact ⟨h1, h2.kid hi⟩

theorem VX.node {st : List Int} {e : Xpr} (h : VX st e) : Node (st.length : Int) e := by
 obtain ⟨h1, l, h2⟩ := h; exact h2.node

end
end Go.Proofs.Ytodcdgolcbdkgaa


namespace Go.Proofs.Ytodcdgolcbdkgaa
open Go Go.Am
open Go.Am.AW (seq r1U ret kpU cdE r0U meet block rS bk exit lpB)
open List (length getD set replicate)
noncomputable section

def st (l : List Bool) : List Int := l.map (fun b => bif b then 7 else 3)

theorem set_takeI {α : Type} {l : List α} {i : Nat} {x : α} (h : i < l.length) : (l.set i x).take (i + 1) = l.take i ++ [x] := by
 rw [List.take_add_one, List.getElem?_set_self h, List.take_set_of_le (Nat.le_refl _)]; rfl

end
end Go.Proofs.Ytodcdgolcbdkgaa


namespace Go.Proofs.Ytodcdgolcbdkgaa
open Go Go.Am
open List (length getD)
noncomputable section

def FL (ws : List Int) (fl : List (List Bool)) : Prop := fl.length = ws.length ∧ ∀ i, i < ws.length → (length (getD fl i []) : Int) = getD ws i 0

def NPl (ws : List Int) (fl : List (List Bool)) (p : Pln) : Prop := PVw ws p ∧ FL ws fl

theorem NPl.kid {ws : List Int} {fl : List (List Bool)} {p : Pln} (h : NPl ws fl p) {i : Nat} (hi : i < p.Kids.length) : NPl ws fl (p.Kids.getD i Pln.zero) := ⟨h.1.kid hi, h.2⟩

theorem set_loopF {α : Type} {d : α} (L : Nat → Nat → List α → List α) (n : Nat) (f : α → Nat → α)
  (hS : ∀ k i out, out.length = n → i < n → L (k + 1) i out = L k (i + 1) (out.set i (f (out.getD i d) i))) (h0 : ∀ k i out, ¬ i < n → L (k + 1) i out = out) :
  ∀ k i out, n - i < k → out.length = n → L k i out = out.take i ++ (List.range' i (n - i)).map (fun j => f (out.getD j d) j) := by
 intro k
 induction k with
 | zero => intro i out h; omega
 | succ k ih =>
  intro i out hk hl; by_cases hi : i < n
  · rw [hS k i out hl hi, ih _ _ (by omega) (by rw [List.length_set]; exact hl), set_takeI (by omega), show n - i = (n - (i + 1)) + 1 by omega, List.range'_succ, List.map_cons, List.append_assoc]; congr 1; show f (out.getD i d) i :: _ = f (out.getD i d) i :: _; congr 1; refine List.map_congr_left fun j hj => ?_; have := (List.mem_range'_1.1 hj).1; rw [lgetD_set_ne (by omega)]
  · rw [h0 k i out hi, show n - i = 0 by omega, List.take_of_length_le (by omega)]; simp

end
end Go.Proofs.Ytodcdgolcbdkgaa


namespace Go.Proofs.Ytodcdgolcbdkgaa
open Go Go.Am
open Go.Am.AW (seq r1U ret kpU cdE r0U r1 meet rI block rB bk exit lpB r0 kp cutQ cd d0)
open List (length getD)
noncomputable section

def VC (e : Xpr) : Prop := ∃ w l, w ≤ 6 ∧ VE w l e

theorem VC.kid {e : Xpr} (h : VC e) {i : Nat} (hi : i < e.Kids.length) : VC (e.Kids.getD i Xpr.zero) := by
 obtain ⟨w, l, h1, h2⟩ := h; obtain ⟨l', h3⟩ := h2.kid hi; exact ⟨w, l', h1, h3⟩

theorem VC.col {e : Xpr} (h : VC e) (hk : e.Kind = 1) : 0 ≤ e.Col ∧ e.Col < 6 := by
 obtain ⟨w, l, h1, h2⟩ := h; have := h2.node.col hk; omega

def PS (ws : List Int) (sets : List Bool) (p : Pln) : Prop := PVw ws p ∧ sets.length = ws.length

theorem PS.kid {ws : List Int} {sets : List Bool} {p : Pln} (h : PS ws sets p) {i : Nat} (hi : i < p.Kids.length) : PS ws sets (p.Kids.getD i Pln.zero) := ⟨h.1.kid hi, h.2⟩

theorem PVw.vc {p : Pln} {ws : List Int} (h : PVw ws p) (hk : p.Kind = 3) {i : Nat} (hi : i < p.Exprs.length) : VC (p.Exprs.getD i Xpr.zero) := by
 have := ValidExpr_iff.1 (allv_iff.1 (h.exprs.1 (.inr hk)) i hi); exact ⟨_, 8, this.1.2, this.2⟩

end
end Go.Proofs.Ytodcdgolcbdkgaa


namespace Go.Proofs.Ytodcdgolcbdkgaa
open Go Go.Am
open Go.Am.AW (seq r1U ret kpU cdE r0U r1 meet rI block rB rS bk exit lpB r0 kp d0U)
open List (length getD set replicate)
noncomputable section

def heldIntS_l0 (a : List Int) : Nat → Int → Nat → Int ⊕ Int
 | 0, k1, i => .inl k1
 | k + 1, k1, i => (bif (decide ((i : Int) < (length a : Int))) then (bif ((getD a i 0) != k1) then (.inr (-1)) else (heldIntS_l0 a k (IntKind.wrap .i64 (k1 + 1)) (i + 1))) else (.inl k1))

def heldIntS (a : List Int) (k0 : Int) : Int := (Sum.elim (fun z => (fun (k1 : Int) => k1) z) (fun r => r) (heldIntS_l0 a ((length a) - 0 + 1) k0 0))

def heldIntS_sp : FnSpec := mkSpec [.val (.slice (.int .i64)), .val (.int .i64)] [.val (.int .i64)] (fun (a : List Int) (k0 : Int) => True) (fun (a : List Int) (k0 : Int) => [⟨(.int .i64), (heldIntS a k0)⟩])

theorem heldIntS_ok : FnOK Try.prog 45 heldIntS_sp := by
 have hC : CtxOK Try.prog (mkCtx tyL []) := CtxOK.nil tyOK; refine FnOK.of_body Try.func45 (by kernel_rfl) rfl (C := (mkCtx tyL [])) hC.ty (by kernel_rfl) ?_; intro (a : List Int) (k0 : Int) hwf hpre E; have hw_a : Wf ⟨(.slice (.int .i64)), (a : List Int)⟩ := hwf _ (List.Mem.head _); have hl_a : (length a : Int) ≤ 9223372036854775807 := hw_a.len; have hw_k0 : Wf ⟨(.int .i64), (k0 : Int)⟩ := hwf _ (List.Mem.tail _ (List.Mem.head _)); have hr_k0 : -9223372036854775808 ≤ k0 ∧ k0 ≤ 9223372036854775807 := hw_k0.int_inv; have e0 : heldIntS a k0 = heldIntS a k0 := rfl; refine seq ?_
 refine AW.regU hC  true [] [0, 1] []
  [] []
  [] (by kernel_rfl) ?_ ?_
 · exact trivial
 refine seq (seq (r1U hC [0, 1, 5] [] [(5, sI 0)] [] ?_)); refine lpB (ζ := Int) (fun x => ⟨[(1, sI x)], []⟩) (fun x => True) (fun x => (.inl x)) (α := Int × Nat) (fun x => ⟨[(0, sD7 a), (1, sI x.1), (5, sI ((x.2 : Nat) : Int))], []⟩) (fun x => True) (fun x => (length a) - x.2) (fun k x => heldIntS_l0 a k x.1 x.2) (k0, 0) (by kernel_rfl) ?_ ?_ ?_
 · exact trivial
 ·
  intro x k30q hI0 hk28 e29; obtain ⟨k1, i⟩ := x; refine seq (seq ?_)
  refine AW.regU hC  true [] [0, 1, 5, 9] []
   [(9, sB (decide ((i : Int) < (length a : Int))))] []
   [] (by kernel_rfl) ?_ ?_
  · exact trivial
  refine cdE e29 ?_ ?_
  ·
   intro h31q e32; refine kpU [0, 1, 5] [] [] [] ?_; refine AW.skip (seq (block (seq (seq ?_))))
   refine AW.regU hC  true [] [0, 1, 5, 17] []
    [(17, sB ((getD a i 0) != k1))] []
    [IX (i : Int) (length a : Int)] (by kernel_rfl) ?_ ?_
   ·
    exact ⟨IX.of (by omega), trivial⟩
   refine cdE e32 ?_ ?_
   ·
    intro h33q e34; refine seq ?_
    refine AW.reg hC  true [] [4] []
     ⟨[(4, sI (-1))], []⟩
     [] (by kernel_rfl) ?_ ?_
    · exact trivial
    refine ret ?_; have e35 := e0.trans (elim_r e34); exact rI _ e35
   ·
    intro h36q e37; refine kpU [0, 1, 5] [] [] [] ?_; refine AW.skip ?_
    refine AW.regU hC  true [] [0, 1, 5] []
     [(1, sI (IntKind.wrap .i64 (k1 + 1)))] []
     [] (by kernel_rfl) ?_ ?_
    · exact trivial
    refine r0U hC [0, 1, 5] [] [(5, sI ((i + 1 : Nat) : Int))] [] [R64 ((i + 1 : Nat) : Int)] ?_ ?_
    ·
     exact ⟨R64.of (by omega), trivial⟩
    refine bk ((IntKind.wrap .i64 (k1 + 1)), i + 1) e37 hk28 ?_ ?_
    · assumption
    · omega
  · intro h38q e39; refine kpU [1] [] [] [] ?_; refine exit ?_; refine meet k1 (by kernel_rfl) ⟨?_, e39⟩; assumption
 ·
  intro k1 hJ0 e40; have e41 := e0.trans (elim_l e40); refine seq ?_
  refine AW.reg hC  true [] [4] []
   ⟨[(4, sI k1)], []⟩
   [] (by kernel_rfl) ?_ ?_
  · exact trivial
  exact ret (rI _ e41)

end
end Go.Proofs.Ytodcdgolcbdkgaa
