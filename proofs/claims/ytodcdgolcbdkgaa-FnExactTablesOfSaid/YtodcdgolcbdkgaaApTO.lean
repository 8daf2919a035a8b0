/-
  A part of the proof of this claim (ApTO): what functions of the program compute, and plain facts of that. No conditions.
-/
import Derived.Test.YtodcdgolcbdkgaaApI
import Derived.Test.YtodcdgolcbdkgaaApP
set_option linter.all false
namespace Go.Proofs.Ytodcdgolcbdkgaa
open Go Go.Am
noncomputable section

def WL (ws : List Int) (l : Nat) (p : Pln) : Prop := ∃ f, SizeOf.sizeOf p < f ∧ widthBelow_r f p ws (l : Int) ≠ 0

theorem WL.facts {ws : List Int} {l : Nat} {p : Pln} (h : WL ws l p) : ∃ f, SizeOf.sizeOf p < f + 1 ∧ WF f p ws (l : Int) := by
 obtain ⟨f, h1, h2⟩ := h
 cases f with
 | zero => omega
 | succ f => exact ⟨f, h1, wb_facts h2⟩

theorem WL.kd {ws : List Int} {l : Nat} {p : Pln} (h : WL ws (l + 1) p) {i : Nat} (hi : i < p.Kids.length) : WL ws l (p.Kids.getD i Pln.zero) := by
 obtain ⟨f, h1, h2⟩ := h.facts; have h3 := h2.kids i hi; have h4 := pkid_lt hi; rw [show (((l + 1 : Nat) : Nat) : Int) - 1 = (l : Int) by omega] at h3; exact ⟨f, by omega, h3⟩

theorem WL.kids2 {ws : List Int} {l : Nat} {p : Pln} (h : WL ws l p) : p.Kids.length ≤ 2 := by
 obtain ⟨f, h1, h2⟩ := h.facts; have := h2.of.kids; have := parts2 (Pln.Kind p); omega

theorem WL.flat {ws : List Int} {p : Pln} (h : WL ws 0 p) : p.Kids.length = 0 := by
 obtain ⟨f, h1, h2⟩ := h.facts; refine Decidable.byContradiction fun hn => h2.deep (by omega) rfl

theorem WL.mk' {p : Pln} {ws : List Int} (h : iPlanWidth (Pln.mk (Pln.Kind p) (Pln.Table p) (Pln.Exprs p) (Pln.Cols p) (Pln.Kids p)) ws ≠ 0) : WL ws 8 p := by
 rw [Pln.eta] at h; unfold iPlanWidth at h; rw [Pln.eta] at h
 cases hv : ivalidWidths ws with
 | false => rw [hv] at h; exact absurd rfl h
 | true =>
  rw [hv] at h; exact ⟨_, Nat.lt_succ_self _, h⟩

end
end Go.Proofs.Ytodcdgolcbdkgaa
