/-
  A part of the proof of this claim (ApP): what functions of the program compute, and plain facts of that. No conditions.
-/
import Derived.Test.YtodcdgolcbdkgaaApI
set_option linter.all false
namespace Go.Proofs.Ytodcdgolcbdkgaa
open Go Go.Am
open List (length)
noncomputable section

theorem wb_cond {p : Pln} {l : Int} (hO : OF p) (h3 : p.Kind = 3 → 1 ≤ (p.Exprs.length : Int) ∧ (p.Exprs.length : Int) ≤ 6) (hl : 0 < p.Kids.length → l ≠ 0) :
  (bif (bif ((length (Pln.Kids p) : Int) != ((partsOfKind (Pln.Kind p)).2)) then true else ((length (Pln.Exprs p) : Int) != widthBelow_j0 p)) then true else (bif (decide (0 < ((partsOfKind (Pln.Kind p)).2))) then (l == 0) else false)) = false ∧
  (bif (bif ((Pln.Kind p) != 1) then ((Pln.Table p) != 0) else false) then true else (bif ((Pln.Kind p) != 8) then ((length (Pln.Cols p) : Int) != 0) else false)) = false := by
 have hpc := parts2 (Pln.Kind p); have hOk := hO.kids; have hOe := hO.exprs
 have hc : (bif (decide (0 < ((partsOfKind (Pln.Kind p)).2))) then (l == 0) else false) = false := by
  by_cases h0 : 0 < (partsOfKind (Pln.Kind p)).2
  · rw [decide_eq_true h0, cond_true]; exact beq_false_of_ne (hl (by omega))
  · rw [decide_eq_false h0]; rfl
 have e0 : ((length p.Exprs : Int) != widthBelow_j0 p) = false := by
  by_cases h : p.Kind = 3
  · have hv : validWidth (length p.Exprs : Int) = true := validWidth_iff.2 (h3 h); unfold widthBelow_j0; rw [hv, h]; simp
  ·
   have j0 : widthBelow_j0 p = (partsOfKind p.Kind).1 := by
    unfold widthBelow_j0; rw [show (p.Kind == 3) = false from beq_false_of_ne h]; rfl
   rw [j0, hOe h]; simp
 have a : (bif ((Pln.Kind p) != 1) then ((Pln.Table p) != 0) else false) = false := by
  by_cases h : p.Kind = 1
  · rw [h]; rfl
  · rw [hO.table h]; simp
 have b : (bif ((Pln.Kind p) != 8) then ((length (Pln.Cols p) : Int) != 0) else false) = false := by
  by_cases h : p.Kind = 8
  · rw [h]; rfl
  · rw [hO.cols h]; simp
 rw [e0, hc, a, b, hOk]; simp

theorem wb_mono {ws : List Int} : ∀ (f f' : Nat) (p : Pln) (l l' : Int), SizeOf.sizeOf p < f → SizeOf.sizeOf p < f' → 0 ≤ l → l ≤ l' → widthBelow_r f p ws l ≠ 0 → widthBelow_r f' p ws l' = widthBelow_r f p ws l := by
 intro f
 induction f with
 | zero => intro f' p l l' h; omega
 | succ f ih =>
  intro f' p l l' hf hf' h0 hl hn
  cases f' with
  | zero => omega
  | succ f' =>
   have hw := wb_facts hn; have hpc := parts2 (Pln.Kind p); have hO := hw.of; have hOk := hO.kids; have hc := wb_cond (l := l') hO hw.proj (fun h => by have := hw.deep h; omega); have e : widthBelow_r (f' + 1) p ws l' = widthBelow_r (f' + 1) p ws l' := rfl; (conv at e => rhs; unfold widthBelow_r); simp only [andThen] at e; rw [hc.1, hc.2, cond_false, cond_false] at e; by_cases h1 : p.Kind = 1
   · obtain ⟨s1, s2⟩ := hw.scan h1; rw [show (p.Kind == 1) = true from beq_iff_eq.2 h1, cond_true, decide_eq_false (show ¬ p.Table < 0 by omega), decide_eq_false (show ¬ (ws.length : Int) ≤ p.Table by omega)] at e; rw [e, s2]; rfl
   ·
    rw [show (p.Kind == 1) = false from beq_false_of_ne h1, cond_false] at e
    have hk : ∀ i, i < p.Kids.length → widthBelow_r f' (p.Kids.getD i Pln.zero) ws (l' - 1) = widthBelow_r f (p.Kids.getD i Pln.zero) ws (l - 1) := fun i hi => by
     have hlt := pkid_lt hi; have := hw.deep (by omega); exact ih f' _ _ _ (by omega) (by omega) (by omega) (by omega) (hw.kids i hi)
    by_cases h2 : p.Kids.length = 2
    · rw [wb2 _ _ _ _ h2, hk 0 (by omega), hk 1 (by omega), show (widthBelow_r f (p.Kids.getD 0 Pln.zero) ws (l - 1) == 0) = false from beq_false_of_ne (hw.kids 0 (by omega)), show (widthBelow_r f (p.Kids.getD 1 Pln.zero) ws (l - 1) == 0) = false from beq_false_of_ne (hw.kids 1 (by omega))] at e; rw [e, hw.two h2]; rfl
    ·
     have hn1 : p.Kids.length = 1 := by
      have := hO.kind; omega
     rw [wb1 _ _ _ _ hn1, hk 0 (by omega), show (widthBelow_r f (p.Kids.getD 0 Pln.zero) ws (l - 1) == 0) = false from beq_false_of_ne (hw.kids 0 (by omega))] at e; rw [e, hw.one hn1]; rfl

def PVw (ws : List Int) (p : Pln) : Prop := VW ws ∧ ∃ f l, SizeOf.sizeOf p < f ∧ (0 ≤ l ∧ l ≤ 8) ∧ widthBelow_r f p ws l ≠ 0

theorem PVw.mk' {p : Pln} {ws : List Int} (h : widthOf p ws ≠ 0) : PVw ws p := by
 rw [← iPlanWidth_eq] at h; unfold iPlanWidth at h; rw [Pln.eta] at h
 cases hv : ivalidWidths ws with
 | false => rw [hv] at h; exact absurd rfl h
 | true =>
  rw [hv] at h; exact ⟨ivalidWidths_iff.1 hv, _, 8, Nat.lt_succ_self _, ⟨by decide, by decide⟩, h⟩

theorem PVw.pvn {p : Pln} {ws : List Int} (h : PVw ws p) : PVn ws.length p := by
 obtain ⟨_, f, l, h1, _, h3⟩ := h; exact ⟨ws, f, l, rfl, h1, h3⟩

theorem PVw.kid {p : Pln} {ws : List Int} (h : PVw ws p) {i : Nat} (hi : i < p.Kids.length) : PVw ws (p.Kids.getD i Pln.zero) := by
 obtain ⟨hv, f, l, h1, h2, h3⟩ := h
 cases f with
 | zero => omega
 | succ f =>
  have hw := wb_facts h3; have := pkid_lt hi; have := hw.deep (by omega); exact ⟨hv, f, l - 1, by omega, by omega, hw.kids i hi⟩

theorem PVw.width {p : Pln} {ws : List Int} (h : PVw ws p) : widthOf p ws ≠ 0 ∧ ∀ f l, SizeOf.sizeOf p < f → 0 ≤ l → l ≤ 8 → widthBelow_r f p ws l ≠ 0 → widthOf p ws = widthBelow_r f p ws l := by
 have key : ∀ f l, SizeOf.sizeOf p < f → 0 ≤ l → l ≤ 8 → widthBelow_r f p ws l ≠ 0 → widthOf p ws = widthBelow_r f p ws l := fun f l h1 h2 h3 h4 => by
  rw [← iPlanWidth_eq]; unfold iPlanWidth; rw [Pln.eta, ivalidWidths_iff.2 h.1]; exact wb_mono f _ p l 8 h1 (Nat.lt_succ_self _) h2 h3 h4
 obtain ⟨hv, f, l, h1, h2, h3⟩ := h; refine ⟨?_, key⟩; rw [key f l h1 h2.1 h2.2 h3]; exact h3

theorem PVw.over {p : Pln} {ws : List Int} (h : PVw ws p) (h1 : p.Kind ≠ 1) :
  (p.Kids.length = 1 → widthOf p ws = widthOver p (widthOf (p.Kids.getD 0 Pln.zero) ws) 0) ∧
  (p.Kids.length = 2 → widthOf p ws = widthOver p (widthOf (p.Kids.getD 0 Pln.zero) ws) (widthOf (p.Kids.getD 1 Pln.zero) ws)) := by
 have hw' := h.width; have h' := h; obtain ⟨hv, f, l, k1, k2, k3⟩ := h'
 cases f with
 | zero => omega
 | succ f =>
  have hw := wb_facts k3; have e := hw'.2 _ _ k1 k2.1 k2.2 k3
  have hk : ∀ i, i < p.Kids.length → widthOf (p.Kids.getD i Pln.zero) ws = widthBelow_r f (p.Kids.getD i Pln.zero) ws (l - 1) := fun i hi => by
   have := pkid_lt hi; have := hw.deep (by omega); exact (h.kid hi).width.2 f (l - 1) (by omega) (by omega) (by omega) (hw.kids i hi)
  exact ⟨fun h1 => by rw [e, hk 0 (by omega)]; exact hw.one h1, fun h2 => by rw [e, hk 0 (by omega), hk 1 (by omega)]; exact hw.two h2⟩

theorem PVw.scan {p : Pln} {ws : List Int} (h : PVw ws p) (h1 : p.Kind = 1) : widthOf p ws = ws.getD p.Table.toNat 0 := by
 have hw' := h.width; obtain ⟨hv, f, l, k1, k2, k3⟩ := h
 cases f with
 | zero => omega
 | succ f =>
  rw [hw'.2 _ _ k1 k2.1 k2.2 k3]; exact ((wb_facts k3).scan h1).2

theorem PVw.exprs {p : Pln} {ws : List Int} (h : PVw ws p) :
  (p.Kind = 2 ∨ p.Kind = 3 → allv p (widthOf (p.Kids.getD 0 Pln.zero) ws) = true) ∧
  (p.Kind = 4 ∨ p.Kind = 5 → allv p (widthOf (p.Kids.getD 0 Pln.zero) ws + widthOf (p.Kids.getD 1 Pln.zero) ws) = true) := by
 obtain ⟨hO, -, -⟩ := h.pvn.of; have hpc := parts2 (Pln.Kind p); have hOk := hO.kids; have hn := h.width.1; constructor
 ·
  intro hk; have e := (h.over (by omega)).1 (by omega); rw [e] at hn; rcases hk with hk | hk
  ·
   rw [wo_else _ _ (.inl hk)] at hn
   cases hv : allv p (widthOf (p.Kids.getD 0 Pln.zero) ws) with
   | true => rfl
   | false => rw [hv] at hn; exact absurd rfl hn
  ·
   rw [wo_project _ _ hk] at hn
   cases hv : allv p (widthOf (p.Kids.getD 0 Pln.zero) ws) with
   | true => rfl
   | false => rw [hv] at hn; exact absurd rfl hn
 ·
  intro hk; have e := (h.over (by omega)).2 (by omega); rw [e, wo_join _ _ hk] at hn
  cases hv : allv p (widthOf (p.Kids.getD 0 Pln.zero) ws + widthOf (p.Kids.getD 1 Pln.zero) ws) with
  | true => rfl
  | false =>
   rw [hv] at hn; exfalso; cases hd : decide (6 < widthOf (p.Kids.getD 0 Pln.zero) ws + widthOf (p.Kids.getD 1 Pln.zero) ws) <;> rw [hd] at hn <;> exact hn rfl

end
end Go.Proofs.Ytodcdgolcbdkgaa
