/-
  A part of the proof of this claim (ApE): what functions of the program compute, and plain facts of that. No conditions.
-/
import Derived.Test.YtodcdgolcbdkgaaApC
set_option linter.all false
namespace Go.Proofs.Ytodcdgolcbdkgaa
open Go Go.Am
open Go.Am.AW (seq r1U ret kpU cdE r0U r1 meet rI block bk exit lpB r0 cutQ cd)
open List (length getD set replicate)
noncomputable section

structure VW (ws : List Int) : Prop where
 n1 : 1 ≤ ws.length
 n4 : ws.length ≤ 4
 w6 : ∀ j, j < ws.length → 1 ≤ ws.getD j 0 ∧ ws.getD j 0 ≤ 6

theorem validWidths_iff {ws : List Int} : validWidths ws = true ↔ VW ws := by
 unfold validWidths; rw [loop_iff (validWidths_l0 ws) ws.length (fun i => inRange (getD ws i 0) 1 6) _ (fun k i => rfl), inRange_iff]; exact ⟨fun h => ⟨by omega, by omega, fun j hj => inRange_iff.1 (h.2 j hj)⟩, fun h => ⟨by have := h.n1; have := h.n4; omega, fun j hj => inRange_iff.2 (h.w6 j hj)⟩⟩

theorem ivalidWidths_iff {ws : List Int} : ivalidWidths ws = true ↔ VW ws := by
 unfold ivalidWidths; rw [bif_false_iff, loop_iff (ivalidWidths_l0 ws) ws.length (fun i => validWidth (getD ws i 0)) _ (fun k i => rfl)]; constructor
 · rintro ⟨h1, -, h2⟩; rw [Bool.not_eq_true] at h1; have h1 := or_neg h1; have a := of_decide_eq_false h1.1; have b := of_decide_eq_false h1.2; exact ⟨by omega, by omega, fun j hj => validWidth_iff.1 (h2 j hj)⟩
 · rintro ⟨h1, h2, h3⟩; refine ⟨?_, rfl, fun j hj => validWidth_iff.2 (h3 j hj)⟩; rw [decide_eq_false (show ¬ (ws.length : Int) < 1 by omega), decide_eq_false (show ¬ (4 : Int) < (ws.length : Int) by omega)]; simp

theorem pkid_lt {t : Pln} {i : Nat} (h : i < t.Kids.length) : SizeOf.sizeOf (t.Kids.getD i Pln.zero) < SizeOf.sizeOf t := by
 cases t with
 | mk a b c d ks =>
  have := List.sizeOf_lt_of_mem (getD_mem ks i Pln.zero h); simp only [Pln.mk.sizeOf_spec, Pln.Kids] at *; omega

theorem parts_cases (k : Int) : (k = 1 ∧ partsOfKind k = (0, 0)) ∨ ((k = 2 ∨ k = 3) ∧ partsOfKind k = (1, 1)) ∨ ((k = 4 ∨ k = 5) ∧ partsOfKind k = (1, 2)) ∨ (k = 6 ∧ partsOfKind k = (0, 2)) ∨ ((k = 7 ∨ k = 8) ∧ partsOfKind k = (0, 1)) ∨ ((k < 1 ∨ 8 < k) ∧ partsOfKind k = (0, -1)) := by
 by_cases h : 1 ≤ k ∧ k ≤ 8
 · (have : k = 1 ∨ k = 2 ∨ k = 3 ∨ k = 4 ∨ k = 5 ∨ k = 6 ∨ k = 7 ∨ k = 8 := by omega); rcases this with rfl | rfl | rfl | rfl | rfl | rfl | rfl | rfl <;> decide
 · refine .inr (.inr (.inr (.inr (.inr ⟨by omega, ?_⟩)))); (have e : ∀ j : Int, 1 ≤ j → j ≤ 8 → (k == j) = false := fun j h1 h2 => by simp; omega); unfold partsOfKind partsOfKind_j0 partsOfKind_j1 partsOfKind_j2; simp only [andThen, e 1 (by decide) (by decide), e 2 (by decide) (by decide), e 3 (by decide) (by decide), e 4 (by decide) (by decide), e 5 (by decide) (by decide), e 6 (by decide) (by decide), e 7 (by decide) (by decide), e 8 (by decide) (by decide), cond_false]

theorem parts2 (k : Int) : (k = 1 ∧ (partsOfKind k).1 = 0 ∧ (partsOfKind k).2 = 0) ∨ ((k = 2 ∨ k = 3) ∧ (partsOfKind k).1 = 1 ∧ (partsOfKind k).2 = 1) ∨ ((k = 4 ∨ k = 5) ∧ (partsOfKind k).1 = 1 ∧ (partsOfKind k).2 = 2) ∨ (k = 6 ∧ (partsOfKind k).1 = 0 ∧ (partsOfKind k).2 = 2) ∨ ((k = 7 ∨ k = 8) ∧ (partsOfKind k).1 = 0 ∧ (partsOfKind k).2 = 1) ∨ ((k < 1 ∨ 8 < k) ∧ (partsOfKind k).1 = 0 ∧ (partsOfKind k).2 = -1) := by
 rcases parts_cases k with ⟨h, e⟩ | ⟨h, e⟩ | ⟨h, e⟩ | ⟨h, e⟩ | ⟨h, e⟩ | ⟨h, e⟩
 · exact .inl ⟨h, by rw [e], by rw [e]⟩
 · exact .inr (.inl ⟨h, by rw [e], by rw [e]⟩)
 · exact .inr (.inr (.inl ⟨h, by rw [e], by rw [e]⟩))
 · exact .inr (.inr (.inr (.inl ⟨h, by rw [e], by rw [e]⟩)))
 · exact .inr (.inr (.inr (.inr (.inl ⟨h, by rw [e], by rw [e]⟩))))
 · exact .inr (.inr (.inr (.inr (.inr ⟨h, by rw [e], by rw [e]⟩))))

def allv (p : Pln) (w : Int) : Bool := p.Exprs.all fun e => ValidExpr e w

theorem allv_iff {p : Pln} {w : Int} : allv p w = true ↔ ∀ j, j < p.Exprs.length → ValidExpr (p.Exprs.getD j Xpr.zero) w = true := by
 unfold allv; rw [List.all_eq_true]; exact (forall_getD (l := p.Exprs) (d := Xpr.zero) (p := fun e => ValidExpr e w = true)).symm

theorem loopv (p : Pln) (w r : Int) : Sum.elim (fun _ => r) (fun r => r) (widthOver_l0 p w ((length (Pln.Exprs p)) - 0 + 1) 0) = bif allv p w then r else 0 := by
 rcases all_loopG 0 (widthOver_l0 p w) p.Exprs.length (fun i => !(iValidExpr (getD p.Exprs i Xpr.zero) w)) (fun k i => rfl) (p.Exprs.length - 0 + 1) 0 (by omega) with ⟨h1, h2⟩ | ⟨h1, j, h2, h3, h4⟩
 · rw [h1, allv_iff.2 fun j hj => by rw [← ValidExpr_same]; exact not_neg (h2 j (by omega) hj)]; rfl
 ·
  have : allv p w = false := by
   rw [Bool.eq_false_iff]; intro h; have := allv_iff.1 h j h3; rw [ValidExpr_same, this] at h4; cases h4
  rw [h1, this]; rfl

theorem wo_join {p : Pln} (a b : Int) (h : p.Kind = 4 ∨ p.Kind = 5) : widthOver p a b = bif decide (6 < a + b) then 0 else (bif allv p (a + b) then a + b else 0) := by
 unfold widthOver widthOver_j0 widthOver_j2; rcases h with h | h <;> rw [h] <;> simp only [andThen, Int.reduceBEq, cond_true, cond_false] <;> cases decide (6 < a + b) <;> simp only [cond_true, cond_false, Sum.elim_inr, Sum.elim_inl, loopv]

theorem wo_union {p : Pln} (a b : Int) (h : p.Kind = 6) : widthOver p a b = bif a != b then 0 else (bif allv p a then a else 0) := by
 unfold widthOver widthOver_j0 widthOver_j2 widthOver_j1; rw [h]; simp only [andThen, Int.reduceBEq, cond_true, cond_false]; cases (a != b) <;> simp only [cond_true, cond_false, Sum.elim_inr, Sum.elim_inl, loopv]

theorem wo_group {p : Pln} (a b : Int) (h : p.Kind = 8) : widthOver p a b = bif validGroupColumns p.Cols a then ((p.Cols.length + 1 : Nat) : Int) else 0 := by
 unfold widthOver widthOver_j0 widthOver_j2 widthOver_j1; rw [h]; simp only [andThen, Int.reduceBEq, cond_true, cond_false]; cases validGroupColumns p.Cols a <;> simp only [Bool.not_true, Bool.not_false, cond_true, cond_false, Sum.elim_inr, Sum.elim_inl]

theorem wo_project {p : Pln} (a b : Int) (h : p.Kind = 3) : widthOver p a b = bif allv p a then (p.Exprs.length : Int) else 0 := by
 unfold widthOver widthOver_j0 widthOver_j2 widthOver_j1; rw [h]; simp only [andThen, Int.reduceBEq, cond_true, cond_false, Sum.elim_inl, loopv]

theorem wo_else {p : Pln} (a b : Int) (h : p.Kind = 2 ∨ p.Kind = 7) : widthOver p a b = bif allv p a then a else 0 := by
 unfold widthOver widthOver_j0 widthOver_j2 widthOver_j1; rcases h with h | h <;> rw [h] <;> simp only [andThen, Int.reduceBEq, cond_true, cond_false, Sum.elim_inl, loopv]

theorem widthOver_b {p : Pln} {a b : Int} (hk : 2 ≤ p.Kind ∧ p.Kind ≤ 8) (h3 : p.Kind = 3 → (p.Exprs.length : Int) ≤ 6) (ha : 0 ≤ a ∧ a ≤ 6) (hb : 0 ≤ b ∧ b ≤ 6) : 0 ≤ widthOver p a b ∧ widthOver p a b ≤ 6 := by
 by_cases h : p.Kind = 4 ∨ p.Kind = 5
 ·
  rw [wo_join a b h]; by_cases h6 : 6 < a + b
  · rw [decide_eq_true h6]; simp
  · rw [decide_eq_false h6]; cases allv p (a + b) <;> simp only [cond_true, cond_false] <;> omega
 ·
  by_cases h' : p.Kind = 6
  · rw [wo_union a b h']; cases (a != b) <;> cases allv p a <;> simp only [cond_true, cond_false] <;> omega
  ·
   by_cases h8 : p.Kind = 8
   ·
    rw [wo_group a b h8]
    cases hv : validGroupColumns p.Cols a with
    | true =>
     have := vgc_len hv; simp only [cond_true]; omega
    | false => simp
   ·
    by_cases hp : p.Kind = 3
    · rw [wo_project a b hp]; have := h3 hp; cases allv p a <;> simp only [cond_true, cond_false] <;> omega
    · rw [wo_else a b (by omega)]; cases allv p a <;> simp only [cond_true, cond_false] <;> omega

theorem ar_set {ar : List Int} {i : Nat} {x : Int} (h : length ar = 2 ∧ ∀ j, 0 ≤ getD ar j 0 ∧ getD ar j 0 ≤ 6) (hx : 0 ≤ x ∧ x ≤ 6) :
  length (set ar i x) = 2 ∧ ∀ j, 0 ≤ getD (set ar i x) j 0 ∧ getD (set ar i x) j 0 ≤ 6 := by
 refine ⟨by rw [List.length_set]; exact h.1, fun j => ?_⟩; by_cases hj : j < ar.length
 ·
  rw [getD_set_int _ _ _ _ hj]; split
  · exact hx
  · exact h.2 j
 · rw [List.getD_eq_getElem?_getD, List.getElem?_eq_none (by rw [List.length_set]; omega)]; simp

theorem ar_new : length (replicate 2 0 : List Int) = 2 ∧ ∀ j, 0 ≤ getD (replicate 2 0 : List Int) j 0 ∧ getD (replicate 2 0 : List Int) j 0 ≤ 6 := by
 refine ⟨rfl, fun j => ?_⟩
 match j with
 | 0 | 1 | _ + 2 => simp

def widthBelow_j0 (p : Pln) : Int :=
 (bif (bif ((Pln.Kind p) == 3) then (validWidth (length (Pln.Exprs p) : Int)) else false) then (length (Pln.Exprs p) : Int) else ((partsOfKind (Pln.Kind p)).1))

def widthBelow_l0 (self : Pln → (List Int) → Int → Int) (p : Pln) (ws : List Int) (levels : Int) : Nat → Nat → (List Int) → (List Int) ⊕ Int
 | 0, v119, ar36 => .inl ar36
 | k + 1, v119, ar36 => (bif (decide ((v119 : Int) < (length (Pln.Kids p) : Int))) then (bif ((getD (set ar36 v119 (self (getD (Pln.Kids p) v119 Pln.zero) ws (levels - 1))) v119 0) == 0) then (.inr 0) else (widthBelow_l0 self p ws levels k (v119 + 1) (set ar36 v119 (self (getD (Pln.Kids p) v119 Pln.zero) ws (levels - 1))))) else (.inl ar36))

def widthBelow_r : Nat → Pln → (List Int) → Int → Int
 | 0, p, ws, levels => 0
 | fuel + 1, p, ws, levels => (andThen (widthBelow_j0 p) (fun z => (fun (exprs : Int) => (bif (bif (bif ((length (Pln.Kids p) : Int) != ((partsOfKind (Pln.Kind p)).2)) then true else ((length (Pln.Exprs p) : Int) != exprs)) then true else (bif (decide (0 < ((partsOfKind (Pln.Kind p)).2))) then (levels == 0) else false)) then 0 else (bif (bif (bif ((Pln.Kind p) != 1) then ((Pln.Table p) != 0) else false) then true else (bif ((Pln.Kind p) != 8) then ((length (Pln.Cols p) : Int) != 0) else false)) then 0 else (bif ((Pln.Kind p) == 1) then (bif (bif (decide ((Pln.Table p) < 0)) then true else (decide ((length ws : Int) ≤ (Pln.Table p)))) then 0 else (getD ws (Int.toNat (Pln.Table p)) 0)) else (Sum.elim (fun z => (fun (ar36 : List Int) => (widthOver p (getD ar36 0 0) (getD ar36 1 0))) z) (fun r => r) (widthBelow_l0 (widthBelow_r fuel) p ws levels ((length (Pln.Kids p)) - 0 + 1) 0 (replicate 2 0))))))) z))

def widthBelow (p : Pln) (ws : List Int) (levels : Int) : Int := widthBelow_r (SizeOf.sizeOf p + 1) p ws levels

def widthBelow_spn (fuel : Nat) : FnSpec := mkSpec [.rd (.named 2), .val (.slice (.int .i64)), .val (.int .i64)] [.val (.int .i64)] (fun (p : Pln) (ws : List Int) (levels : Int) => (VW ws ∧ (0 ≤ levels ∧ levels ≤ 8)) ∧ SizeOf.sizeOf p < fuel) (fun (p : Pln) (ws : List Int) (levels : Int) => [⟨(.int .i64), (widthBelow_r fuel p ws levels)⟩])

def widthBelow_sp : FnSpec := mkSpec [.rd (.named 2), .val (.slice (.int .i64)), .val (.int .i64)] [.val (.int .i64)] (fun (p : Pln) (ws : List Int) (levels : Int) => VW ws ∧ (0 ≤ levels ∧ levels ≤ 8)) (fun (p : Pln) (ws : List Int) (levels : Int) => [⟨(.int .i64), (widthBelow p ws levels)⟩])

theorem widthBelow_b {ws : List Int} (hw : VW ws) : ∀ (f : Nat) (p : Pln) (l : Int), 0 ≤ widthBelow_r f p ws l ∧ widthBelow_r f p ws l ≤ 6 := by
 intro f
 induction f with
 | zero => intro p l; exact ⟨by show (0 : Int) ≤ 0; decide, by show (0 : Int) ≤ 6; decide⟩
 | succ f ih =>
  intro p l; have hpc := parts2 (Pln.Kind p); unfold widthBelow_r; simp only [andThen]
  cases h1 : (bif (bif ((length (Pln.Kids p) : Int) != ((partsOfKind (Pln.Kind p)).2)) then true else ((length (Pln.Exprs p) : Int) != widthBelow_j0 p)) then true else (bif (decide (0 < ((partsOfKind (Pln.Kind p)).2))) then (l == 0) else false)) with
  | true => simp
  | false =>
   rw [cond_false]; have h1 := (or_neg h1).1; have h1 := or_neg h1; have k1 := bne_neg h1.1; have k2 := bne_neg h1.2
   cases h2 : (bif (bif ((Pln.Kind p) != 1) then ((Pln.Table p) != 0) else false) then true else (bif ((Pln.Kind p) != 8) then ((length (Pln.Cols p) : Int) != 0) else false)) with
   | true => simp
   | false =>
    rw [cond_false]; by_cases hk : p.Kind = 1
    ·
     rw [show (p.Kind == 1) = true by simp [hk], cond_true]
     cases h3 : (bif (decide ((Pln.Table p) < 0)) then true else (decide ((length ws : Int) ≤ (Pln.Table p)))) with
     | true => simp
     | false =>
      have h3 := or_neg h3; have b1 := of_decide_eq_false h3.1; have b2 := of_decide_eq_false h3.2; have := hw.w6 p.Table.toNat (by omega); rw [cond_false]; omega
    ·
     rw [show (p.Kind == 1) = false by simp [hk], cond_false]
     have h3 : p.Kind = 3 → (p.Exprs.length : Int) ≤ 6 := fun h3 => by
      unfold widthBelow_j0 at k2; rw [h3] at k2; simp only [Int.reduceBEq, cond_true] at k2
      cases hv : validWidth (length p.Exprs : Int) with
      | true => exact (validWidth_iff.1 hv).2
      | false =>
       rw [hv, cond_false] at k2; (have : (partsOfKind 3).1 = 1 := by decide); omega
     have key : ∀ (k v : Nat) (ar : List Int), (length ar = 2 ∧ ∀ j, 0 ≤ getD ar j 0 ∧ getD ar j 0 ≤ 6) →
       0 ≤ Sum.elim (fun z => (fun (ar36 : List Int) => (widthOver p (getD ar36 0 0) (getD ar36 1 0))) z) (fun r => r) (widthBelow_l0 (widthBelow_r f) p ws l k v ar) ∧
       Sum.elim (fun z => (fun (ar36 : List Int) => (widthOver p (getD ar36 0 0) (getD ar36 1 0))) z) (fun r => r) (widthBelow_l0 (widthBelow_r f) p ws l k v ar) ≤ 6 := by
      intro k
      induction k with
      | zero => intro v ar ha; exact widthOver_b (by omega) h3 (ha.2 0) (ha.2 1)
      | succ k ihk =>
       intro v ar ha; unfold widthBelow_l0
       cases decide ((v : Int) < (length (Pln.Kids p) : Int)) with
       | false => exact widthOver_b (by omega) h3 (ha.2 0) (ha.2 1)
       | true =>
        rw [cond_true]
        cases ((getD (set ar v (widthBelow_r f (getD (Pln.Kids p) v Pln.zero) ws (l - 1))) v 0) == 0) with
        | true => simp
        | false =>
         rw [cond_false]; exact ihk _ _ (ar_set ha (ih _ _))
     exact key _ _ _ ar_new

theorem widthBelow_okn (fuel : Nat) : FnOK Try.prog 95 (widthBelow_spn fuel) := by
 induction fuel with
 | zero => exact FnOK.never Try.func95 (by kernel_rfl) rfl (fun _ _ _ h => absurd h.2 (Nat.not_lt_zero _))
 | succ fuel ih => ?_
 have hC : CtxOK Try.prog (mkCtx tyL [(95, (widthBelow_spn fuel)), (123, validWidth_sp), (124, partsOfKind_sp), (125, widthOver_sp)]) := CtxOK.cons ih (CtxOK.cons validWidth_ok (CtxOK.cons partsOfKind_ok (CtxOK.cons widthOver_ok (CtxOK.nil tyOK)))); have hM : Try.prog.follows .mixedOrders = true := Try.checked.mixed; refine FnOK.of_body Try.func95 (by kernel_rfl) rfl (C := (mkCtx tyL [(95, (widthBelow_spn fuel)), (123, validWidth_sp), (124, partsOfKind_sp), (125, widthOver_sp)])) hC.ty (by kernel_rfl) ?_; intro (p : Pln) (ws : List Int) (levels : Int) hwf hpre E; have hpre : (VW ws ∧ (0 ≤ levels ∧ levels ≤ 8)) ∧ SizeOf.sizeOf p < fuel + 1 := hpre; have hpc := parts2 (Pln.Kind p); have e0 : widthBelow_r (fuel + 1) p ws levels = widthBelow_r (fuel + 1) p ws levels := rfl; refine seq (r1U hC [0, 1, 2] [] [] [] ?_); refine seq (r0U hC [0, 1, 2, 7, 8] [] [(7, sI ((partsOfKind (Pln.Kind p)).1)), (8, sI ((partsOfKind (Pln.Kind p)).2))] [] [(True)] ?_ ?_)
 ·
  exact ⟨trivial, trivial⟩
 refine seq (seq (r0U hC [0, 1, 2, 7, 8, 31] [] [(31, sB (bif ((Pln.Kind p) == 3) then (validWidth (length (Pln.Exprs p) : Int)) else false))] [] [((((Pln.Kind p) == 3) = true) → ((((Pln.Kind p) == 3) = true))), ((((Pln.Kind p) == 3) = true) → ((((Pln.Kind p) == 3) = true))), ((((Pln.Kind p) == 3) = true) → ((((Pln.Kind p) == 3) = true))), ((((Pln.Kind p) == 3) = true) → ((((Pln.Kind p) == 3) = true))), ((((Pln.Kind p) == 3) = true) → ((((Pln.Kind p) == 3) = true))), ((((Pln.Kind p) == 3) = true) → (True)), ((((Pln.Kind p) == 3) = true) → ((((Pln.Kind p) == 3) = true)))] ?_ ?_))
 ·
  exact ⟨(by intro g1; assumption), (by intro g2; assumption), (by intro g3; assumption), (by intro g4; assumption), (by intro g5; assumption), (by intro g6; trivial), (by intro g7; assumption), trivial⟩
 refine cutQ (α := Int) (fun x => ⟨[(0, sR4 p), (1, sD7 ws), (2, sI levels), (7, sI x), (8, sI ((partsOfKind (Pln.Kind p)).2))], []⟩) (fun x => (True) ∧ (widthBelow_j0 p) = x) ?_ ?_
 ·
  skip; have e16 : (widthBelow_j0 p) = (widthBelow_j0 p) := rfl; refine cd (bif ((Pln.Kind p) == 3) then (validWidth (length (Pln.Exprs p) : Int)) else false) ?_ ?_
  · intro h17; have h17q : ((Pln.Kind p) = 3) ∧ ((validWidth (length (Pln.Exprs p) : Int)) = true) := (And.imp (fun h => (beq_pos h)) (fun h => h) (and_pos h17)); have e18 := e16.trans (bif_t h17); refine r1U hC [0, 1, 2, 7, 8] [] [(7, sI (length (Pln.Exprs p) : Int))] [] ?_; refine meet (length (Pln.Exprs p) : Int) (by kernel_rfl) ⟨?_, e18⟩; exact trivial
  · intro h19; have h19q : ((Pln.Kind p) ≠ 3) ∨ ((validWidth (length (Pln.Exprs p) : Int)) = false) := (Or.imp (fun h => (beq_neg h)) (fun h => h) (and_neg h19)); have e20 := e16.trans (bif_f h19); refine kpU [0, 1, 2, 7, 8] [] [] [] ?_; refine AW.skip ?_; refine meet ((partsOfKind (Pln.Kind p)).1) (by kernel_rfl) ⟨?_, e20⟩; exact trivial
 ·
  intro exprs hR; obtain ⟨hM0, e21⟩ := hR; replace hM0 : True := hM0; have e22 := e0.trans (then_eq e21); refine seq (seq (r0U hC [0, 1, 2, 60] [] [(60, sB (bif (bif ((length (Pln.Kids p) : Int) != ((partsOfKind (Pln.Kind p)).2)) then true else ((length (Pln.Exprs p) : Int) != exprs)) then true else (bif (decide (0 < ((partsOfKind (Pln.Kind p)).2))) then (levels == 0) else false)))] [] [((((length (Pln.Kids p) : Int) != ((partsOfKind (Pln.Kind p)).2)) = false) → ((((length (Pln.Kids p) : Int) != ((partsOfKind (Pln.Kind p)).2)) = false))), ((((length (Pln.Kids p) : Int) != ((partsOfKind (Pln.Kind p)).2)) = false) → ((((length (Pln.Kids p) : Int) != ((partsOfKind (Pln.Kind p)).2)) = false))), ((((length (Pln.Kids p) : Int) != ((partsOfKind (Pln.Kind p)).2)) = false) → ((((length (Pln.Kids p) : Int) != ((partsOfKind (Pln.Kind p)).2)) = false))), ((((length (Pln.Kids p) : Int) != ((partsOfKind (Pln.Kind p)).2)) = false) → ((((length (Pln.Kids p) : Int) != ((partsOfKind (Pln.Kind p)).2)) = false))), ((((length (Pln.Kids p) : Int) != ((partsOfKind (Pln.Kind p)).2)) = false) → ((((length (Pln.Kids p) : Int) != ((partsOfKind (Pln.Kind p)).2)) = false))), ((((length (Pln.Kids p) : Int) != ((partsOfKind (Pln.Kind p)).2)) = false) → ((((length (Pln.Kids p) : Int) != ((partsOfKind (Pln.Kind p)).2)) = false))), ((((length (Pln.Kids p) : Int) != ((partsOfKind (Pln.Kind p)).2)) = false) → ((((length (Pln.Kids p) : Int) != ((partsOfKind (Pln.Kind p)).2)) = false))), (((bif ((length (Pln.Kids p) : Int) != ((partsOfKind (Pln.Kind p)).2)) then true else ((length (Pln.Exprs p) : Int) != exprs)) = false) → (((bif ((length (Pln.Kids p) : Int) != ((partsOfKind (Pln.Kind p)).2)) then true else ((length (Pln.Exprs p) : Int) != exprs)) = false))), (((bif ((length (Pln.Kids p) : Int) != ((partsOfKind (Pln.Kind p)).2)) then true else ((length (Pln.Exprs p) : Int) != exprs)) = false) → (((bif ((length (Pln.Kids p) : Int) != ((partsOfKind (Pln.Kind p)).2)) then true else ((length (Pln.Exprs p) : Int) != exprs)) = false))), ((((bif ((length (Pln.Kids p) : Int) != ((partsOfKind (Pln.Kind p)).2)) then true else ((length (Pln.Exprs p) : Int) != exprs)) = false) ∧ ((decide (0 < ((partsOfKind (Pln.Kind p)).2))) = true)) → ((((bif ((length (Pln.Kids p) : Int) != ((partsOfKind (Pln.Kind p)).2)) then true else ((length (Pln.Exprs p) : Int) != exprs)) = false) ∧ ((decide (0 < ((partsOfKind (Pln.Kind p)).2))) = true)))), (((bif ((length (Pln.Kids p) : Int) != ((partsOfKind (Pln.Kind p)).2)) then true else ((length (Pln.Exprs p) : Int) != exprs)) = false) → (((bif ((length (Pln.Kids p) : Int) != ((partsOfKind (Pln.Kind p)).2)) then true else ((length (Pln.Exprs p) : Int) != exprs)) = false))), (((bif ((length (Pln.Kids p) : Int) != ((partsOfKind (Pln.Kind p)).2)) then true else ((length (Pln.Exprs p) : Int) != exprs)) = false) → (((decide (0 < ((partsOfKind (Pln.Kind p)).2))) = true) → ((((bif ((length (Pln.Kids p) : Int) != ((partsOfKind (Pln.Kind p)).2)) then true else ((length (Pln.Exprs p) : Int) != exprs)) = false) ∧ ((decide (0 < ((partsOfKind (Pln.Kind p)).2))) = true))))), (((bif ((length (Pln.Kids p) : Int) != ((partsOfKind (Pln.Kind p)).2)) then true else ((length (Pln.Exprs p) : Int) != exprs)) = false) → (((bif ((length (Pln.Kids p) : Int) != ((partsOfKind (Pln.Kind p)).2)) then true else ((length (Pln.Exprs p) : Int) != exprs)) = false)))] ?_ ?_))
  ·
   exact ⟨(by intro g23; assumption), (by intro g24; assumption), (by intro g25; assumption), (by intro g26; assumption), (by intro g27; assumption), (by intro g28; assumption), (by intro g29; assumption), (by intro g30; assumption), (by intro g31; assumption), (by intro g32; assumption), (by intro g33; assumption), (by intro g34; intro g35; exact ⟨by assumption, by assumption⟩), (by intro g36; assumption), trivial⟩
  refine cdE e22 ?_ ?_
  · intro h42q e43; refine seq (r1 hC [6] [] ⟨[(6, sI 0)], []⟩ ?_); exact ret (rI 0 e43)
  ·
   intro h44q e45; refine kpU [0, 1, 2] [] [] [] ?_; refine AW.skip (seq (seq (r0U hC [0, 1, 2, 87] [] [(87, sB (bif (bif ((Pln.Kind p) != 1) then ((Pln.Table p) != 0) else false) then true else (bif ((Pln.Kind p) != 8) then ((length (Pln.Cols p) : Int) != 0) else false)))] [] [((((Pln.Kind p) != 1) = true) → ((((Pln.Kind p) != 1) = true))), ((((Pln.Kind p) != 1) = true) → ((((Pln.Kind p) != 1) = true))), ((((Pln.Kind p) != 1) = true) → ((((Pln.Kind p) != 1) = true))), ((((Pln.Kind p) != 1) = true) → ((((Pln.Kind p) != 1) = true))), ((((Pln.Kind p) != 1) = true) → ((((Pln.Kind p) != 1) = true))), (((bif ((Pln.Kind p) != 1) then ((Pln.Table p) != 0) else false) = false) → (((bif ((Pln.Kind p) != 1) then ((Pln.Table p) != 0) else false) = false))), (((bif ((Pln.Kind p) != 1) then ((Pln.Table p) != 0) else false) = false) → (((bif ((Pln.Kind p) != 1) then ((Pln.Table p) != 0) else false) = false))), (((bif ((Pln.Kind p) != 1) then ((Pln.Table p) != 0) else false) = false) → (((bif ((Pln.Kind p) != 1) then ((Pln.Table p) != 0) else false) = false))), (((bif ((Pln.Kind p) != 1) then ((Pln.Table p) != 0) else false) = false) → (((bif ((Pln.Kind p) != 1) then ((Pln.Table p) != 0) else false) = false))), (((bif ((Pln.Kind p) != 1) then ((Pln.Table p) != 0) else false) = false) → (((bif ((Pln.Kind p) != 1) then ((Pln.Table p) != 0) else false) = false))), ((((bif ((Pln.Kind p) != 1) then ((Pln.Table p) != 0) else false) = false) ∧ (((Pln.Kind p) != 8) = true)) → ((((bif ((Pln.Kind p) != 1) then ((Pln.Table p) != 0) else false) = false) ∧ (((Pln.Kind p) != 8) = true)))), ((((bif ((Pln.Kind p) != 1) then ((Pln.Table p) != 0) else false) = false) ∧ (((Pln.Kind p) != 8) = true)) → ((((bif ((Pln.Kind p) != 1) then ((Pln.Table p) != 0) else false) = false) ∧ (((Pln.Kind p) != 8) = true)))), ((((bif ((Pln.Kind p) != 1) then ((Pln.Table p) != 0) else false) = false) ∧ (((Pln.Kind p) != 8) = true)) → ((((bif ((Pln.Kind p) != 1) then ((Pln.Table p) != 0) else false) = false) ∧ (((Pln.Kind p) != 8) = true)))), ((((bif ((Pln.Kind p) != 1) then ((Pln.Table p) != 0) else false) = false) ∧ (((Pln.Kind p) != 8) = true)) → ((((bif ((Pln.Kind p) != 1) then ((Pln.Table p) != 0) else false) = false) ∧ (((Pln.Kind p) != 8) = true)))), ((((bif ((Pln.Kind p) != 1) then ((Pln.Table p) != 0) else false) = false) ∧ (((Pln.Kind p) != 8) = true)) → ((((bif ((Pln.Kind p) != 1) then ((Pln.Table p) != 0) else false) = false) ∧ (((Pln.Kind p) != 8) = true)))), (((bif ((Pln.Kind p) != 1) then ((Pln.Table p) != 0) else false) = false) → (((bif ((Pln.Kind p) != 1) then ((Pln.Table p) != 0) else false) = false))), (((bif ((Pln.Kind p) != 1) then ((Pln.Table p) != 0) else false) = false) → ((((Pln.Kind p) != 8) = true) → ((((bif ((Pln.Kind p) != 1) then ((Pln.Table p) != 0) else false) = false) ∧ (((Pln.Kind p) != 8) = true))))), (((bif ((Pln.Kind p) != 1) then ((Pln.Table p) != 0) else false) = false) → (((bif ((Pln.Kind p) != 1) then ((Pln.Table p) != 0) else false) = false)))] ?_ ?_)))
   ·
    exact ⟨(by intro g46; assumption), (by intro g47; assumption), (by intro g48; assumption), (by intro g49; assumption), (by intro g50; assumption), (by intro g51; assumption), (by intro g52; assumption), (by intro g53; assumption), (by intro g54; assumption), (by intro g55; assumption), (by intro g56; assumption), (by intro g57; assumption), (by intro g58; assumption), (by intro g59; assumption), (by intro g60; assumption), (by intro g61; assumption), (by intro g62; intro g63; exact ⟨by assumption, by assumption⟩), (by intro g64; assumption), trivial⟩
   refine cdE e45 ?_ ?_
   · intro h70q e71; refine seq (r1 hC [6] [] ⟨[(6, sI 0)], []⟩ ?_); exact ret (rI 0 e71)
   ·
    intro h72q e73; refine kpU [0, 1, 2] [] [] [] ?_; refine AW.skip (seq (seq (r1U hC [0, 1, 2, 92] [] [(92, sB ((Pln.Kind p) == 1))] [] ?_))); refine cdE e73 ?_ ?_
    ·
     intro h90q e91; refine seq (seq (r0U hC [0, 1, 106] [] [(106, sB (bif (decide ((Pln.Table p) < 0)) then true else (decide ((length ws : Int) ≤ (Pln.Table p)))))] [] [(((decide ((Pln.Table p) < 0)) = false) → (((decide ((Pln.Table p) < 0)) = false))), (((decide ((Pln.Table p) < 0)) = false) → (((decide ((Pln.Table p) < 0)) = false))), (((decide ((Pln.Table p) < 0)) = false) → (((decide ((Pln.Table p) < 0)) = false))), (((decide ((Pln.Table p) < 0)) = false) → (((decide ((Pln.Table p) < 0)) = false))), (((decide ((Pln.Table p) < 0)) = false) → (((decide ((Pln.Table p) < 0)) = false))), (((decide ((Pln.Table p) < 0)) = false) → (((decide ((Pln.Table p) < 0)) = false))), (((decide ((Pln.Table p) < 0)) = false) → (((decide ((Pln.Table p) < 0)) = false)))] ?_ ?_))
     ·
      exact ⟨(by intro g92; assumption), (by intro g93; assumption), (by intro g94; assumption), (by intro g95; assumption), (by intro g96; assumption), (by intro g97; assumption), (by intro g98; assumption), trivial⟩
     refine cdE e91 ?_ ?_
     · intro h104q e105; refine seq (r1 hC [6] [] ⟨[(6, sI 0)], []⟩ ?_); exact ret (rI 0 e105)
     ·
      intro h106q e107; refine kpU [0, 1] [] [] [] ?_; refine AW.skip (seq (r0 hC [6] [] ⟨[(6, sI (getD ws (Int.toNat (Pln.Table p)) 0))], []⟩ [IX (Pln.Table p) (length ws : Int)] ?_ ?_))
      ·
       exact ⟨IX.of (by omega), trivial⟩
      exact ret (rI _ e107)
    ·
     intro h108q e109; refine kpU [0, 1, 2] [] [] [] ?_; refine AW.skip (seq (r1U hC [0, 1, 2, 9] [36] [(9, .eref 36 1 0 [])] [(36, .arr 1 (.int .i64) ((replicate 2 0) : List Int))] ?_)); refine seq (seq (r1U hC [0, 1, 2, 9, 118, 119] [36] [(118, sI (length (Pln.Kids p) : Int)), (119, sI 0)] [] ?_)); refine lpB (ζ := (List Int)) (fun x => ⟨[(0, sR4 p), (9, .eref 36 1 0 [])], [(36, .arr 1 (.int .i64) (x : List Int))]⟩) (fun x => length x = 2 ∧ ∀ j, 0 ≤ getD x j 0 ∧ getD x j 0 ≤ 6) (fun x => (.inl x)) (α := Nat × (List Int)) (fun x => ⟨[(0, sR4 p), (1, sD7 ws), (2, sI levels), (9, .eref 36 1 0 []), (118, sI (length (Pln.Kids p) : Int)), (119, sI ((x.1 : Nat) : Int))], [(36, .arr 1 (.int .i64) (x.2 : List Int))]⟩) (fun x => length x.2 = 2 ∧ ∀ j, 0 ≤ getD x.2 j 0 ∧ getD x.2 j 0 ≤ 6) (fun x => (length (Pln.Kids p)) - x.1) (fun k x => widthBelow_l0 (widthBelow_r fuel) p ws levels k x.1 x.2) (0, (replicate 2 0)) (by kernel_rfl) ?_ ?_ ?_
     · exact ar_new
     ·
      intro x k208q hI0 hk206 e207; obtain ⟨v119, ar36⟩ := x; replace hI0 : length ar36 = 2 ∧ ∀ j, 0 ≤ getD ar36 j 0 ∧ getD ar36 j 0 ≤ 6 := hI0; refine seq (r1U hC [0, 1, 2, 9, 118, 119, 120] [36] [(120, sB (decide ((v119 : Int) < (length (Pln.Kids p) : Int))))] [] ?_); refine seq (cdE e207 ?_ ?_)
      ·
       intro h213q e214; refine kpU [0, 1, 2, 9, 118, 119] [36] [] [] ?_; refine AW.skip (seq (block (seq (r1U hC [0, 1, 2, 9, 10, 118, 119] [36] [(10, sI (v119 : Int))] [] ?_)))); refine seq (r0U hC [0, 1, 2, 9, 10, 118, 119] [36] [] [(36, .arr 1 (.int .i64) ((set ar36 v119 ((widthBelow_r fuel) (getD (Pln.Kids p) v119 Pln.zero) ws (levels - 1))) : List Int))] [IX (v119 : Int) (length (Pln.Kids p) : Int), R64 (levels - 1), ((VW ws ∧ (0 ≤ (levels - 1) ∧ (levels - 1) ≤ 8)) ∧ SizeOf.sizeOf (getD (Pln.Kids p) v119 Pln.zero) < fuel), IX (v119 : Int) ((2 : Nat) : Int), ((v119 : Int) < (length ar36 : Int))] ?_ ?_)
       ·
        exact ⟨IX.of (by omega), R64.of (by omega), (⟨⟨hpre.1.1, by omega⟩, Nat.lt_of_lt_of_le (pkid_lt (by omega)) (Nat.le_of_lt_succ hpre.2)⟩), IX.of (by omega), (by omega), trivial⟩
       refine seq (r0U hC [0, 1, 2, 9, 118, 119, 137] [36] [(137, sB ((getD (set ar36 v119 ((widthBelow_r fuel) (getD (Pln.Kids p) v119 Pln.zero) ws (levels - 1))) v119 0) == 0))] [] [IX (v119 : Int) ((2 : Nat) : Int), ((v119 : Int) < (length (set ar36 v119 ((widthBelow_r fuel) (getD (Pln.Kids p) v119 Pln.zero) ws (levels - 1))) : Int))] ?_ ?_)
       ·
        exact ⟨IX.of (by omega), (by (have := hI0.1; simp only [List.length_set] at *; omega)), trivial⟩
       refine cdE e214 ?_ ?_
       · intro h234q e235; refine seq (r1 hC [6] [] ⟨[(6, sI 0)], []⟩ ?_); refine ret ?_; have e236 := e109.trans (elim_r e235); exact rI 0 e236
       ·
        intro h237q e238; refine kpU [0, 1, 2, 9, 118, 119] [36] [] [] ?_; refine AW.skip (r0U hC [0, 1, 2, 9, 118, 119] [36] [(119, sI ((v119 + 1 : Nat) : Int))] [] [R64 ((v119 + 1 : Nat) : Int)] ?_ ?_)
        ·
         exact ⟨R64.of (by omega), trivial⟩
        refine bk (v119 + 1, (set ar36 v119 ((widthBelow_r fuel) (getD (Pln.Kids p) v119 Pln.zero) ws (levels - 1)))) e238 hk206 ?_ ?_
        · exact ar_set hI0 (widthBelow_b hpre.1.1 fuel _ _)
        · omega
      · intro h239q e240; refine kpU [0, 9] [36] [] [] ?_; refine exit ?_; refine meet ar36 (by kernel_rfl) ⟨?_, e240⟩; exact hI0
     ·
      intro ar36 hJ0 e241; have e242 := e109.trans (elim_l e241); refine seq (r0 hC [6] [] ⟨[(6, sI (widthOver p (getD ar36 0 0) (getD ar36 1 0)))], []⟩ [IX (0 : Int) ((2 : Nat) : Int), ((0 : Int) < (length ar36 : Int)), IX (1 : Int) ((2 : Nat) : Int), ((1 : Int) < (length ar36 : Int)), ((0 ≤ (getD ar36 0 0) ∧ (getD ar36 0 0) ≤ 6) ∧ (0 ≤ (getD ar36 1 0) ∧ (getD ar36 1 0) ≤ 6))] ?_ ?_)
      ·
       exact ⟨IX.of (by omega), (by omega), IX.of (by omega), (by omega), ⟨hJ0.2 0, hJ0.2 1⟩, trivial⟩
      exact ret (rI _ e242)

theorem widthBelow_fu : AllTV (widthBelow_sp.ps.map PK.ty) (fun tvs => widthBelow_sp.pre tvs → ∃ k, (widthBelow_spn k).pre tvs ∧ (widthBelow_spn k).fn tvs = widthBelow_sp.fn tvs ∧ (widthBelow_spn k).bx tvs = widthBelow_sp.bx tvs) :=
 (fun (p : Pln) (ws : List Int) (levels : Int) h => ⟨SizeOf.sizeOf p + 1, (show (VW ws ∧ (0 ≤ levels ∧ levels ≤ 8)) ∧ SizeOf.sizeOf p < SizeOf.sizeOf p + 1 from ⟨h, Nat.lt_succ_self _⟩), (show (widthBelow_spn (SizeOf.sizeOf p + 1)).fn [⟨(.named 2), (p : Pln)⟩, ⟨(.slice (.int .i64)), (ws : List Int)⟩, ⟨(.int .i64), (levels : Int)⟩] = ([⟨(.int .i64), (widthBelow_r (SizeOf.sizeOf p + 1) p ws levels)⟩] : List TV) from by kernel_rfl).trans (show ([⟨(.int .i64), (widthBelow_r (SizeOf.sizeOf p + 1) p ws levels)⟩] : List TV) = widthBelow_sp.fn [⟨(.named 2), (p : Pln)⟩, ⟨(.slice (.int .i64)), (ws : List Int)⟩, ⟨(.int .i64), (levels : Int)⟩] from by kernel_rfl), by kernel_rfl⟩)

theorem widthBelow_ok : FnOK Try.prog 95 widthBelow_sp := FnOK.of_fuel widthBelow_okn (fun _ => rfl) (fun _ => rfl) (AllTV.get widthBelow_fu)

end
end Go.Proofs.Ytodcdgolcbdkgaa


namespace Go.Proofs.Ytodcdgolcbdkgaa
open Go Go.Am
open List (getD)
noncomputable section

structure OF (p : Pln) : Prop where
 kind : 1 ≤ p.Kind ∧ p.Kind ≤ 8
 kids : (p.Kids.length : Int) = (partsOfKind p.Kind).2
 exprs : p.Kind ≠ 3 → (p.Exprs.length : Int) = (partsOfKind p.Kind).1
 table : p.Kind ≠ 1 → p.Table = 0
 cols : p.Kind ≠ 8 → p.Cols.length = 0

theorem ofParts (p : Pln) : onlyFields_j5 p = if p.Kind = 1 then (0, 0) else if p.Kind = 4 ∨ p.Kind = 5 then (2, 1) else if p.Kind = 6 then (2, 0) else if p.Kind = 2 then (1, 1) else if p.Kind = 3 then (1, p.Exprs.length) else (1, 0) := by
 unfold onlyFields_j5 onlyFields_j0 onlyFields_j4 onlyFields_j3 onlyFields_j2 onlyFields_j1; simp only [andThen]; by_cases h1 : p.Kind = 1
 · simp [h1]
 ·
  by_cases h4 : p.Kind = 4
  · simp [h4]
  ·
   by_cases h5 : p.Kind = 5
   · simp [h5]
   ·
    by_cases h6 : p.Kind = 6
    · simp [h6]
    ·
     by_cases h2 : p.Kind = 2
     · simp [h2]
     ·
      by_cases h3 : p.Kind = 3
      · simp [h3]
      · (have e : ∀ j : Int, p.Kind ≠ j → (p.Kind == j) = false := fun j h => by simp [h]); simp only [e 1 h1, e 4 h4, e 5 h5, e 6 h6, e 2 h2, e 3 h3, cond_false, if_neg h1, if_neg h2, if_neg h3, if_neg h6, if_neg (show ¬ (p.Kind = 4 ∨ p.Kind = 5) by omega)]

theorem onlyFields_iff {p : Pln} : onlyFields p = true ↔ OF p := by
 have key : onlyFields p = true ↔ (((1 ≤ p.Kind ∧ p.Kind ≤ 8) ∧ (p.Kids.length : Int) = (((onlyFields_j5 p).1 : Nat) : Int)) ∧ (p.Exprs.length : Int) = (((onlyFields_j5 p).2 : Nat) : Int)) ∧ (p.Table = 0 ∨ p.Kind = 1) ∧ ((p.Cols.length : Int) = 0 ∨ p.Kind = 8) := by
  unfold onlyFields; simp only [andThen]; rw [← inRange_iff]; cases inRange p.Kind 1 8 <;> simp [Bool.cond_eq_ite, and_assoc]
 rw [key, ofParts]; have hpc := parts2 p.Kind; constructor
 ·
  rintro ⟨⟨⟨h1, h2⟩, h3⟩, h4, h5⟩
  have h3' : p.Kind ≠ 3 → (p.Exprs.length : Int) = (partsOfKind p.Kind).1 := by
   intro hn; rw [if_neg hn] at h3; split at h3
   · simp only at h3; omega
   ·
    split at h3
    · simp only at h3; omega
    ·
     split at h3
     · simp only at h3; omega
     · split at h3 <;> simp only at h3 <;> omega
  refine ⟨h1, ?_, h3', by omega, by omega⟩; split at h2
  · simp only at h2; omega
  ·
   split at h2
   · simp only at h2; omega
   ·
    split at h2
    · simp only at h2; omega
    ·
     split at h2
     · simp only at h2; omega
     · split at h2 <;> simp only at h2 <;> omega
 ·
  rintro ⟨h1, h2, h3, h4, h5⟩; refine ⟨⟨⟨h1, ?_⟩, ?_⟩, by omega, by omega⟩
  ·
   split
   · simp only; omega
   ·
    split
    · simp only; omega
    ·
     split
     · simp only; omega
     ·
      split
      · simp only; omega
      · split <;> simp only <;> omega
  ·
   split
   · simp only; omega
   ·
    split
    · simp only; omega
    ·
     split
     · simp only; omega
     ·
      split
      · simp only; omega
      · split <;> simp only <;> omega

theorem onlyFields_of {p : Pln} (h : onlyFields (Pln.mk (Pln.Kind p) (Pln.Table p) (Pln.Exprs p) (Pln.Cols p) (Pln.Kids p)) = true) : OF p := by
 rw [Pln.eta] at h; exact onlyFields_iff.1 h

def Asc (cols : List Int) (w : Int) : Prop := ∀ j, j < cols.length → (0 ≤ cols.getD j 0 ∧ cols.getD j 0 < w) ∧ (0 < j → cols.getD (j - 1) 0 < cols.getD j 0)

theorem validCols_iff {cols : List Int} {w : Int} : validCols cols w = true ↔ Asc cols w := by
 unfold validCols; rcases all_loop (validCols_l0 cols w) cols.length (fun i => bif (!(inRange (getD cols i 0) 0 (w - 1))) then true else (bif (decide (0 < (i : Int))) then (decide ((getD cols i 0) ≤ (getD cols (Int.toNat ((i : Int) - 1)) 0))) else false)) (fun k i => rfl) (cols.length - 0 + 1) 0 (by omega) with ⟨h1, h2⟩ | ⟨h1, j, h2, h3, h4⟩
 ·
  rw [h1]; simp only [Sum.elim_inl, true_iff]; intro j hj; have h := or_neg (h2 j (by omega) hj); have a := inRange_iff.1 (not_neg h.1); refine ⟨by omega, fun h0 => ?_⟩; have b := h.2; rw [decide_eq_true (show (0 : Int) < (j : Int) by omega), cond_true] at b; have := of_decide_eq_false b
  rw [show ((j : Int) - 1).toNat = j - 1 by omega] at this
  omega
 ·
  rw [h1]; simp only [Sum.elim_inr, Bool.false_eq_true, false_iff]; intro h; obtain ⟨a, b⟩ := h j h3; rcases or_pos h4 with h | h
  · rw [inRange_iff.2 (by omega)] at h; cases h
  · have h := and_pos h; have c := of_decide_eq_true h.1; have d := of_decide_eq_true h.2; rw [show ((j : Int) - 1).toNat = j - 1 by omega] at d; have := b (by omega); omega

theorem vgc_loop (cols : List Int) (w : Int) : ∀ (k i : Nat) (last : Int), cols.length - i < k → last = (if i = 0 then -1 else cols.getD (i - 1) 0) → (∀ j, j < i → j < cols.length → (0 ≤ cols.getD j 0 ∧ cols.getD j 0 < w)) →
  (validGroupColumns_l0 cols w k last i = .inl () ∧ ∀ j, i ≤ j → j < cols.length → (0 ≤ cols.getD j 0 ∧ cols.getD j 0 < w) ∧ (0 < j → cols.getD (j - 1) 0 < cols.getD j 0)) ∨
  (validGroupColumns_l0 cols w k last i = .inr false ∧ ¬ Asc cols w) := by
 intro k
 induction k with
 | zero => intro i last h; omega
 | succ k ih =>
  intro i last h hl hp; unfold validGroupColumns_l0; by_cases hi : i < cols.length
  ·
   rw [lt_dec hi, cond_true]
   cases hb : (bif (decide ((getD cols i 0) ≤ last)) then true else (decide (w ≤ (getD cols i 0)))) with
   | true =>
    refine .inr ⟨rfl, fun ha => ?_⟩; obtain ⟨a, b⟩ := ha i hi; rcases or_pos hb with hb | hb
    ·
     have hb := of_decide_eq_true hb; by_cases h0 : i = 0
     · rw [if_pos h0] at hl; omega
     · rw [if_neg h0] at hl; have := b (by omega); omega
    · have hb := of_decide_eq_true hb; omega
   | false =>
    rw [cond_false]; have hb := or_neg hb; have b1 := of_decide_eq_false hb.1; have b2 := of_decide_eq_false hb.2
    have g : (0 ≤ cols.getD i 0 ∧ cols.getD i 0 < w) ∧ (0 < i → cols.getD (i - 1) 0 < cols.getD i 0) := by
     by_cases h0 : i = 0
     · rw [if_pos h0] at hl; exact ⟨by omega, by omega⟩
     · rw [if_neg h0] at hl; have := hp (i - 1) (by omega) (by omega); exact ⟨by omega, by omega⟩
    rcases ih (i + 1) (cols.getD i 0) (by omega) (by rw [if_neg (by omega)]; rfl) (fun j hj hjl => by
     by_cases e : j = i
     · subst e; exact g.1
     · exact hp j (by omega) hjl) with ⟨c1, c2⟩ | c
    ·
     refine .inl ⟨c1, fun j hj hjl => ?_⟩; by_cases e : j = i
     · subst e; exact g
     · exact c2 j (by omega) hjl
    · exact .inr c
  · rw [ge_dec hi, cond_false]; exact .inl ⟨rfl, fun j hj hjl => by omega⟩

theorem vgc_iff {cols : List Int} {w : Int} : validGroupColumns cols w = true ↔ (cols.length : Int) < 6 ∧ Asc cols w := by
 unfold validGroupColumns; by_cases h6 : (6 : Int) ≤ (cols.length : Int)
 · rw [decide_eq_true h6, cond_true]; simp only [Bool.false_eq_true, false_iff]; omega
 ·
  rw [decide_eq_false h6, cond_false]; rcases vgc_loop cols w (cols.length - 0 + 1) 0 (-1) (by omega) rfl (fun j hj => absurd hj (Nat.not_lt_zero _)) with ⟨h1, h2⟩ | ⟨h1, h2⟩
  · rw [h1]; simp only [Sum.elim_inl, true_iff]; exact ⟨by omega, fun j hj => h2 j (by omega) hj⟩
  · rw [h1]; simp only [Sum.elim_inr, Bool.false_eq_true, false_iff]; exact fun h => h2 h.2

theorem vgc_eq (cols : List Int) (w : Int) : validGroupColumns cols w = bif validCols cols w then decide ((cols.length : Int) < 6) else false := by
 rw [Bool.eq_iff_iff, vgc_iff]
 cases h : validCols cols w with
 | true => have := validCols_iff.1 h; simp [this]
 | false =>
  (have : ¬ Asc cols w := fun ha => by rw [validCols_iff.2 ha] at h; cases h); simp [this]

theorem pw_eq (p : Pln) (w : Int) : projectWidth p.Exprs w = bif allv p w then (bif decide ((6 : Int) < (p.Exprs.length : Int)) then 0 else (p.Exprs.length : Int)) else 0 := by
 unfold projectWidth; rcases all_loopG 0 (projectWidth_l0 p.Exprs w) p.Exprs.length (fun i => !(ValidExpr (getD p.Exprs i Xpr.zero) w)) (fun k i => rfl) (p.Exprs.length - 0 + 1) 0 (by omega) with ⟨h1, h2⟩ | ⟨h1, j, h2, h3, h4⟩
 · rw [h1, allv_iff.2 fun j hj => not_neg (h2 j (by omega) hj)]; rfl
 ·
  have : allv p w = false := by
   rw [Bool.eq_false_iff]; intro h; have := allv_iff.1 h j h3; rw [this] at h4; cases h4
  rw [h1, this]; rfl

end
end Go.Proofs.Ytodcdgolcbdkgaa
