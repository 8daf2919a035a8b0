/-
  A part of the proof of this claim (AvD): what functions of the program compute, and plain facts of that. No conditions.
-/
import Derived.Test.YtbcgmoaipneoeaaAvC
set_option linter.all false
namespace Go.Proofs.Ytbcgmoaipneoeaa
open Go Go.Am
noncomputable section

structure VW (ws : List Int) : Prop where
 n1 : 1 ≤ ws.length
 n4 : ws.length ≤ 4
 w6 : ∀ j, j < ws.length → 1 ≤ ws.getD j 0 ∧ ws.getD j 0 ≤ 6

theorem validWidths_iff {ws : List Int} : validWidths ws = true ↔ VW ws := by
 unfold validWidths
 rw [loop_iff (validWidths_l0 ws) ws.length (fun i => inRange (List.getD ws i 0) 1 6) _ (fun k i => rfl), inRange_iff]
 exact ⟨fun h => ⟨by omega, by omega, fun j hj => inRange_iff.1 (h.2 j hj)⟩, fun h => ⟨by have := h.n1; have := h.n4; omega, fun j hj => inRange_iff.2 (h.w6 j hj)⟩⟩

theorem ivalidWidths_iff {ws : List Int} : ivalidWidths ws = true ↔ VW ws := by
 unfold ivalidWidths
 rw [bif_false_iff, loop_iff (ivalidWidths_l0 ws) ws.length (fun i => validWidth (List.getD ws i 0)) _ (fun k i => rfl)]
 constructor
 ·
  rintro ⟨h1, -, h2⟩
  rw [Bool.not_eq_true] at h1
  have h1 := or_neg h1
  have a := of_decide_eq_false h1.1
  have b := of_decide_eq_false h1.2
  exact ⟨by omega, by omega, fun j hj => validWidth_iff.1 (h2 j hj)⟩
 ·
  rintro ⟨h1, h2, h3⟩
  refine ⟨?_, rfl, fun j hj => validWidth_iff.2 (h3 j hj)⟩
  rw [decide_eq_false (show ¬ ((ws.length : Nat) : Int) < 1 by omega), decide_eq_false (show ¬ (4 : Int) < ((ws.length : Nat) : Int) by omega)]
  simp

theorem pkid_lt {t : Pln} {i : Nat} (h : i < t.Kids.length) : SizeOf.sizeOf (t.Kids.getD i Pln.zero) < SizeOf.sizeOf t := by
 cases t with
 | mk a b c d ks =>
  have := List.sizeOf_lt_of_mem (getD_mem ks i Pln.zero h)
  simp only [Pln.mk.sizeOf_spec, Pln.Kids] at *
  omega

theorem parts_cases (k : Int) : (k = 1 ∧ partsOfKind k = (0, 0)) ∨ ((k = 2 ∨ k = 3) ∧ partsOfKind k = (1, 1)) ∨ ((k = 4 ∨ k = 5) ∧ partsOfKind k = (1, 2)) ∨ (k = 6 ∧ partsOfKind k = (0, 2)) ∨ ((k = 7 ∨ k = 8) ∧ partsOfKind k = (0, 1)) ∨ ((k < 1 ∨ 8 < k) ∧ partsOfKind k = (0, -1)) := by
 by_cases h : 1 ≤ k ∧ k ≤ 8
 ·
  have : k = 1 ∨ k = 2 ∨ k = 3 ∨ k = 4 ∨ k = 5 ∨ k = 6 ∨ k = 7 ∨ k = 8 := by omega
  rcases this with rfl | rfl | rfl | rfl | rfl | rfl | rfl | rfl <;> decide
 ·
  refine .inr (.inr (.inr (.inr (.inr ⟨by omega, ?_⟩))))
  have e : ∀ j : Int, 1 ≤ j → j ≤ 8 → (k == j) = false := fun j h1 h2 => by simp; omega
  unfold partsOfKind partsOfKind_j0 partsOfKind_j1 partsOfKind_j2
  simp only [Go.Am.andThen, e 1 (by decide) (by decide), e 2 (by decide) (by decide), e 3 (by decide) (by decide), e 4 (by decide) (by decide), e 5 (by decide) (by decide), e 6 (by decide) (by decide), e 7 (by decide) (by decide), e 8 (by decide) (by decide), cond_false]

theorem parts2 (k : Int) : (k = 1 ∧ (partsOfKind k).1 = 0 ∧ (partsOfKind k).2 = 0) ∨ ((k = 2 ∨ k = 3) ∧ (partsOfKind k).1 = 1 ∧ (partsOfKind k).2 = 1) ∨ ((k = 4 ∨ k = 5) ∧ (partsOfKind k).1 = 1 ∧ (partsOfKind k).2 = 2) ∨ (k = 6 ∧ (partsOfKind k).1 = 0 ∧ (partsOfKind k).2 = 2) ∨ ((k = 7 ∨ k = 8) ∧ (partsOfKind k).1 = 0 ∧ (partsOfKind k).2 = 1) ∨ ((k < 1 ∨ 8 < k) ∧ (partsOfKind k).1 = 0 ∧ (partsOfKind k).2 = -1) := by
 rcases parts_cases k with ⟨h, e⟩ | ⟨h, e⟩ | ⟨h, e⟩ | ⟨h, e⟩ | ⟨h, e⟩ | ⟨h, e⟩
 ·
  exact .inl ⟨h, by rw [e], by rw [e]⟩
 ·
  exact .inr (.inl ⟨h, by rw [e], by rw [e]⟩)
 ·
  exact .inr (.inr (.inl ⟨h, by rw [e], by rw [e]⟩))
 ·
  exact .inr (.inr (.inr (.inl ⟨h, by rw [e], by rw [e]⟩)))
 ·
  exact .inr (.inr (.inr (.inr (.inl ⟨h, by rw [e], by rw [e]⟩))))
 ·
  exact .inr (.inr (.inr (.inr (.inr ⟨h, by rw [e], by rw [e]⟩))))

theorem vgc_b {p : Pln} : True := trivial

def allv (p : Pln) (w : Int) : Bool := p.Exprs.all fun e => ValidExpr e w

theorem allv_iff {p : Pln} {w : Int} : allv p w = true ↔ ∀ j, j < p.Exprs.length → ValidExpr (p.Exprs.getD j Xpr.zero) w = true := by
 unfold allv
 rw [List.all_eq_true]
 exact (forall_getD (l := p.Exprs) (d := Xpr.zero) (p := fun e => ValidExpr e w = true)).symm

theorem loopv (p : Pln) (w r : Int) : Sum.elim (fun _ => r) (fun r => r) (widthOver_l0 p w ((List.length (Pln.Exprs p)) - 0 + 1) 0) = bif allv p w then r else 0 := by
 rcases all_loopG 0 (widthOver_l0 p w) p.Exprs.length (fun i => !(iValidExpr (List.getD p.Exprs i Xpr.zero) w)) (fun k i => rfl) (p.Exprs.length - 0 + 1) 0 (by omega) with ⟨h1, h2⟩ | ⟨h1, j, h2, h3, h4⟩
 ·
  rw [h1, allv_iff.2 fun j hj => by rw [← ValidExpr_same]; exact not_neg (h2 j (by omega) hj)]
  rfl
 ·
  have : allv p w = false := by
   rw [Bool.eq_false_iff]
   intro h
   have := allv_iff.1 h j h3
   rw [ValidExpr_same, this] at h4
   cases h4
  rw [h1, this]
  rfl

theorem wo_join {p : Pln} (a b : Int) (h : p.Kind = 4 ∨ p.Kind = 5) : widthOver p a b = bif decide (6 < a + b) then 0 else (bif allv p (a + b) then a + b else 0) := by
 unfold widthOver widthOver_j0 widthOver_j2
 rcases h with h | h <;> rw [h] <;> simp only [Go.Am.andThen, Int.reduceBEq, cond_true, cond_false] <;> cases decide (6 < a + b) <;> simp only [cond_true, cond_false, Sum.elim_inr, Sum.elim_inl, loopv]

theorem wo_union {p : Pln} (a b : Int) (h : p.Kind = 6) : widthOver p a b = bif a != b then 0 else (bif allv p a then a else 0) := by
 unfold widthOver widthOver_j0 widthOver_j2 widthOver_j1
 rw [h]; simp only [Go.Am.andThen, Int.reduceBEq, cond_true, cond_false]; cases (a != b) <;> simp only [cond_true, cond_false, Sum.elim_inr, Sum.elim_inl, loopv]

theorem wo_group {p : Pln} (a b : Int) (h : p.Kind = 8) : widthOver p a b = bif validGroupColumns p.Cols a then ((p.Cols.length + 1 : Nat) : Int) else 0 := by
 unfold widthOver widthOver_j0 widthOver_j2 widthOver_j1
 rw [h]; simp only [Go.Am.andThen, Int.reduceBEq, cond_true, cond_false]; cases validGroupColumns p.Cols a <;> simp only [Bool.not_true, Bool.not_false, cond_true, cond_false, Sum.elim_inr, Sum.elim_inl]

theorem wo_project {p : Pln} (a b : Int) (h : p.Kind = 3) : widthOver p a b = bif allv p a then ((p.Exprs.length : Nat) : Int) else 0 := by
 unfold widthOver widthOver_j0 widthOver_j2 widthOver_j1
 rw [h]; simp only [Go.Am.andThen, Int.reduceBEq, cond_true, cond_false, Sum.elim_inl, loopv]

theorem wo_else {p : Pln} (a b : Int) (h : p.Kind = 2 ∨ p.Kind = 7) : widthOver p a b = bif allv p a then a else 0 := by
 unfold widthOver widthOver_j0 widthOver_j2 widthOver_j1
 rcases h with h | h <;> rw [h] <;> simp only [Go.Am.andThen, Int.reduceBEq, cond_true, cond_false, Sum.elim_inl, loopv]

theorem widthOver_b {p : Pln} {a b : Int} (hk : 2 ≤ p.Kind ∧ p.Kind ≤ 8) (h3 : p.Kind = 3 → ((p.Exprs.length : Nat) : Int) ≤ 6) (ha : 0 ≤ a ∧ a ≤ 6) (hb : 0 ≤ b ∧ b ≤ 6) : 0 ≤ widthOver p a b ∧ widthOver p a b ≤ 6 := by
 by_cases h : p.Kind = 4 ∨ p.Kind = 5
 ·
  rw [wo_join a b h]
  by_cases h6 : 6 < a + b
  ·
   rw [decide_eq_true h6]; simp
  ·
   rw [decide_eq_false h6]
   cases allv p (a + b) <;> simp only [cond_true, cond_false] <;> omega
 ·
  by_cases h' : p.Kind = 6
  ·
   rw [wo_union a b h']
   cases (a != b) <;> cases allv p a <;> simp only [cond_true, cond_false] <;> omega
  ·
   by_cases h8 : p.Kind = 8
   ·
    rw [wo_group a b h8]
    cases hv : validGroupColumns p.Cols a with
    | true =>
     have := vgc_len hv
     simp only [cond_true]
     omega
    | false => simp
   ·
    by_cases hp : p.Kind = 3
    ·
     rw [wo_project a b hp]
     have := h3 hp
     cases allv p a <;> simp only [cond_true, cond_false] <;> omega
    ·
     rw [wo_else a b (by omega)]
     cases allv p a <;> simp only [cond_true, cond_false] <;> omega

theorem ar_set {ar : List Int} {i : Nat} {x : Int} (h : List.length ar = 2 ∧ ∀ j, 0 ≤ List.getD ar j 0 ∧ List.getD ar j 0 ≤ 6) (hx : 0 ≤ x ∧ x ≤ 6) :
  List.length (List.set ar i x) = 2 ∧ ∀ j, 0 ≤ List.getD (List.set ar i x) j 0 ∧ List.getD (List.set ar i x) j 0 ≤ 6 := by
 refine ⟨by rw [List.length_set]; exact h.1, fun j => ?_⟩
 by_cases hj : j < ar.length
 ·
  rw [getD_set_int _ _ _ _ hj]
  split
  ·
   exact hx
  ·
   exact h.2 j
 ·
  rw [List.getD_eq_getElem?_getD, List.getElem?_eq_none (by rw [List.length_set]; omega)]
  simp

theorem ar_new : List.length (List.replicate 2 0 : List Int) = 2 ∧ ∀ j, 0 ≤ List.getD (List.replicate 2 0 : List Int) j 0 ∧ List.getD (List.replicate 2 0 : List Int) j 0 ≤ 6 := by
 refine ⟨rfl, fun j => ?_⟩
 match j with
 | 0 | 1 | _ + 2 => simp

def widthBelow_j0 (p : Pln) : Int :=
 (bif (bif ((Pln.Kind p) == 3) then (validWidth ((List.length (Pln.Exprs p) : Nat) : Int)) else false) then ((List.length (Pln.Exprs p) : Nat) : Int) else ((partsOfKind (Pln.Kind p)).1))

def widthBelow_l0 (self : Pln → (List Int) → Int → Int) (p : Pln) (ws : List Int) (levels : Int) : Nat → Nat → (List Int) → (List Int) ⊕ Int
 | 0, v119, ar36 => .inl ar36
 | k + 1, v119, ar36 => (bif (decide (((v119 : Nat) : Int) < ((List.length (Pln.Kids p) : Nat) : Int))) then (bif ((List.getD (List.set ar36 v119 (self (List.getD (Pln.Kids p) v119 Pln.zero) ws (levels - 1))) v119 0) == 0) then (.inr 0) else (widthBelow_l0 self p ws levels k (v119 + 1) (List.set ar36 v119 (self (List.getD (Pln.Kids p) v119 Pln.zero) ws (levels - 1))))) else (.inl ar36))

def widthBelow_r : Nat → Pln → (List Int) → Int → Int
 | 0, p, ws, levels => 0
 | fuel + 1, p, ws, levels => (Go.Am.andThen (widthBelow_j0 p) (fun z => (fun (exprs : Int) => (bif (bif (bif (((List.length (Pln.Kids p) : Nat) : Int) != ((partsOfKind (Pln.Kind p)).2)) then true else (((List.length (Pln.Exprs p) : Nat) : Int) != exprs)) then true else (bif (decide (0 < ((partsOfKind (Pln.Kind p)).2))) then (levels == 0) else false)) then 0 else (bif (bif (bif ((Pln.Kind p) != 1) then ((Pln.Table p) != 0) else false) then true else (bif ((Pln.Kind p) != 8) then (((List.length (Pln.Cols p) : Nat) : Int) != 0) else false)) then 0 else (bif ((Pln.Kind p) == 1) then (bif (bif (decide ((Pln.Table p) < 0)) then true else (decide (((List.length ws : Nat) : Int) ≤ (Pln.Table p)))) then 0 else (List.getD ws (Int.toNat (Pln.Table p)) 0)) else (Sum.elim (fun z => (fun (ar36 : List Int) => (widthOver p (List.getD ar36 0 0) (List.getD ar36 1 0))) z) (fun r => r) (widthBelow_l0 (widthBelow_r fuel) p ws levels ((List.length (Pln.Kids p)) - 0 + 1) 0 (List.replicate 2 0))))))) z))

def widthBelow (p : Pln) (ws : List Int) (levels : Int) : Int := widthBelow_r (SizeOf.sizeOf p + 1) p ws levels

def widthBelow_spn (fuel : Nat) : FnSpec := mkSpec [.rd (.named 2), .val (.slice (.int .i64)), .val (.int .i64)] [.val (.int .i64)] (fun (p : Pln) (ws : List Int) (levels : Int) => (VW ws ∧ (0 ≤ levels ∧ levels ≤ 8)) ∧ SizeOf.sizeOf p < fuel) (fun (p : Pln) (ws : List Int) (levels : Int) => [⟨(.int .i64), (widthBelow_r fuel p ws levels)⟩])

def widthBelow_sp : FnSpec := mkSpec [.rd (.named 2), .val (.slice (.int .i64)), .val (.int .i64)] [.val (.int .i64)] (fun (p : Pln) (ws : List Int) (levels : Int) => VW ws ∧ (0 ≤ levels ∧ levels ≤ 8)) (fun (p : Pln) (ws : List Int) (levels : Int) => [⟨(.int .i64), (widthBelow p ws levels)⟩])

theorem widthBelow_b {ws : List Int} (hw : VW ws) : ∀ (f : Nat) (p : Pln) (l : Int), 0 ≤ widthBelow_r f p ws l ∧ widthBelow_r f p ws l ≤ 6 := by
 intro f
 induction f with
 | zero => intro p l; exact ⟨by show (0 : Int) ≤ 0; decide, by show (0 : Int) ≤ 6; decide⟩
 | succ f ih =>
  intro p l
  have hpc := parts2 (Pln.Kind p)
  unfold widthBelow_r
  simp only [Go.Am.andThen]
  cases h1 : (bif (bif (((List.length (Pln.Kids p) : Nat) : Int) != ((partsOfKind (Pln.Kind p)).2)) then true else (((List.length (Pln.Exprs p) : Nat) : Int) != widthBelow_j0 p)) then true else (bif (decide (0 < ((partsOfKind (Pln.Kind p)).2))) then (l == 0) else false)) with
  | true => simp
  | false =>
   rw [cond_false]
   have h1 := (or_neg h1).1
   have h1 := or_neg h1
   have k1 := bne_neg h1.1
   have k2 := bne_neg h1.2
   cases h2 : (bif (bif ((Pln.Kind p) != 1) then ((Pln.Table p) != 0) else false) then true else (bif ((Pln.Kind p) != 8) then (((List.length (Pln.Cols p) : Nat) : Int) != 0) else false)) with
   | true => simp
   | false =>
    rw [cond_false]
    by_cases hk : p.Kind = 1
    ·
     rw [show (p.Kind == 1) = true by simp [hk], cond_true]
     cases h3 : (bif (decide ((Pln.Table p) < 0)) then true else (decide (((List.length ws : Nat) : Int) ≤ (Pln.Table p)))) with
     | true => simp
     | false =>
      have h3 := or_neg h3
      have b1 := of_decide_eq_false h3.1
      have b2 := of_decide_eq_false h3.2
      have := hw.w6 p.Table.toNat (by omega)
      rw [cond_false]
      omega
    ·
     rw [show (p.Kind == 1) = false by simp [hk], cond_false]
     have h3 : p.Kind = 3 → ((p.Exprs.length : Nat) : Int) ≤ 6 := fun h3 => by
      unfold widthBelow_j0 at k2
      rw [h3] at k2
      simp only [Int.reduceBEq, cond_true] at k2
      cases hv : validWidth ((List.length p.Exprs : Nat) : Int) with
      | true => exact (validWidth_iff.1 hv).2
      | false =>
       rw [hv, cond_false] at k2
       have : (partsOfKind 3).1 = 1 := by decide
       omega
     have key : ∀ (k v : Nat) (ar : List Int), (List.length ar = 2 ∧ ∀ j, 0 ≤ List.getD ar j 0 ∧ List.getD ar j 0 ≤ 6) →
       0 ≤ Sum.elim (fun z => (fun (ar36 : List Int) => (widthOver p (List.getD ar36 0 0) (List.getD ar36 1 0))) z) (fun r => r) (widthBelow_l0 (widthBelow_r f) p ws l k v ar) ∧
       Sum.elim (fun z => (fun (ar36 : List Int) => (widthOver p (List.getD ar36 0 0) (List.getD ar36 1 0))) z) (fun r => r) (widthBelow_l0 (widthBelow_r f) p ws l k v ar) ≤ 6 := by
      intro k
      induction k with
      | zero => intro v ar ha; exact widthOver_b (by omega) h3 (ha.2 0) (ha.2 1)
      | succ k ihk =>
       intro v ar ha
       unfold widthBelow_l0
       cases decide (((v : Nat) : Int) < ((List.length (Pln.Kids p) : Nat) : Int)) with
       | false => exact widthOver_b (by omega) h3 (ha.2 0) (ha.2 1)
       | true =>
        rw [cond_true]
        cases ((List.getD (List.set ar v (widthBelow_r f (List.getD (Pln.Kids p) v Pln.zero) ws (l - 1))) v 0) == 0) with
        | true => simp
        | false =>
         rw [cond_false]
         exact ihk _ _ (ar_set ha (ih _ _))
     exact key _ _ _ ar_new

theorem widthBelow_okn (fuel : Nat) : FnOK Try.prog 28 (widthBelow_spn fuel) := by
 induction fuel with
 | zero => exact FnOK.never Try.func28 (by kernel_rfl) rfl (fun _ _ _ h => absurd h.2 (Nat.not_lt_zero _))
 | succ fuel ih => ?_
 have hC : CtxOK Try.prog (mkCtx tyL [(28, (widthBelow_spn fuel)), (36, validWidth_sp), (37, partsOfKind_sp), (38, widthOver_sp)]) := CtxOK.cons ih (CtxOK.cons validWidth_ok (CtxOK.cons partsOfKind_ok (CtxOK.cons widthOver_ok (CtxOK.nil tyOK))))
 have hM : Try.prog.follows .mixedOrders = true := Try.checked.mixed
 refine FnOK.of_body Try.func28 (by kernel_rfl) rfl (C := (mkCtx tyL [(28, (widthBelow_spn fuel)), (36, validWidth_sp), (37, partsOfKind_sp), (38, widthOver_sp)])) hC.ty (by kernel_rfl) ?_
 intro (p : Pln) (ws : List Int) (levels : Int) hwf hpre E
 have hpre : (VW ws ∧ (0 ≤ levels ∧ levels ≤ 8)) ∧ SizeOf.sizeOf p < fuel + 1 := hpre
 have hw_p : Wf ⟨(.named 2), (p : Pln)⟩ := hwf _ (List.Mem.head _)
 obtain ⟨hr_p_Kind, hr_p_Table, hl_p_Exprs, hl_p_Cols, hl_p_Kids⟩ := Pln.wfl hw_p
 have hw_ws : Wf ⟨(.slice (.int .i64)), (ws : List Int)⟩ := hwf _ (List.Mem.tail _ (List.Mem.head _))
 have hl_ws : ((List.length ws : Nat) : Int) ≤ 9223372036854775807 := hw_ws.len
 have hw_levels : Wf ⟨(.int .i64), (levels : Int)⟩ := hwf _ (List.Mem.tail _ (List.Mem.tail _ (List.Mem.head _)))
 have hr_levels : -9223372036854775808 ≤ levels ∧ levels ≤ 9223372036854775807 := hw_levels.int_inv
 have hpc := parts2 (Pln.Kind p)
 have e0 : widthBelow_r (fuel + 1) p ws levels = widthBelow_r (fuel + 1) p ws levels := rfl
 refine AW.seq (AW.r1 hC [0, 1, 2] [] ⟨[(0, sR8 p), (1, sD9 ws), (2, sI levels)], []⟩ ?_)
 refine AW.seq (AW.r0 hC [0, 1, 2, 7, 8] [] ⟨[(0, sR8 p), (1, sD9 ws), (2, sI levels), (7, sI ((partsOfKind (Pln.Kind p)).1)), (8, sI ((partsOfKind (Pln.Kind p)).2))], []⟩ [(True)] ?_ ?_)
 ·
  refine ⟨?_, trivial⟩
  ·
   trivial
 refine AW.seq (AW.seq (AW.r0 hC [0, 1, 2, 7, 8, 31] [] ⟨[(0, sR8 p), (1, sD9 ws), (2, sI levels), (7, sI ((partsOfKind (Pln.Kind p)).1)), (8, sI ((partsOfKind (Pln.Kind p)).2)), (31, sB (bif ((Pln.Kind p) == 3) then (validWidth ((List.length (Pln.Exprs p) : Nat) : Int)) else false))], []⟩ [((((Pln.Kind p) == 3) = true) → ((((Pln.Kind p) == 3) = true))), ((((Pln.Kind p) == 3) = true) → ((((Pln.Kind p) == 3) = true))), ((((Pln.Kind p) == 3) = true) → ((((Pln.Kind p) == 3) = true))), ((((Pln.Kind p) == 3) = true) → ((((Pln.Kind p) == 3) = true))), ((((Pln.Kind p) == 3) = true) → ((((Pln.Kind p) == 3) = true))), ((((Pln.Kind p) == 3) = true) → (True)), ((((Pln.Kind p) == 3) = true) → ((((Pln.Kind p) == 3) = true)))] ?_ ?_))
 ·
  refine ⟨?_, ?_, ?_, ?_, ?_, ?_, ?_, trivial⟩
  ·
   intro g1
   have g1p0 : (Pln.Kind p) = 3 := (Go.Am.beq_pos g1)
   first | assumption | exact ⟨by assumption, by assumption⟩
  ·
   intro g2
   have g2p0 : (Pln.Kind p) = 3 := (Go.Am.beq_pos g2)
   first | assumption | exact ⟨by assumption, by assumption⟩
  ·
   intro g3
   have g3p0 : (Pln.Kind p) = 3 := (Go.Am.beq_pos g3)
   first | assumption | exact ⟨by assumption, by assumption⟩
  ·
   intro g4
   have g4p0 : (Pln.Kind p) = 3 := (Go.Am.beq_pos g4)
   first | assumption | exact ⟨by assumption, by assumption⟩
  ·
   intro g5
   have g5p0 : (Pln.Kind p) = 3 := (Go.Am.beq_pos g5)
   first | assumption | exact ⟨by assumption, by assumption⟩
  ·
   intro g6
   have g6p0 : (Pln.Kind p) = 3 := (Go.Am.beq_pos g6)
   trivial
  ·
   intro g7
   have g7p0 : (Pln.Kind p) = 3 := (Go.Am.beq_pos g7)
   first | assumption | exact ⟨by assumption, by assumption⟩
 refine AW.cutQ (α := Int) (fun x => ⟨[(0, sR8 p), (1, sD9 ws), (2, sI levels), (7, sI x), (8, sI ((partsOfKind (Pln.Kind p)).2))], []⟩) (fun x => (True) ∧ (widthBelow_j0 p) = x) ?_ ?_
 ·
  skip
  have e16 : (widthBelow_j0 p) = (widthBelow_j0 p) := rfl
  refine AW.cd (bif ((Pln.Kind p) == 3) then (validWidth ((List.length (Pln.Exprs p) : Nat) : Int)) else false) ?_ ?_
  ·
   intro h17
   have h17q : ((Pln.Kind p) = 3) ∧ ((validWidth ((List.length (Pln.Exprs p) : Nat) : Int)) = true) := (And.imp (fun h => (Go.Am.beq_pos h)) (fun h => h) (Go.Am.and_pos h17))
   have e18 := e16.trans (Go.Am.bif_t h17)
   refine AW.r1 hC [0, 1, 2, 7, 8] [] ⟨[(0, sR8 p), (1, sD9 ws), (2, sI levels), (7, sI ((List.length (Pln.Exprs p) : Nat) : Int)), (8, sI ((partsOfKind (Pln.Kind p)).2))], []⟩ ?_
   refine AW.meet ((List.length (Pln.Exprs p) : Nat) : Int) (by kernel_rfl) ⟨?_, e18⟩
   show True
   first | exact trivial | assumption | omega
  ·
   intro h19
   have h19q : ((Pln.Kind p) ≠ 3) ∨ ((validWidth ((List.length (Pln.Exprs p) : Nat) : Int)) = false) := (Or.imp (fun h => (Go.Am.beq_neg h)) (fun h => h) (Go.Am.and_neg h19))
   have e20 := e16.trans (Go.Am.bif_f h19)
   refine AW.kp [0, 1, 2, 7, 8] [] ⟨[(0, sR8 p), (1, sD9 ws), (2, sI levels), (7, sI ((partsOfKind (Pln.Kind p)).1)), (8, sI ((partsOfKind (Pln.Kind p)).2))], []⟩ ?_
   refine AW.skip ?_
   refine AW.meet ((partsOfKind (Pln.Kind p)).1) (by kernel_rfl) ⟨?_, e20⟩
   show True
   first | exact trivial | assumption | omega
 ·
  intro exprs hR
  obtain ⟨hM0, e21⟩ := hR
  replace hM0 : True := hM0
  have e22 := e0.trans (Go.Am.then_eq e21)
  refine AW.seq (AW.seq (AW.r0 hC [0, 1, 2, 60] [] ⟨[(0, sR8 p), (1, sD9 ws), (2, sI levels), (60, sB (bif (bif (((List.length (Pln.Kids p) : Nat) : Int) != ((partsOfKind (Pln.Kind p)).2)) then true else (((List.length (Pln.Exprs p) : Nat) : Int) != exprs)) then true else (bif (decide (0 < ((partsOfKind (Pln.Kind p)).2))) then (levels == 0) else false)))], []⟩ [(((((List.length (Pln.Kids p) : Nat) : Int) != ((partsOfKind (Pln.Kind p)).2)) = false) → (((((List.length (Pln.Kids p) : Nat) : Int) != ((partsOfKind (Pln.Kind p)).2)) = false))), (((((List.length (Pln.Kids p) : Nat) : Int) != ((partsOfKind (Pln.Kind p)).2)) = false) → (((((List.length (Pln.Kids p) : Nat) : Int) != ((partsOfKind (Pln.Kind p)).2)) = false))), (((((List.length (Pln.Kids p) : Nat) : Int) != ((partsOfKind (Pln.Kind p)).2)) = false) → (((((List.length (Pln.Kids p) : Nat) : Int) != ((partsOfKind (Pln.Kind p)).2)) = false))), (((((List.length (Pln.Kids p) : Nat) : Int) != ((partsOfKind (Pln.Kind p)).2)) = false) → (((((List.length (Pln.Kids p) : Nat) : Int) != ((partsOfKind (Pln.Kind p)).2)) = false))), (((((List.length (Pln.Kids p) : Nat) : Int) != ((partsOfKind (Pln.Kind p)).2)) = false) → (((((List.length (Pln.Kids p) : Nat) : Int) != ((partsOfKind (Pln.Kind p)).2)) = false))), (((((List.length (Pln.Kids p) : Nat) : Int) != ((partsOfKind (Pln.Kind p)).2)) = false) → (((((List.length (Pln.Kids p) : Nat) : Int) != ((partsOfKind (Pln.Kind p)).2)) = false))), (((((List.length (Pln.Kids p) : Nat) : Int) != ((partsOfKind (Pln.Kind p)).2)) = false) → (((((List.length (Pln.Kids p) : Nat) : Int) != ((partsOfKind (Pln.Kind p)).2)) = false))), (((bif (((List.length (Pln.Kids p) : Nat) : Int) != ((partsOfKind (Pln.Kind p)).2)) then true else (((List.length (Pln.Exprs p) : Nat) : Int) != exprs)) = false) → (((bif (((List.length (Pln.Kids p) : Nat) : Int) != ((partsOfKind (Pln.Kind p)).2)) then true else (((List.length (Pln.Exprs p) : Nat) : Int) != exprs)) = false))), (((bif (((List.length (Pln.Kids p) : Nat) : Int) != ((partsOfKind (Pln.Kind p)).2)) then true else (((List.length (Pln.Exprs p) : Nat) : Int) != exprs)) = false) → (((bif (((List.length (Pln.Kids p) : Nat) : Int) != ((partsOfKind (Pln.Kind p)).2)) then true else (((List.length (Pln.Exprs p) : Nat) : Int) != exprs)) = false))), ((((bif (((List.length (Pln.Kids p) : Nat) : Int) != ((partsOfKind (Pln.Kind p)).2)) then true else (((List.length (Pln.Exprs p) : Nat) : Int) != exprs)) = false) ∧ ((decide (0 < ((partsOfKind (Pln.Kind p)).2))) = true)) → ((((bif (((List.length (Pln.Kids p) : Nat) : Int) != ((partsOfKind (Pln.Kind p)).2)) then true else (((List.length (Pln.Exprs p) : Nat) : Int) != exprs)) = false) ∧ ((decide (0 < ((partsOfKind (Pln.Kind p)).2))) = true)))), (((bif (((List.length (Pln.Kids p) : Nat) : Int) != ((partsOfKind (Pln.Kind p)).2)) then true else (((List.length (Pln.Exprs p) : Nat) : Int) != exprs)) = false) → (((bif (((List.length (Pln.Kids p) : Nat) : Int) != ((partsOfKind (Pln.Kind p)).2)) then true else (((List.length (Pln.Exprs p) : Nat) : Int) != exprs)) = false))), (((bif (((List.length (Pln.Kids p) : Nat) : Int) != ((partsOfKind (Pln.Kind p)).2)) then true else (((List.length (Pln.Exprs p) : Nat) : Int) != exprs)) = false) → (((decide (0 < ((partsOfKind (Pln.Kind p)).2))) = true) → ((((bif (((List.length (Pln.Kids p) : Nat) : Int) != ((partsOfKind (Pln.Kind p)).2)) then true else (((List.length (Pln.Exprs p) : Nat) : Int) != exprs)) = false) ∧ ((decide (0 < ((partsOfKind (Pln.Kind p)).2))) = true))))), (((bif (((List.length (Pln.Kids p) : Nat) : Int) != ((partsOfKind (Pln.Kind p)).2)) then true else (((List.length (Pln.Exprs p) : Nat) : Int) != exprs)) = false) → (((bif (((List.length (Pln.Kids p) : Nat) : Int) != ((partsOfKind (Pln.Kind p)).2)) then true else (((List.length (Pln.Exprs p) : Nat) : Int) != exprs)) = false)))] ?_ ?_))
  ·
   refine ⟨?_, ?_, ?_, ?_, ?_, ?_, ?_, ?_, ?_, ?_, ?_, ?_, ?_, trivial⟩
   ·
    intro g23
    have g23p0 : ((List.length (Pln.Kids p) : Nat) : Int) = ((partsOfKind (Pln.Kind p)).2) := (Go.Am.bne_neg g23)
    first | assumption | exact ⟨by assumption, by assumption⟩
   ·
    intro g24
    have g24p0 : ((List.length (Pln.Kids p) : Nat) : Int) = ((partsOfKind (Pln.Kind p)).2) := (Go.Am.bne_neg g24)
    first | assumption | exact ⟨by assumption, by assumption⟩
   ·
    intro g25
    have g25p0 : ((List.length (Pln.Kids p) : Nat) : Int) = ((partsOfKind (Pln.Kind p)).2) := (Go.Am.bne_neg g25)
    first | assumption | exact ⟨by assumption, by assumption⟩
   ·
    intro g26
    have g26p0 : ((List.length (Pln.Kids p) : Nat) : Int) = ((partsOfKind (Pln.Kind p)).2) := (Go.Am.bne_neg g26)
    first | assumption | exact ⟨by assumption, by assumption⟩
   ·
    intro g27
    have g27p0 : ((List.length (Pln.Kids p) : Nat) : Int) = ((partsOfKind (Pln.Kind p)).2) := (Go.Am.bne_neg g27)
    first | assumption | exact ⟨by assumption, by assumption⟩
   ·
    intro g28
    have g28p0 : ((List.length (Pln.Kids p) : Nat) : Int) = ((partsOfKind (Pln.Kind p)).2) := (Go.Am.bne_neg g28)
    first | assumption | exact ⟨by assumption, by assumption⟩
   ·
    intro g29
    have g29p0 : ((List.length (Pln.Kids p) : Nat) : Int) = ((partsOfKind (Pln.Kind p)).2) := (Go.Am.bne_neg g29)
    first | assumption | exact ⟨by assumption, by assumption⟩
   ·
    intro g30
    have g30p0 : (((List.length (Pln.Kids p) : Nat) : Int) = ((partsOfKind (Pln.Kind p)).2)) ∧ (((List.length (Pln.Exprs p) : Nat) : Int) = exprs) := (And.imp (fun h => (Go.Am.bne_neg h)) (fun h => (Go.Am.bne_neg h)) (Go.Am.or_neg g30))
    first | assumption | exact ⟨by assumption, by assumption⟩
   ·
    intro g31
    have g31p0 : (((List.length (Pln.Kids p) : Nat) : Int) = ((partsOfKind (Pln.Kind p)).2)) ∧ (((List.length (Pln.Exprs p) : Nat) : Int) = exprs) := (And.imp (fun h => (Go.Am.bne_neg h)) (fun h => (Go.Am.bne_neg h)) (Go.Am.or_neg g31))
    first | assumption | exact ⟨by assumption, by assumption⟩
   ·
    intro g32
    have g32p0 : (((List.length (Pln.Kids p) : Nat) : Int) = ((partsOfKind (Pln.Kind p)).2)) ∧ (((List.length (Pln.Exprs p) : Nat) : Int) = exprs) := (And.imp (fun h => (Go.Am.bne_neg h)) (fun h => (Go.Am.bne_neg h)) (Go.Am.or_neg (g32).1))
    have g32p1 : 0 < ((partsOfKind (Pln.Kind p)).2) := (of_decide_eq_true (g32).2)
    first | assumption | exact ⟨by assumption, by assumption⟩
   ·
    intro g33
    have g33p0 : (((List.length (Pln.Kids p) : Nat) : Int) = ((partsOfKind (Pln.Kind p)).2)) ∧ (((List.length (Pln.Exprs p) : Nat) : Int) = exprs) := (And.imp (fun h => (Go.Am.bne_neg h)) (fun h => (Go.Am.bne_neg h)) (Go.Am.or_neg g33))
    first | assumption | exact ⟨by assumption, by assumption⟩
   ·
    intro g34
    have g34p0 : (((List.length (Pln.Kids p) : Nat) : Int) = ((partsOfKind (Pln.Kind p)).2)) ∧ (((List.length (Pln.Exprs p) : Nat) : Int) = exprs) := (And.imp (fun h => (Go.Am.bne_neg h)) (fun h => (Go.Am.bne_neg h)) (Go.Am.or_neg g34))
    intro g35
    have g35p0 : 0 < ((partsOfKind (Pln.Kind p)).2) := (of_decide_eq_true g35)
    first | assumption | exact ⟨by assumption, by assumption⟩
   ·
    intro g36
    have g36p0 : (((List.length (Pln.Kids p) : Nat) : Int) = ((partsOfKind (Pln.Kind p)).2)) ∧ (((List.length (Pln.Exprs p) : Nat) : Int) = exprs) := (And.imp (fun h => (Go.Am.bne_neg h)) (fun h => (Go.Am.bne_neg h)) (Go.Am.or_neg g36))
    first | assumption | exact ⟨by assumption, by assumption⟩
  refine AW.cd (bif (bif (((List.length (Pln.Kids p) : Nat) : Int) != ((partsOfKind (Pln.Kind p)).2)) then true else (((List.length (Pln.Exprs p) : Nat) : Int) != exprs)) then true else (bif (decide (0 < ((partsOfKind (Pln.Kind p)).2))) then (levels == 0) else false)) ?_ ?_
  ·
   intro h42
   have h42q : ((((List.length (Pln.Kids p) : Nat) : Int) ≠ ((partsOfKind (Pln.Kind p)).2)) ∨ (((List.length (Pln.Exprs p) : Nat) : Int) ≠ exprs)) ∨ ((0 < ((partsOfKind (Pln.Kind p)).2)) ∧ (levels = 0)) := (Or.imp (fun h => (Or.imp (fun h => (Go.Am.bne_pos h)) (fun h => (Go.Am.bne_pos h)) (Go.Am.or_pos h))) (fun h => (And.imp (fun h => (of_decide_eq_true h)) (fun h => (Go.Am.beq_pos h)) (Go.Am.and_pos h))) (Go.Am.or_pos h42))
   have e43 := e22.trans (Go.Am.bif_t h42)
   refine AW.seq (AW.r1 hC [6] [] ⟨[(6, sI 0)], []⟩ ?_)
   exact AW.ret (AW.rI 0 e43)
  ·
   intro h44
   have h44q : ((((List.length (Pln.Kids p) : Nat) : Int) = ((partsOfKind (Pln.Kind p)).2)) ∧ (((List.length (Pln.Exprs p) : Nat) : Int) = exprs)) ∧ ((¬ (0 < ((partsOfKind (Pln.Kind p)).2))) ∨ (levels ≠ 0)) := (And.imp (fun h => (And.imp (fun h => (Go.Am.bne_neg h)) (fun h => (Go.Am.bne_neg h)) (Go.Am.or_neg h))) (fun h => (Or.imp (fun h => (of_decide_eq_false h)) (fun h => (Go.Am.beq_neg h)) (Go.Am.and_neg h))) (Go.Am.or_neg h44))
   have e45 := e22.trans (Go.Am.bif_f h44)
   refine AW.kp [0, 1, 2] [] ⟨[(0, sR8 p), (1, sD9 ws), (2, sI levels)], []⟩ ?_
   refine AW.skip (AW.seq (AW.seq (AW.r0 hC [0, 1, 2, 87] [] ⟨[(0, sR8 p), (1, sD9 ws), (2, sI levels), (87, sB (bif (bif ((Pln.Kind p) != 1) then ((Pln.Table p) != 0) else false) then true else (bif ((Pln.Kind p) != 8) then (((List.length (Pln.Cols p) : Nat) : Int) != 0) else false)))], []⟩ [((((Pln.Kind p) != 1) = true) → ((((Pln.Kind p) != 1) = true))), ((((Pln.Kind p) != 1) = true) → ((((Pln.Kind p) != 1) = true))), ((((Pln.Kind p) != 1) = true) → ((((Pln.Kind p) != 1) = true))), ((((Pln.Kind p) != 1) = true) → ((((Pln.Kind p) != 1) = true))), ((((Pln.Kind p) != 1) = true) → ((((Pln.Kind p) != 1) = true))), (((bif ((Pln.Kind p) != 1) then ((Pln.Table p) != 0) else false) = false) → (((bif ((Pln.Kind p) != 1) then ((Pln.Table p) != 0) else false) = false))), (((bif ((Pln.Kind p) != 1) then ((Pln.Table p) != 0) else false) = false) → (((bif ((Pln.Kind p) != 1) then ((Pln.Table p) != 0) else false) = false))), (((bif ((Pln.Kind p) != 1) then ((Pln.Table p) != 0) else false) = false) → (((bif ((Pln.Kind p) != 1) then ((Pln.Table p) != 0) else false) = false))), (((bif ((Pln.Kind p) != 1) then ((Pln.Table p) != 0) else false) = false) → (((bif ((Pln.Kind p) != 1) then ((Pln.Table p) != 0) else false) = false))), (((bif ((Pln.Kind p) != 1) then ((Pln.Table p) != 0) else false) = false) → (((bif ((Pln.Kind p) != 1) then ((Pln.Table p) != 0) else false) = false))), ((((bif ((Pln.Kind p) != 1) then ((Pln.Table p) != 0) else false) = false) ∧ (((Pln.Kind p) != 8) = true)) → ((((bif ((Pln.Kind p) != 1) then ((Pln.Table p) != 0) else false) = false) ∧ (((Pln.Kind p) != 8) = true)))), ((((bif ((Pln.Kind p) != 1) then ((Pln.Table p) != 0) else false) = false) ∧ (((Pln.Kind p) != 8) = true)) → ((((bif ((Pln.Kind p) != 1) then ((Pln.Table p) != 0) else false) = false) ∧ (((Pln.Kind p) != 8) = true)))), ((((bif ((Pln.Kind p) != 1) then ((Pln.Table p) != 0) else false) = false) ∧ (((Pln.Kind p) != 8) = true)) → ((((bif ((Pln.Kind p) != 1) then ((Pln.Table p) != 0) else false) = false) ∧ (((Pln.Kind p) != 8) = true)))), ((((bif ((Pln.Kind p) != 1) then ((Pln.Table p) != 0) else false) = false) ∧ (((Pln.Kind p) != 8) = true)) → ((((bif ((Pln.Kind p) != 1) then ((Pln.Table p) != 0) else false) = false) ∧ (((Pln.Kind p) != 8) = true)))), ((((bif ((Pln.Kind p) != 1) then ((Pln.Table p) != 0) else false) = false) ∧ (((Pln.Kind p) != 8) = true)) → ((((bif ((Pln.Kind p) != 1) then ((Pln.Table p) != 0) else false) = false) ∧ (((Pln.Kind p) != 8) = true)))), (((bif ((Pln.Kind p) != 1) then ((Pln.Table p) != 0) else false) = false) → (((bif ((Pln.Kind p) != 1) then ((Pln.Table p) != 0) else false) = false))), (((bif ((Pln.Kind p) != 1) then ((Pln.Table p) != 0) else false) = false) → ((((Pln.Kind p) != 8) = true) → ((((bif ((Pln.Kind p) != 1) then ((Pln.Table p) != 0) else false) = false) ∧ (((Pln.Kind p) != 8) = true))))), (((bif ((Pln.Kind p) != 1) then ((Pln.Table p) != 0) else false) = false) → (((bif ((Pln.Kind p) != 1) then ((Pln.Table p) != 0) else false) = false)))] ?_ ?_)))
   ·
    refine ⟨?_, ?_, ?_, ?_, ?_, ?_, ?_, ?_, ?_, ?_, ?_, ?_, ?_, ?_, ?_, ?_, ?_, ?_, trivial⟩
    ·
     intro g46
     have g46p0 : (Pln.Kind p) ≠ 1 := (Go.Am.bne_pos g46)
     first | assumption | exact ⟨by assumption, by assumption⟩
    ·
     intro g47
     have g47p0 : (Pln.Kind p) ≠ 1 := (Go.Am.bne_pos g47)
     first | assumption | exact ⟨by assumption, by assumption⟩
    ·
     intro g48
     have g48p0 : (Pln.Kind p) ≠ 1 := (Go.Am.bne_pos g48)
     first | assumption | exact ⟨by assumption, by assumption⟩
    ·
     intro g49
     have g49p0 : (Pln.Kind p) ≠ 1 := (Go.Am.bne_pos g49)
     first | assumption | exact ⟨by assumption, by assumption⟩
    ·
     intro g50
     have g50p0 : (Pln.Kind p) ≠ 1 := (Go.Am.bne_pos g50)
     first | assumption | exact ⟨by assumption, by assumption⟩
    ·
     intro g51
     have g51p0 : ((Pln.Kind p) = 1) ∨ ((Pln.Table p) = 0) := (Or.imp (fun h => (Go.Am.bne_neg h)) (fun h => (Go.Am.bne_neg h)) (Go.Am.and_neg g51))
     first | assumption | exact ⟨by assumption, by assumption⟩
    ·
     intro g52
     have g52p0 : ((Pln.Kind p) = 1) ∨ ((Pln.Table p) = 0) := (Or.imp (fun h => (Go.Am.bne_neg h)) (fun h => (Go.Am.bne_neg h)) (Go.Am.and_neg g52))
     first | assumption | exact ⟨by assumption, by assumption⟩
    ·
     intro g53
     have g53p0 : ((Pln.Kind p) = 1) ∨ ((Pln.Table p) = 0) := (Or.imp (fun h => (Go.Am.bne_neg h)) (fun h => (Go.Am.bne_neg h)) (Go.Am.and_neg g53))
     first | assumption | exact ⟨by assumption, by assumption⟩
    ·
     intro g54
     have g54p0 : ((Pln.Kind p) = 1) ∨ ((Pln.Table p) = 0) := (Or.imp (fun h => (Go.Am.bne_neg h)) (fun h => (Go.Am.bne_neg h)) (Go.Am.and_neg g54))
     first | assumption | exact ⟨by assumption, by assumption⟩
    ·
     intro g55
     have g55p0 : ((Pln.Kind p) = 1) ∨ ((Pln.Table p) = 0) := (Or.imp (fun h => (Go.Am.bne_neg h)) (fun h => (Go.Am.bne_neg h)) (Go.Am.and_neg g55))
     first | assumption | exact ⟨by assumption, by assumption⟩
    ·
     intro g56
     have g56p0 : ((Pln.Kind p) = 1) ∨ ((Pln.Table p) = 0) := (Or.imp (fun h => (Go.Am.bne_neg h)) (fun h => (Go.Am.bne_neg h)) (Go.Am.and_neg (g56).1))
     have g56p1 : (Pln.Kind p) ≠ 8 := (Go.Am.bne_pos (g56).2)
     first | assumption | exact ⟨by assumption, by assumption⟩
    ·
     intro g57
     have g57p0 : ((Pln.Kind p) = 1) ∨ ((Pln.Table p) = 0) := (Or.imp (fun h => (Go.Am.bne_neg h)) (fun h => (Go.Am.bne_neg h)) (Go.Am.and_neg (g57).1))
     have g57p1 : (Pln.Kind p) ≠ 8 := (Go.Am.bne_pos (g57).2)
     first | assumption | exact ⟨by assumption, by assumption⟩
    ·
     intro g58
     have g58p0 : ((Pln.Kind p) = 1) ∨ ((Pln.Table p) = 0) := (Or.imp (fun h => (Go.Am.bne_neg h)) (fun h => (Go.Am.bne_neg h)) (Go.Am.and_neg (g58).1))
     have g58p1 : (Pln.Kind p) ≠ 8 := (Go.Am.bne_pos (g58).2)
     first | assumption | exact ⟨by assumption, by assumption⟩
    ·
     intro g59
     have g59p0 : ((Pln.Kind p) = 1) ∨ ((Pln.Table p) = 0) := (Or.imp (fun h => (Go.Am.bne_neg h)) (fun h => (Go.Am.bne_neg h)) (Go.Am.and_neg (g59).1))
     have g59p1 : (Pln.Kind p) ≠ 8 := (Go.Am.bne_pos (g59).2)
     first | assumption | exact ⟨by assumption, by assumption⟩
    ·
     intro g60
     have g60p0 : ((Pln.Kind p) = 1) ∨ ((Pln.Table p) = 0) := (Or.imp (fun h => (Go.Am.bne_neg h)) (fun h => (Go.Am.bne_neg h)) (Go.Am.and_neg (g60).1))
     have g60p1 : (Pln.Kind p) ≠ 8 := (Go.Am.bne_pos (g60).2)
     first | assumption | exact ⟨by assumption, by assumption⟩
    ·
     intro g61
     have g61p0 : ((Pln.Kind p) = 1) ∨ ((Pln.Table p) = 0) := (Or.imp (fun h => (Go.Am.bne_neg h)) (fun h => (Go.Am.bne_neg h)) (Go.Am.and_neg g61))
     first | assumption | exact ⟨by assumption, by assumption⟩
    ·
     intro g62
     have g62p0 : ((Pln.Kind p) = 1) ∨ ((Pln.Table p) = 0) := (Or.imp (fun h => (Go.Am.bne_neg h)) (fun h => (Go.Am.bne_neg h)) (Go.Am.and_neg g62))
     intro g63
     have g63p0 : (Pln.Kind p) ≠ 8 := (Go.Am.bne_pos g63)
     first | assumption | exact ⟨by assumption, by assumption⟩
    ·
     intro g64
     have g64p0 : ((Pln.Kind p) = 1) ∨ ((Pln.Table p) = 0) := (Or.imp (fun h => (Go.Am.bne_neg h)) (fun h => (Go.Am.bne_neg h)) (Go.Am.and_neg g64))
     first | assumption | exact ⟨by assumption, by assumption⟩
   refine AW.cd (bif (bif ((Pln.Kind p) != 1) then ((Pln.Table p) != 0) else false) then true else (bif ((Pln.Kind p) != 8) then (((List.length (Pln.Cols p) : Nat) : Int) != 0) else false)) ?_ ?_
   ·
    intro h70
    have h70q : (((Pln.Kind p) ≠ 1) ∧ ((Pln.Table p) ≠ 0)) ∨ (((Pln.Kind p) ≠ 8) ∧ (((List.length (Pln.Cols p) : Nat) : Int) ≠ 0)) := (Or.imp (fun h => (And.imp (fun h => (Go.Am.bne_pos h)) (fun h => (Go.Am.bne_pos h)) (Go.Am.and_pos h))) (fun h => (And.imp (fun h => (Go.Am.bne_pos h)) (fun h => (Go.Am.bne_pos h)) (Go.Am.and_pos h))) (Go.Am.or_pos h70))
    have e71 := e45.trans (Go.Am.bif_t h70)
    refine AW.seq (AW.r1 hC [6] [] ⟨[(6, sI 0)], []⟩ ?_)
    exact AW.ret (AW.rI 0 e71)
   ·
    intro h72
    have h72q : (((Pln.Kind p) = 1) ∨ ((Pln.Table p) = 0)) ∧ (((Pln.Kind p) = 8) ∨ (((List.length (Pln.Cols p) : Nat) : Int) = 0)) := (And.imp (fun h => (Or.imp (fun h => (Go.Am.bne_neg h)) (fun h => (Go.Am.bne_neg h)) (Go.Am.and_neg h))) (fun h => (Or.imp (fun h => (Go.Am.bne_neg h)) (fun h => (Go.Am.bne_neg h)) (Go.Am.and_neg h))) (Go.Am.or_neg h72))
    have e73 := e45.trans (Go.Am.bif_f h72)
    refine AW.kp [0, 1, 2] [] ⟨[(0, sR8 p), (1, sD9 ws), (2, sI levels)], []⟩ ?_
    refine AW.skip (AW.seq (AW.seq (AW.r1 hC [0, 1, 2, 92] [] ⟨[(0, sR8 p), (1, sD9 ws), (2, sI levels), (92, sB ((Pln.Kind p) == 1))], []⟩ ?_)))
    refine AW.cd ((Pln.Kind p) == 1) ?_ ?_
    ·
     intro h90
     have h90q := (Go.Am.beq_pos h90)
     have e91 := e73.trans (Go.Am.bif_t h90)
     refine AW.seq (AW.seq (AW.r0 hC [0, 1, 106] [] ⟨[(0, sR8 p), (1, sD9 ws), (106, sB (bif (decide ((Pln.Table p) < 0)) then true else (decide (((List.length ws : Nat) : Int) ≤ (Pln.Table p)))))], []⟩ [(((decide ((Pln.Table p) < 0)) = false) → (((decide ((Pln.Table p) < 0)) = false))), (((decide ((Pln.Table p) < 0)) = false) → (((decide ((Pln.Table p) < 0)) = false))), (((decide ((Pln.Table p) < 0)) = false) → (((decide ((Pln.Table p) < 0)) = false))), (((decide ((Pln.Table p) < 0)) = false) → (((decide ((Pln.Table p) < 0)) = false))), (((decide ((Pln.Table p) < 0)) = false) → (((decide ((Pln.Table p) < 0)) = false))), (((decide ((Pln.Table p) < 0)) = false) → (((decide ((Pln.Table p) < 0)) = false))), (((decide ((Pln.Table p) < 0)) = false) → (((decide ((Pln.Table p) < 0)) = false)))] ?_ ?_))
     ·
      refine ⟨?_, ?_, ?_, ?_, ?_, ?_, ?_, trivial⟩
      ·
       intro g92
       have g92p0 : ¬ ((Pln.Table p) < 0) := (of_decide_eq_false g92)
       first | assumption | exact ⟨by assumption, by assumption⟩
      ·
       intro g93
       have g93p0 : ¬ ((Pln.Table p) < 0) := (of_decide_eq_false g93)
       first | assumption | exact ⟨by assumption, by assumption⟩
      ·
       intro g94
       have g94p0 : ¬ ((Pln.Table p) < 0) := (of_decide_eq_false g94)
       first | assumption | exact ⟨by assumption, by assumption⟩
      ·
       intro g95
       have g95p0 : ¬ ((Pln.Table p) < 0) := (of_decide_eq_false g95)
       first | assumption | exact ⟨by assumption, by assumption⟩
      ·
       intro g96
       have g96p0 : ¬ ((Pln.Table p) < 0) := (of_decide_eq_false g96)
       first | assumption | exact ⟨by assumption, by assumption⟩
      ·
       intro g97
       have g97p0 : ¬ ((Pln.Table p) < 0) := (of_decide_eq_false g97)
       first | assumption | exact ⟨by assumption, by assumption⟩
      ·
       intro g98
       have g98p0 : ¬ ((Pln.Table p) < 0) := (of_decide_eq_false g98)
       first | assumption | exact ⟨by assumption, by assumption⟩
     refine AW.cd (bif (decide ((Pln.Table p) < 0)) then true else (decide (((List.length ws : Nat) : Int) ≤ (Pln.Table p)))) ?_ ?_
     ·
      intro h104
      have h104q : ((Pln.Table p) < 0) ∨ (((List.length ws : Nat) : Int) ≤ (Pln.Table p)) := (Or.imp (fun h => (of_decide_eq_true h)) (fun h => (of_decide_eq_true h)) (Go.Am.or_pos h104))
      have e105 := e91.trans (Go.Am.bif_t h104)
      refine AW.seq (AW.r1 hC [6] [] ⟨[(6, sI 0)], []⟩ ?_)
      exact AW.ret (AW.rI 0 e105)
     ·
      intro h106
      have h106q : (¬ ((Pln.Table p) < 0)) ∧ (¬ (((List.length ws : Nat) : Int) ≤ (Pln.Table p))) := (And.imp (fun h => (of_decide_eq_false h)) (fun h => (of_decide_eq_false h)) (Go.Am.or_neg h106))
      have e107 := e91.trans (Go.Am.bif_f h106)
      refine AW.kp [0, 1] [] ⟨[(0, sR8 p), (1, sD9 ws)], []⟩ ?_
      refine AW.skip (AW.seq (AW.r0 hC [6] [] ⟨[(6, sI (List.getD ws (Int.toNat (Pln.Table p)) 0))], []⟩ [IX (Pln.Table p) ((List.length ws : Nat) : Int)] ?_ ?_))
      ·
       refine ⟨?_, trivial⟩
       ·
        refine IX.of ?_
        first | omega | (have := hI0.1; omega) | (have := hI0.1; simp only [List.length_set] at *; omega) | (have := hJ0.1; omega)
      exact AW.ret (AW.rI (List.getD ws (Int.toNat (Pln.Table p)) 0) e107)
    ·
     intro h108
     have h108q := (Go.Am.beq_neg h108)
     have e109 := e73.trans (Go.Am.bif_f h108)
     refine AW.kp [0, 1, 2] [] ⟨[(0, sR8 p), (1, sD9 ws), (2, sI levels)], []⟩ ?_
     refine AW.skip (AW.seq (AW.r1 hC [0, 1, 2, 9] [36] ⟨[(0, sR8 p), (1, sD9 ws), (2, sI levels), (9, .eref 36 1 0 [])], [(36, .arr 1 (.int .i64) ((List.replicate 2 0) : List Int))]⟩ ?_))
     refine AW.seq (AW.seq (AW.r1 hC [0, 1, 2, 9, 118, 119] [36] ⟨[(0, sR8 p), (1, sD9 ws), (2, sI levels), (9, .eref 36 1 0 []), (118, sI ((List.length (Pln.Kids p) : Nat) : Int)), (119, sI 0)], [(36, .arr 1 (.int .i64) ((List.replicate 2 0) : List Int))]⟩ ?_))
     refine AW.cutQ (α := (List Int)) (fun x => ⟨[(0, sR8 p), (9, .eref 36 1 0 [])], [(36, .arr 1 (.int .i64) (x : List Int))]⟩) (fun x => (List.length x = 2 ∧ ∀ j, 0 ≤ List.getD x j 0 ∧ List.getD x j 0 ≤ 6) ∧ (widthBelow_l0 (widthBelow_r fuel) p ws levels ((List.length (Pln.Kids p)) - 0 + 1) 0 (List.replicate 2 0)) = (.inl x)) ?_ ?_
     ·
      skip
      refine AW.block (AW.loop (α := Nat × (List Int)) (fun x => ⟨[(0, sR8 p), (1, sD9 ws), (2, sI levels), (9, .eref 36 1 0 []), (118, sI ((List.length (Pln.Kids p) : Nat) : Int)), (119, sI ((x.1 : Nat) : Int))], [(36, .arr 1 (.int .i64) (x.2 : List Int))]⟩) (fun x => (List.length x.2 = 2 ∧ ∀ j, 0 ≤ List.getD x.2 j 0 ∧ List.getD x.2 j 0 ≤ 6) ∧ ∃ k, (List.length (Pln.Kids p)) - x.1 < k ∧ (widthBelow_l0 (widthBelow_r fuel) p ws levels ((List.length (Pln.Kids p)) - 0 + 1) 0 (List.replicate 2 0)) = widthBelow_l0 (widthBelow_r fuel) p ws levels k x.1 x.2) (fun x => (List.length (Pln.Kids p)) - x.1) (0, (List.replicate 2 0)) (by kernel_rfl) ⟨?_, _, Nat.lt_succ_self _, rfl⟩ ?_)
      ·
       show List.length (List.replicate 2 0) = 2 ∧ ∀ j, 0 ≤ List.getD (List.replicate 2 0) j 0 ∧ List.getD (List.replicate 2 0) j 0 ≤ 6
       exact ar_new
      ·
       intro x hR
       obtain ⟨v119, ar36⟩ := x
       obtain ⟨hI0, k208, hk206, e207⟩ := hR
       replace hI0 : List.length ar36 = 2 ∧ ∀ j, 0 ≤ List.getD ar36 j 0 ∧ List.getD ar36 j 0 ≤ 6 := hI0
       replace hk206 : (List.length (Pln.Kids p)) - v119 < k208 := hk206
       obtain ⟨k208q, rfl⟩ : ∃ k, k208 = k + 1 := ⟨k208 - 1, by omega⟩
       refine AW.seq (AW.r1 hC [0, 1, 2, 9, 118, 119, 120] [36] ⟨[(0, sR8 p), (1, sD9 ws), (2, sI levels), (9, .eref 36 1 0 []), (118, sI ((List.length (Pln.Kids p) : Nat) : Int)), (119, sI ((v119 : Nat) : Int)), (120, sB (decide (((v119 : Nat) : Int) < ((List.length (Pln.Kids p) : Nat) : Int))))], [(36, .arr 1 (.int .i64) (ar36 : List Int))]⟩ ?_)
       refine AW.seq (AW.cd (decide (((v119 : Nat) : Int) < ((List.length (Pln.Kids p) : Nat) : Int))) ?_ ?_)
       ·
        intro h213
        have h213q := (of_decide_eq_true h213)
        have e214 := e207.trans (Go.Am.bif_t h213)
        refine AW.kp [0, 1, 2, 9, 118, 119] [36] ⟨[(0, sR8 p), (1, sD9 ws), (2, sI levels), (9, .eref 36 1 0 []), (118, sI ((List.length (Pln.Kids p) : Nat) : Int)), (119, sI ((v119 : Nat) : Int))], [(36, .arr 1 (.int .i64) (ar36 : List Int))]⟩ ?_
        refine AW.skip (AW.seq (AW.block (AW.seq (AW.r1 hC [0, 1, 2, 9, 10, 118, 119] [36] ⟨[(0, sR8 p), (1, sD9 ws), (2, sI levels), (9, .eref 36 1 0 []), (10, sI ((v119 : Nat) : Int)), (118, sI ((List.length (Pln.Kids p) : Nat) : Int)), (119, sI ((v119 : Nat) : Int))], [(36, .arr 1 (.int .i64) (ar36 : List Int))]⟩ ?_))))
        refine AW.seq (AW.r0 hC [0, 1, 2, 9, 10, 118, 119] [36] ⟨[(0, sR8 p), (1, sD9 ws), (2, sI levels), (9, .eref 36 1 0 []), (10, sI ((v119 : Nat) : Int)), (118, sI ((List.length (Pln.Kids p) : Nat) : Int)), (119, sI ((v119 : Nat) : Int))], [(36, .arr 1 (.int .i64) ((List.set ar36 v119 ((widthBelow_r fuel) (List.getD (Pln.Kids p) v119 Pln.zero) ws (levels - 1))) : List Int))]⟩ [IX ((v119 : Nat) : Int) ((List.length (Pln.Kids p) : Nat) : Int), R64 (levels - 1), ((VW ws ∧ (0 ≤ (levels - 1) ∧ (levels - 1) ≤ 8)) ∧ SizeOf.sizeOf (List.getD (Pln.Kids p) v119 Pln.zero) < fuel), IX ((v119 : Nat) : Int) ((2 : Nat) : Int), (((v119 : Nat) : Int) < ((List.length ar36 : Nat) : Int))] ?_ ?_)
        ·
         refine ⟨?_, ?_, ?_, ?_, ?_, trivial⟩
         ·
          refine IX.of ?_
          first | omega | (have := hI0.1; omega) | (have := hI0.1; simp only [List.length_set] at *; omega) | (have := hJ0.1; omega)
         ·
          refine R64.of ?_
          first | omega | (have := hI0.1; omega) | (have := hI0.1; simp only [List.length_set] at *; omega) | (have := hJ0.1; omega)
         ·
          exact ⟨⟨hpre.1.1, by omega⟩, Nat.lt_of_lt_of_le (pkid_lt (by omega)) (Nat.le_of_lt_succ hpre.2)⟩
         ·
          refine IX.of ?_
          first | omega | (have := hI0.1; omega) | (have := hI0.1; simp only [List.length_set] at *; omega) | (have := hJ0.1; omega)
         ·
          first | omega | (have := hI0.1; omega) | (have := hI0.1; simp only [List.length_set] at *; omega) | (have := hJ0.1; omega)
        refine AW.seq (AW.r0 hC [0, 1, 2, 9, 118, 119, 137] [36] ⟨[(0, sR8 p), (1, sD9 ws), (2, sI levels), (9, .eref 36 1 0 []), (118, sI ((List.length (Pln.Kids p) : Nat) : Int)), (119, sI ((v119 : Nat) : Int)), (137, sB ((List.getD (List.set ar36 v119 ((widthBelow_r fuel) (List.getD (Pln.Kids p) v119 Pln.zero) ws (levels - 1))) v119 0) == 0))], [(36, .arr 1 (.int .i64) ((List.set ar36 v119 ((widthBelow_r fuel) (List.getD (Pln.Kids p) v119 Pln.zero) ws (levels - 1))) : List Int))]⟩ [IX ((v119 : Nat) : Int) ((2 : Nat) : Int), (((v119 : Nat) : Int) < ((List.length (List.set ar36 v119 ((widthBelow_r fuel) (List.getD (Pln.Kids p) v119 Pln.zero) ws (levels - 1))) : Nat) : Int))] ?_ ?_)
        ·
         refine ⟨?_, ?_, trivial⟩
         ·
          refine IX.of ?_
          first | omega | (have := hI0.1; omega) | (have := hI0.1; simp only [List.length_set] at *; omega) | (have := hJ0.1; omega)
         ·
          first | omega | (have := hI0.1; omega) | (have := hI0.1; simp only [List.length_set] at *; omega) | (have := hJ0.1; omega)
        refine AW.cd ((List.getD (List.set ar36 v119 ((widthBelow_r fuel) (List.getD (Pln.Kids p) v119 Pln.zero) ws (levels - 1))) v119 0) == 0) ?_ ?_
        ·
         intro h234
         have h234q := (Go.Am.beq_pos h234)
         have e235 := e214.trans (Go.Am.bif_t h234)
         refine AW.seq (AW.r1 hC [6] [] ⟨[(6, sI 0)], []⟩ ?_)
         refine AW.ret ?_
         have e236 := e109.trans (Go.Am.elim_r e235)
         exact AW.rI 0 e236
        ·
         intro h237
         have h237q := (Go.Am.beq_neg h237)
         have e238 := e214.trans (Go.Am.bif_f h237)
         refine AW.kp [0, 1, 2, 9, 118, 119] [36] ⟨[(0, sR8 p), (1, sD9 ws), (2, sI levels), (9, .eref 36 1 0 []), (118, sI ((List.length (Pln.Kids p) : Nat) : Int)), (119, sI ((v119 : Nat) : Int))], [(36, .arr 1 (.int .i64) ((List.set ar36 v119 ((widthBelow_r fuel) (List.getD (Pln.Kids p) v119 Pln.zero) ws (levels - 1))) : List Int))]⟩ ?_
         refine AW.skip (AW.r0 hC [0, 1, 2, 9, 118, 119] [36] ⟨[(0, sR8 p), (1, sD9 ws), (2, sI levels), (9, .eref 36 1 0 []), (118, sI ((List.length (Pln.Kids p) : Nat) : Int)), (119, sI ((v119 + 1 : Nat) : Int))], [(36, .arr 1 (.int .i64) ((List.set ar36 v119 ((widthBelow_r fuel) (List.getD (Pln.Kids p) v119 Pln.zero) ws (levels - 1))) : List Int))]⟩ [R64 ((v119 + 1 : Nat) : Int)] ?_ ?_)
         ·
          refine ⟨?_, trivial⟩
          ·
           refine R64.of ?_
           first | omega | (have := hI0.1; omega) | (have := hI0.1; simp only [List.length_set] at *; omega) | (have := hJ0.1; omega)
         refine AW.back (x := (v119, ar36)) (v119 + 1, (List.set ar36 v119 ((widthBelow_r fuel) (List.getD (Pln.Kids p) v119 Pln.zero) ws (levels - 1)))) (by kernel_rfl) ⟨?_, k208q, ?_, e238⟩ ?_
         ·
          show List.length (List.set ar36 v119 ((widthBelow_r fuel) (List.getD (Pln.Kids p) v119 Pln.zero) ws (levels - 1))) = 2 ∧ ∀ j, 0 ≤ List.getD (List.set ar36 v119 ((widthBelow_r fuel) (List.getD (Pln.Kids p) v119 Pln.zero) ws (levels - 1))) j 0 ∧ List.getD (List.set ar36 v119 ((widthBelow_r fuel) (List.getD (Pln.Kids p) v119 Pln.zero) ws (levels - 1))) j 0 ≤ 6
          exact ar_set hI0 (widthBelow_b hpre.1.1 fuel _ _)
         ·
          show (List.length (Pln.Kids p)) - (v119 + 1) < k208q
          first | omega | (simp only [lens]; omega)
         ·
          show (List.length (Pln.Kids p)) - (v119 + 1) < (List.length (Pln.Kids p)) - v119
          first | omega | (simp only [lens]; omega)
       ·
        intro h239
        have h239q := (of_decide_eq_false h239)
        have e240 := e207.trans (Go.Am.bif_f h239)
        refine AW.kp [0, 9] [36] ⟨[(0, sR8 p), (9, .eref 36 1 0 [])], [(36, .arr 1 (.int .i64) (ar36 : List Int))]⟩ ?_
        refine AW.exit ?_
        refine AW.meet ar36 (by kernel_rfl) ⟨?_, e240⟩
        show List.length ar36 = 2 ∧ ∀ j, 0 ≤ List.getD ar36 j 0 ∧ List.getD ar36 j 0 ≤ 6
        exact hI0
     ·
      intro ar36 hR
      obtain ⟨hJ0, e241⟩ := hR
      replace hJ0 : List.length ar36 = 2 ∧ ∀ j, 0 ≤ List.getD ar36 j 0 ∧ List.getD ar36 j 0 ≤ 6 := hJ0
      have e242 := e109.trans (Go.Am.elim_l e241)
      refine AW.seq (AW.r0 hC [6] [] ⟨[(6, sI (widthOver p (List.getD ar36 0 0) (List.getD ar36 1 0)))], []⟩ [IX (0 : Int) ((2 : Nat) : Int), ((0 : Int) < ((List.length ar36 : Nat) : Int)), IX (1 : Int) ((2 : Nat) : Int), ((1 : Int) < ((List.length ar36 : Nat) : Int)), ((0 ≤ (List.getD ar36 0 0) ∧ (List.getD ar36 0 0) ≤ 6) ∧ (0 ≤ (List.getD ar36 1 0) ∧ (List.getD ar36 1 0) ≤ 6))] ?_ ?_)
      ·
       refine ⟨?_, ?_, ?_, ?_, ?_, trivial⟩
       ·
        refine IX.of ?_
        first | omega | (have := hI0.1; omega) | (have := hI0.1; simp only [List.length_set] at *; omega) | (have := hJ0.1; omega)
       ·
        first | omega | (have := hI0.1; omega) | (have := hI0.1; simp only [List.length_set] at *; omega) | (have := hJ0.1; omega)
       ·
        refine IX.of ?_
        first | omega | (have := hI0.1; omega) | (have := hI0.1; simp only [List.length_set] at *; omega) | (have := hJ0.1; omega)
       ·
        first | omega | (have := hI0.1; omega) | (have := hI0.1; simp only [List.length_set] at *; omega) | (have := hJ0.1; omega)
       ·
        exact ⟨hJ0.2 0, hJ0.2 1⟩
      exact AW.ret (AW.rI (widthOver p (List.getD ar36 0 0) (List.getD ar36 1 0)) e242)

theorem widthBelow_fu : AllTV (widthBelow_sp.ps.map PK.ty) (fun tvs => widthBelow_sp.pre tvs → ∃ k, (widthBelow_spn k).pre tvs ∧ (widthBelow_spn k).fn tvs = widthBelow_sp.fn tvs ∧ (widthBelow_spn k).bx tvs = widthBelow_sp.bx tvs) :=
 (fun (p : Pln) (ws : List Int) (levels : Int) h => ⟨SizeOf.sizeOf p + 1, (show (VW ws ∧ (0 ≤ levels ∧ levels ≤ 8)) ∧ SizeOf.sizeOf p < SizeOf.sizeOf p + 1 from ⟨h, Nat.lt_succ_self _⟩), (show (widthBelow_spn (SizeOf.sizeOf p + 1)).fn [⟨(.named 2), (p : Pln)⟩, ⟨(.slice (.int .i64)), (ws : List Int)⟩, ⟨(.int .i64), (levels : Int)⟩] = ([⟨(.int .i64), (widthBelow_r (SizeOf.sizeOf p + 1) p ws levels)⟩] : List TV) from by kernel_rfl).trans (show ([⟨(.int .i64), (widthBelow_r (SizeOf.sizeOf p + 1) p ws levels)⟩] : List TV) = widthBelow_sp.fn [⟨(.named 2), (p : Pln)⟩, ⟨(.slice (.int .i64)), (ws : List Int)⟩, ⟨(.int .i64), (levels : Int)⟩] from by kernel_rfl), by kernel_rfl⟩)

theorem widthBelow_ok : FnOK Try.prog 28 widthBelow_sp := FnOK.of_fuel widthBelow_okn (fun _ => rfl) (fun _ => rfl) (AllTV.get widthBelow_fu)

end
end Go.Proofs.Ytbcgmoaipneoeaa
