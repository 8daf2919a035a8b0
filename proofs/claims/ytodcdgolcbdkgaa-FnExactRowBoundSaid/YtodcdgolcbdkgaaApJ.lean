/-
  A part of the proof of this claim (ApJ): what functions of the program compute, and plain facts of that. No conditions.
-/
import Derived.Test.YtodcdgolcbdkgaaApI
set_option linter.all false
namespace Go.Proofs.Ytodcdgolcbdkgaa
open Go Go.Am
noncomputable section

/-- A plan that is valid for tables with these numbers of rows. -/
def PB (c : List Int) (p : Pln) : Prop := PVn c.length p ∧ ∀ j, j < c.length → 0 ≤ c.getD j 0 ∧ c.getD j 0 ≤ 400

theorem PB.kid {c : List Int} {p : Pln} (h : PB c p) {i : Nat} (hi : i < p.Kids.length) : PB c (p.Kids.getD i Pln.zero) := ⟨h.1.kid hi, h.2⟩

theorem le_mul {a b : Int} (h1 : 0 ≤ a ∧ a ≤ 1000000000) (h2 : 0 ≤ b ∧ b ≤ 1000000000) : 0 ≤ a * b ∧ a * b ≤ 1000000000000000000 :=
 ⟨Int.mul_nonneg h1.1 h2.1, by
  have := Int.mul_le_mul h1.2 h2.2 h2.1 (show (0 : Int) ≤ 1000000000 by decide)
  omega⟩

def bound_j0 (self : Pln → (List Int) → Int) (p : Pln) (c : List Int) : Int :=
 (bif (((List.length (Pln.Cols p) : Nat) : Int) == 0) then (if 1 < (self (List.getD (Pln.Kids p) 0 Pln.zero) c) then 1 else (self (List.getD (Pln.Kids p) 0 Pln.zero) c)) else (self (List.getD (Pln.Kids p) 0 Pln.zero) c))

def bound_j1 (self : Pln → (List Int) → Int) (p : Pln) (c : List Int) : Int :=
 (bif ((Pln.Kind p) == 8) then (Go.Am.andThen (bound_j0 self p c) (fun z => (fun (n : Int) => n) z)) else (self (List.getD (Pln.Kids p) 0 Pln.zero) c))

def bound_j2 (self : Pln → (List Int) → Int) (p : Pln) (c : List Int) : Int :=
 (bif ((Pln.Kind p) == 6) then ((self (List.getD (Pln.Kids p) 0 Pln.zero) c) + (self (List.getD (Pln.Kids p) 1 Pln.zero) c)) else (Go.Am.andThen (bound_j1 self p c) (fun z => (fun (n : Int) => n) z)))

def bound_j3 (self : Pln → (List Int) → Int) (p : Pln) (c : List Int) : Int :=
 (bif ((Pln.Kind p) == 5) then ((self (List.getD (Pln.Kids p) 0 Pln.zero) c) * (if (self (List.getD (Pln.Kids p) 1 Pln.zero) c) > 1 then (self (List.getD (Pln.Kids p) 1 Pln.zero) c) else 1)) else (Go.Am.andThen (bound_j2 self p c) (fun z => (fun (n : Int) => n) z)))

def bound_j4 (self : Pln → (List Int) → Int) (p : Pln) (c : List Int) : Int :=
 (bif ((Pln.Kind p) == 4) then ((self (List.getD (Pln.Kids p) 0 Pln.zero) c) * (self (List.getD (Pln.Kids p) 1 Pln.zero) c)) else (Go.Am.andThen (bound_j3 self p c) (fun z => (fun (n : Int) => n) z)))

def bound_r : Nat → Pln → (List Int) → Int
 | 0, p, c => 0
 | fuel + 1, p, c => (bif ((Pln.Kind p) == 1) then (List.getD c (Int.toNat (Pln.Table p)) 0) else (Go.Am.andThen (bound_j4 (bound_r fuel) p c) (fun z => (fun (n : Int) => (if 1000000000 < n then 1000000000 else n)) z)))

def bound (p : Pln) (c : List Int) : Int := bound_r (SizeOf.sizeOf p + 1) p c

def bound_spn (fuel : Nat) : FnSpec := mkSpec [.rd (.named 2), .val (.slice (.int .i64))] [.val (.int .i64)] (fun (p : Pln) (c : List Int) => (PB c p) ∧ SizeOf.sizeOf p < fuel) (fun (p : Pln) (c : List Int) => [⟨(.int .i64), (bound_r fuel p c)⟩])

def bound_sp : FnSpec := mkSpec [.rd (.named 2), .val (.slice (.int .i64))] [.val (.int .i64)] (fun (p : Pln) (c : List Int) => PB c p) (fun (p : Pln) (c : List Int) => [⟨(.int .i64), (bound p c)⟩])

theorem bound_b : ∀ (f : Nat) (p : Pln) (c : List Int), PB c p → 0 ≤ bound_r f p c ∧ bound_r f p c ≤ 1000000000 := by
 intro f
 induction f with
 | zero => intro p c h; exact ⟨by show (0 : Int) ≤ 0; decide, by show (0 : Int) ≤ 1000000000; decide⟩
 | succ f ih =>
  intro p c h
  obtain ⟨hO, hT, -⟩ := h.1.of
  have hpc := parts2 (Pln.Kind p)
  have hOk := hO.kids
  have hOc := hO.kind
  have e : ∀ j : Int, p.Kind ≠ j → (p.Kind == j) = false := fun j h => beq_false_of_ne h
  have t : ∀ j : Int, p.Kind = j → (p.Kind == j) = true := fun j h => beq_iff_eq.2 h
  unfold bound_r
  by_cases h1 : p.Kind = 1
  ·
   rw [t 1 h1, cond_true]
   have := hT h1
   have := h.2 p.Table.toNat (by omega)
   omega
  ·
   rw [e 1 h1, cond_false]
   have a := ih _ c (h.kid (i := 0) (by omega))
   have hn : 0 ≤ bound_j4 (bound_r f) p c := by
    unfold bound_j4 bound_j3 bound_j2 bound_j1 bound_j0
    simp only [Go.Am.andThen]
    by_cases h4 : p.Kind = 4
    ·
     rw [t 4 h4, cond_true]
     exact Int.mul_nonneg a.1 (ih _ c (h.kid (i := 1) (by omega))).1
    ·
     rw [e 4 h4, cond_false]
     by_cases h5 : p.Kind = 5
     ·
      rw [t 5 h5, cond_true]
      exact Int.mul_nonneg a.1 (by split <;> omega)
     ·
      rw [e 5 h5, cond_false]
      by_cases h6 : p.Kind = 6
      ·
       rw [t 6 h6, cond_true]
       have b := ih _ c (h.kid (i := 1) (by omega))
       omega
      ·
       rw [e 6 h6, cond_false]
       cases (p.Kind == 8) with
       | false => exact a.1
       | true =>
        rw [cond_true]
        cases (((List.length (Pln.Cols p) : Nat) : Int) == 0) with
        | false => exact a.1
        | true =>
         rw [cond_true]
         split <;> omega
   simp only [Go.Am.andThen]
   split <;> omega

theorem bound_okn (fuel : Nat) : FnOK Try.prog 90 (bound_spn fuel) := by
 induction fuel with
 | zero => exact FnOK.never Try.func90 (by kernel_rfl) rfl (fun _ _ h => absurd h.2 (Nat.not_lt_zero _))
 | succ fuel ih => ?_
 have hC : CtxOK Try.prog (mkCtx tyL [(90, (bound_spn fuel))]) := CtxOK.cons ih (CtxOK.nil tyOK)
 have hM : Try.prog.follows .mixedOrders = true := Try.checked.mixed
 refine FnOK.of_body Try.func90 (by kernel_rfl) rfl (C := (mkCtx tyL [(90, (bound_spn fuel))])) hC.ty (by kernel_rfl) ?_
 intro (p : Pln) (c : List Int) hwf hpre E
 have hpre : (PB c p) ∧ SizeOf.sizeOf p < fuel + 1 := hpre
 have hw_p : Wf ⟨(.named 2), (p : Pln)⟩ := hwf _ (List.Mem.head _)
 have hr_p_Kind : -9223372036854775808 ≤ Pln.Kind p ∧ Pln.Kind p ≤ 9223372036854775807 := (hw_p.field (tv := ⟨(.int .i64), Pln.Kind p⟩) (List.Mem.head _)).int_inv
 have hr_p_Table : -9223372036854775808 ≤ Pln.Table p ∧ Pln.Table p ≤ 9223372036854775807 := (hw_p.field (tv := ⟨(.int .i64), Pln.Table p⟩) (List.Mem.tail _ (List.Mem.head _))).int_inv
 have hl_p_Exprs : ((List.length (Pln.Exprs p) : Nat) : Int) ≤ 9223372036854775807 := (hw_p.field (tv := ⟨(.slice (.named 1)), Pln.Exprs p⟩) (List.Mem.tail _ (List.Mem.tail _ (List.Mem.head _)))).len
 have hl_p_Cols : ((List.length (Pln.Cols p) : Nat) : Int) ≤ 9223372036854775807 := (hw_p.field (tv := ⟨(.slice (.int .i64)), Pln.Cols p⟩) (List.Mem.tail _ (List.Mem.tail _ (List.Mem.tail _ (List.Mem.head _))))).len
 have hl_p_Kids : ((List.length (Pln.Kids p) : Nat) : Int) ≤ 9223372036854775807 := (hw_p.field (tv := ⟨(.slice (.named 2)), Pln.Kids p⟩) (List.Mem.tail _ (List.Mem.tail _ (List.Mem.tail _ (List.Mem.tail _ (List.Mem.head _)))))).len
 have hw_c : Wf ⟨(.slice (.int .i64)), (c : List Int)⟩ := hwf _ (List.Mem.tail _ (List.Mem.head _))
 have hl_c : ((List.length c : Nat) : Int) ≤ 9223372036854775807 := hw_c.len
 obtain ⟨hO, hT, -⟩ := hpre.1.1.of
 have hpc := parts2 (Pln.Kind p)
 have hOk := hO.kids
 have hOc := hO.kind
 have e0 : bound_r (fuel + 1) p c = bound_r (fuel + 1) p c := rfl
 refine AW.seq ?_
 refine AW.reg hC  false [] [0, 1] []
  ⟨[(0, .dref (.named 2) (p : Pln)), (1, .data (.slice (.int .i64)) (c : List Int))], []⟩
  [] (by kernel_rfl) ?_ ?_
 ·
  exact trivial
 refine AW.seq ?_
 refine AW.seq ?_
 refine AW.reg hC  false [] [0, 1, 10] []
  ⟨[(0, .dref (.named 2) (p : Pln)), (1, .data (.slice (.int .i64)) (c : List Int)), (10, .bool ((Pln.Kind p) == 1))], []⟩
  [] (by kernel_rfl) ?_ ?_
 ·
  exact trivial
 refine AW.cond (b := ((Pln.Kind p) == 1)) (by kernel_rfl) ?_ ?_
 ·
  intro h6
  have h6q : (Pln.Kind p) = 1 := (Go.Am.beq_pos h6)
  have e7 := e0.trans (Go.Am.bif_t h6)
  refine AW.seq ?_
  refine AW.reg hC  false [] [4] []
   ⟨[(4, .int .i64 (List.getD c (Int.toNat (Pln.Table p)) 0))], []⟩
   [(0 ≤ (Pln.Table p) ∧ (Pln.Table p) < ((List.length c : Nat) : Int))] (by kernel_rfl) ?_ ?_
  ·
   refine ⟨?_, trivial⟩
   ·
    first | omega | (dsimp only; omega) | (simp only [lens] at *; omega)
  refine AW.ret ?_
  exact AW.retE (β := Int) (fun v => [⟨(.int .i64), v⟩]) (fun v => []) (v := (List.getD c (Int.toNat (Pln.Table p)) 0)) e7 (by kernel_rfl) rfl rfl
 ·
  intro h8
  have h8q : (Pln.Kind p) ≠ 1 := (Go.Am.beq_neg h8)
  have e9 := e0.trans (Go.Am.bif_f h8)
  refine AW.keep [0, 1] [] ⟨[(0, .dref (.named 2) (p : Pln)), (1, .data (.slice (.int .i64)) (c : List Int))], []⟩ (by kernel_rfl) ?_
  refine AW.skip ?_
  refine AW.seq ?_
  refine AW.reg hC  false [] [0, 1, 5] []
   ⟨[(0, .dref (.named 2) (p : Pln)), (1, .data (.slice (.int .i64)) (c : List Int)), (5, .int .i64 ((bound_r fuel) (List.getD (Pln.Kids p) 0 Pln.zero) c))], []⟩
   [(0 ≤ (0 : Int) ∧ (0 : Int) < ((List.length (Pln.Kids p) : Nat) : Int)), ((PB c (List.getD (Pln.Kids p) 0 Pln.zero)) ∧ SizeOf.sizeOf (List.getD (Pln.Kids p) 0 Pln.zero) < fuel)] (by kernel_rfl) ?_ ?_
  ·
   refine ⟨?_, ?_, trivial⟩
   ·
    first | omega | (dsimp only; omega) | (simp only [lens] at *; omega)
   ·
    exact ⟨hpre.1.kid (by omega), Nat.lt_of_lt_of_le (pkid_lt (by omega)) (Nat.le_of_lt_succ hpre.2)⟩
  refine AW.seq ?_
  refine AW.seq ?_
  refine AW.reg hC  false [] [0, 1, 5, 28] []
   ⟨[(0, .dref (.named 2) (p : Pln)), (1, .data (.slice (.int .i64)) (c : List Int)), (5, .int .i64 ((bound_r fuel) (List.getD (Pln.Kids p) 0 Pln.zero) c)), (28, .int .i64 (Pln.Kind p))], []⟩
   [] (by kernel_rfl) ?_ ?_
  ·
   exact trivial
  refine AW.block ?_
  refine AW.seq ?_
  refine AW.reg hC  false [] [0, 1, 5, 28, 29] []
   ⟨[(0, .dref (.named 2) (p : Pln)), (1, .data (.slice (.int .i64)) (c : List Int)), (5, .int .i64 ((bound_r fuel) (List.getD (Pln.Kids p) 0 Pln.zero) c)), (28, .int .i64 (Pln.Kind p)), (29, .bool ((Pln.Kind p) == 4))], []⟩
   [] (by kernel_rfl) ?_ ?_
  ·
   exact trivial
  refine AW.cutQ (α := Int) (fun x => ⟨[(5, .int .i64 x)], []⟩) (fun x => (True) ∧ (bound_j4 (bound_r fuel) p c) = x) ?_ ?_
  ·
   skip
   have e3033 : (bound_j4 (bound_r fuel) p c) = (bound_j4 (bound_r fuel) p c) := rfl
   refine AW.cond (b := ((Pln.Kind p) == 4)) (by kernel_rfl) ?_ ?_
   ·
    intro h3034
    have h3034q : (Pln.Kind p) = 4 := (Go.Am.beq_pos h3034)
    have e3035 := e3033.trans (Go.Am.bif_t h3034)
    refine AW.reg hC  false [] [5] []
     ⟨[(5, .int .i64 (((bound_r fuel) (List.getD (Pln.Kids p) 0 Pln.zero) c) * ((bound_r fuel) (List.getD (Pln.Kids p) 1 Pln.zero) c)))], []⟩
     [(0 ≤ (1 : Int) ∧ (1 : Int) < ((List.length (Pln.Kids p) : Nat) : Int)), ((PB c (List.getD (Pln.Kids p) 1 Pln.zero)) ∧ SizeOf.sizeOf (List.getD (Pln.Kids p) 1 Pln.zero) < fuel), (-9223372036854775808 ≤ (((bound_r fuel) (List.getD (Pln.Kids p) 0 Pln.zero) c) * ((bound_r fuel) (List.getD (Pln.Kids p) 1 Pln.zero) c)) ∧ (((bound_r fuel) (List.getD (Pln.Kids p) 0 Pln.zero) c) * ((bound_r fuel) (List.getD (Pln.Kids p) 1 Pln.zero) c)) ≤ 9223372036854775807)] (by kernel_rfl) ?_ ?_
    ·
     refine ⟨?_, ?_, ?_, trivial⟩
     ·
      first | omega | (dsimp only; omega) | (simp only [lens] at *; omega)
     ·
      exact ⟨hpre.1.kid (by omega), Nat.lt_of_lt_of_le (pkid_lt (by omega)) (Nat.le_of_lt_succ hpre.2)⟩
     ·
      have a := bound_b fuel _ _ (hpre.1.kid (i := 0) (by omega))
      have b := bound_b fuel _ _ (hpre.1.kid (i := 1) (by omega))
      first | omega | (have := le_mul a b; omega) | (have := le_mul a (b := if (bound_r fuel (List.getD (Pln.Kids p) 1 Pln.zero) c) > 1 then (bound_r fuel (List.getD (Pln.Kids p) 1 Pln.zero) c) else 1) (by split <;> omega); omega)
    refine AW.meet (((bound_r fuel) (List.getD (Pln.Kids p) 0 Pln.zero) c) * ((bound_r fuel) (List.getD (Pln.Kids p) 1 Pln.zero) c)) (by kernel_rfl) ⟨?_, e3035⟩
    show True
    first | exact trivial | assumption | omega
   ·
    intro h3036
    have h3036q : (Pln.Kind p) ≠ 4 := (Go.Am.beq_neg h3036)
    have e3037 := e3033.trans (Go.Am.bif_f h3036)
    refine AW.seq ?_
    refine AW.reg hC  false [] [0, 1, 5, 28, 40] []
     ⟨[(0, .dref (.named 2) (p : Pln)), (1, .data (.slice (.int .i64)) (c : List Int)), (5, .int .i64 ((bound_r fuel) (List.getD (Pln.Kids p) 0 Pln.zero) c)), (28, .int .i64 (Pln.Kind p)), (40, .bool ((Pln.Kind p) == 5))], []⟩
     [] (by kernel_rfl) ?_ ?_
    ·
     exact trivial
    refine AW.cutQ (α := Int) (fun x => ⟨[(5, .int .i64 x)], []⟩) (fun x => (True) ∧ (bound_j3 (bound_r fuel) p c) = x) ?_ ?_
    ·
     skip
     have e3436 : (bound_j3 (bound_r fuel) p c) = (bound_j3 (bound_r fuel) p c) := rfl
     refine AW.cond (b := ((Pln.Kind p) == 5)) (by kernel_rfl) ?_ ?_
     ·
      intro h3437
      have h3437q : (Pln.Kind p) = 5 := (Go.Am.beq_pos h3437)
      have e3438 := e3436.trans (Go.Am.bif_t h3437)
      refine AW.reg hC  false [] [5] []
       ⟨[(5, .int .i64 (((bound_r fuel) (List.getD (Pln.Kids p) 0 Pln.zero) c) * (if ((bound_r fuel) (List.getD (Pln.Kids p) 1 Pln.zero) c) > 1 then ((bound_r fuel) (List.getD (Pln.Kids p) 1 Pln.zero) c) else 1)))], []⟩
       [(0 ≤ (1 : Int) ∧ (1 : Int) < ((List.length (Pln.Kids p) : Nat) : Int)), ((PB c (List.getD (Pln.Kids p) 1 Pln.zero)) ∧ SizeOf.sizeOf (List.getD (Pln.Kids p) 1 Pln.zero) < fuel), (-9223372036854775808 ≤ (((bound_r fuel) (List.getD (Pln.Kids p) 0 Pln.zero) c) * (if ((bound_r fuel) (List.getD (Pln.Kids p) 1 Pln.zero) c) > 1 then ((bound_r fuel) (List.getD (Pln.Kids p) 1 Pln.zero) c) else 1)) ∧ (((bound_r fuel) (List.getD (Pln.Kids p) 0 Pln.zero) c) * (if ((bound_r fuel) (List.getD (Pln.Kids p) 1 Pln.zero) c) > 1 then ((bound_r fuel) (List.getD (Pln.Kids p) 1 Pln.zero) c) else 1)) ≤ 9223372036854775807)] (by kernel_rfl) ?_ ?_
      ·
       refine ⟨?_, ?_, ?_, trivial⟩
       ·
        first | omega | (dsimp only; omega) | (simp only [lens] at *; omega)
       ·
        exact ⟨hpre.1.kid (by omega), Nat.lt_of_lt_of_le (pkid_lt (by omega)) (Nat.le_of_lt_succ hpre.2)⟩
       ·
        have a := bound_b fuel _ _ (hpre.1.kid (i := 0) (by omega))
        have b := bound_b fuel _ _ (hpre.1.kid (i := 1) (by omega))
        first | omega | (have := le_mul a b; omega) | (have := le_mul a (b := if (bound_r fuel (List.getD (Pln.Kids p) 1 Pln.zero) c) > 1 then (bound_r fuel (List.getD (Pln.Kids p) 1 Pln.zero) c) else 1) (by split <;> omega); omega)
      refine AW.meet (((bound_r fuel) (List.getD (Pln.Kids p) 0 Pln.zero) c) * (if ((bound_r fuel) (List.getD (Pln.Kids p) 1 Pln.zero) c) > 1 then ((bound_r fuel) (List.getD (Pln.Kids p) 1 Pln.zero) c) else 1)) (by kernel_rfl) ⟨?_, e3438⟩
      show True
      first | exact trivial | assumption | omega
     ·
      intro h3439
      have h3439q : (Pln.Kind p) ≠ 5 := (Go.Am.beq_neg h3439)
      have e3440 := e3436.trans (Go.Am.bif_f h3439)
      refine AW.seq ?_
      refine AW.reg hC  false [] [0, 1, 5, 28, 52] []
       ⟨[(0, .dref (.named 2) (p : Pln)), (1, .data (.slice (.int .i64)) (c : List Int)), (5, .int .i64 ((bound_r fuel) (List.getD (Pln.Kids p) 0 Pln.zero) c)), (28, .int .i64 (Pln.Kind p)), (52, .bool ((Pln.Kind p) == 6))], []⟩
       [] (by kernel_rfl) ?_ ?_
      ·
       exact trivial
      refine AW.cutQ (α := Int) (fun x => ⟨[(5, .int .i64 x)], []⟩) (fun x => (True) ∧ (bound_j2 (bound_r fuel) p c) = x) ?_ ?_
      ·
       skip
       have e3569 : (bound_j2 (bound_r fuel) p c) = (bound_j2 (bound_r fuel) p c) := rfl
       refine AW.cond (b := ((Pln.Kind p) == 6)) (by kernel_rfl) ?_ ?_
       ·
        intro h3570
        have h3570q : (Pln.Kind p) = 6 := (Go.Am.beq_pos h3570)
        have e3571 := e3569.trans (Go.Am.bif_t h3570)
        refine AW.reg hC  false [] [5] []
         ⟨[(5, .int .i64 (((bound_r fuel) (List.getD (Pln.Kids p) 0 Pln.zero) c) + ((bound_r fuel) (List.getD (Pln.Kids p) 1 Pln.zero) c)))], []⟩
         [(0 ≤ (1 : Int) ∧ (1 : Int) < ((List.length (Pln.Kids p) : Nat) : Int)), ((PB c (List.getD (Pln.Kids p) 1 Pln.zero)) ∧ SizeOf.sizeOf (List.getD (Pln.Kids p) 1 Pln.zero) < fuel), (-9223372036854775808 ≤ (((bound_r fuel) (List.getD (Pln.Kids p) 0 Pln.zero) c) + ((bound_r fuel) (List.getD (Pln.Kids p) 1 Pln.zero) c)) ∧ (((bound_r fuel) (List.getD (Pln.Kids p) 0 Pln.zero) c) + ((bound_r fuel) (List.getD (Pln.Kids p) 1 Pln.zero) c)) ≤ 9223372036854775807)] (by kernel_rfl) ?_ ?_
        ·
         refine ⟨?_, ?_, ?_, trivial⟩
         ·
          first | omega | (dsimp only; omega) | (simp only [lens] at *; omega)
         ·
          exact ⟨hpre.1.kid (by omega), Nat.lt_of_lt_of_le (pkid_lt (by omega)) (Nat.le_of_lt_succ hpre.2)⟩
         ·
          have a := bound_b fuel _ _ (hpre.1.kid (i := 0) (by omega))
          have b := bound_b fuel _ _ (hpre.1.kid (i := 1) (by omega))
          first | omega | (have := le_mul a b; omega) | (have := le_mul a (b := if (bound_r fuel (List.getD (Pln.Kids p) 1 Pln.zero) c) > 1 then (bound_r fuel (List.getD (Pln.Kids p) 1 Pln.zero) c) else 1) (by split <;> omega); omega)
        refine AW.meet (((bound_r fuel) (List.getD (Pln.Kids p) 0 Pln.zero) c) + ((bound_r fuel) (List.getD (Pln.Kids p) 1 Pln.zero) c)) (by kernel_rfl) ⟨?_, e3571⟩
        show True
        first | exact trivial | assumption | omega
       ·
        intro h3572
        have h3572q : (Pln.Kind p) ≠ 6 := (Go.Am.beq_neg h3572)
        have e3573 := e3569.trans (Go.Am.bif_f h3572)
        refine AW.seq ?_
        refine AW.reg hC  false [] [0, 5, 63] []
         ⟨[(0, .dref (.named 2) (p : Pln)), (5, .int .i64 ((bound_r fuel) (List.getD (Pln.Kids p) 0 Pln.zero) c)), (63, .bool ((Pln.Kind p) == 8))], []⟩
         [] (by kernel_rfl) ?_ ?_
        ·
         exact trivial
        refine AW.cutQ (α := Int) (fun x => ⟨[(5, .int .i64 x)], []⟩) (fun x => (True) ∧ (bound_j1 (bound_r fuel) p c) = x) ?_ ?_
        ·
         skip
         have e3612 : (bound_j1 (bound_r fuel) p c) = (bound_j1 (bound_r fuel) p c) := rfl
         refine AW.cond (b := ((Pln.Kind p) == 8)) (by kernel_rfl) ?_ ?_
         ·
          intro h3613
          have h3613q : (Pln.Kind p) = 8 := (Go.Am.beq_pos h3613)
          have e3614 := e3612.trans (Go.Am.bif_t h3613)
          refine AW.seq ?_
          refine AW.reg hC  false [] [5, 70] []
           ⟨[(5, .int .i64 ((bound_r fuel) (List.getD (Pln.Kids p) 0 Pln.zero) c)), (70, .bool (((List.length (Pln.Cols p) : Nat) : Int) == 0))], []⟩
           [] (by kernel_rfl) ?_ ?_
          ·
           exact trivial
          refine AW.cutQ (α := Int) (fun x => ⟨[(5, .int .i64 x)], []⟩) (fun x => (True) ∧ (bound_j0 (bound_r fuel) p c) = x) ?_ ?_
          ·
           skip
           have e3623 : (bound_j0 (bound_r fuel) p c) = (bound_j0 (bound_r fuel) p c) := rfl
           refine AW.cond (b := (((List.length (Pln.Cols p) : Nat) : Int) == 0)) (by kernel_rfl) ?_ ?_
           ·
            intro h3624
            have h3624q : ((List.length (Pln.Cols p) : Nat) : Int) = 0 := (Go.Am.beq_pos h3624)
            have e3625 := e3623.trans (Go.Am.bif_t h3624)
            refine AW.reg hC  false [] [5] []
             ⟨[(5, .int .i64 (if 1 < ((bound_r fuel) (List.getD (Pln.Kids p) 0 Pln.zero) c) then 1 else ((bound_r fuel) (List.getD (Pln.Kids p) 0 Pln.zero) c)))], []⟩
             [] (by kernel_rfl) ?_ ?_
            ·
             exact trivial
            refine AW.meet (if 1 < ((bound_r fuel) (List.getD (Pln.Kids p) 0 Pln.zero) c) then 1 else ((bound_r fuel) (List.getD (Pln.Kids p) 0 Pln.zero) c)) (by kernel_rfl) ⟨?_, e3625⟩
            show True
            first | exact trivial | assumption | omega
           ·
            intro h3626
            have h3626q : ((List.length (Pln.Cols p) : Nat) : Int) ≠ 0 := (Go.Am.beq_neg h3626)
            have e3627 := e3623.trans (Go.Am.bif_f h3626)
            refine AW.keep [5] [] ⟨[(5, .int .i64 ((bound_r fuel) (List.getD (Pln.Kids p) 0 Pln.zero) c))], []⟩ (by kernel_rfl) ?_
            refine AW.skip ?_
            refine AW.meet ((bound_r fuel) (List.getD (Pln.Kids p) 0 Pln.zero) c) (by kernel_rfl) ⟨?_, e3627⟩
            show True
            first | exact trivial | assumption | omega
          ·
           intro n hR
           obtain ⟨hM0, e3628⟩ := hR
           replace hM0 : True := hM0
           have e3629 := e3614.trans (Go.Am.then_eq e3628)
           refine AW.meet n (by kernel_rfl) ⟨?_, e3629⟩
           show True
           first | exact trivial | assumption | omega
         ·
          intro h3630
          have h3630q : (Pln.Kind p) ≠ 8 := (Go.Am.beq_neg h3630)
          have e3631 := e3612.trans (Go.Am.bif_f h3630)
          refine AW.keep [5] [] ⟨[(5, .int .i64 ((bound_r fuel) (List.getD (Pln.Kids p) 0 Pln.zero) c))], []⟩ (by kernel_rfl) ?_
          refine AW.skip ?_
          refine AW.meet ((bound_r fuel) (List.getD (Pln.Kids p) 0 Pln.zero) c) (by kernel_rfl) ⟨?_, e3631⟩
          show True
          first | exact trivial | assumption | omega
        ·
         intro n hR
         obtain ⟨hM1, e3632⟩ := hR
         replace hM1 : True := hM1
         have e3633 := e3573.trans (Go.Am.then_eq e3632)
         refine AW.meet n (by kernel_rfl) ⟨?_, e3633⟩
         show True
         first | exact trivial | assumption | omega
      ·
       intro n hR
       obtain ⟨hM2, e3634⟩ := hR
       replace hM2 : True := hM2
       have e3635 := e3440.trans (Go.Am.then_eq e3634)
       refine AW.meet n (by kernel_rfl) ⟨?_, e3635⟩
       show True
       first | exact trivial | assumption | omega
    ·
     intro n hR
     obtain ⟨hM3, e3636⟩ := hR
     replace hM3 : True := hM3
     have e3637 := e3037.trans (Go.Am.then_eq e3636)
     refine AW.meet n (by kernel_rfl) ⟨?_, e3637⟩
     show True
     first | exact trivial | assumption | omega
  ·
   intro n hR
   obtain ⟨hM4, e3638⟩ := hR
   replace hM4 : True := hM4
   have e3639 := e9.trans (Go.Am.then_eq e3638)
   refine AW.seq ?_
   refine AW.reg hC  false [] [4] []
    ⟨[(4, .int .i64 (if 1000000000 < n then 1000000000 else n))], []⟩
    [] (by kernel_rfl) ?_ ?_
   ·
    exact trivial
   refine AW.ret ?_
   exact AW.retE (β := Int) (fun v => [⟨(.int .i64), v⟩]) (fun v => []) (v := (if 1000000000 < n then 1000000000 else n)) e3639 (by kernel_rfl) rfl rfl

theorem bound_fu : AllTV (bound_sp.ps.map PK.ty) (fun tvs => bound_sp.pre tvs → ∃ k, (bound_spn k).pre tvs ∧ (bound_spn k).fn tvs = bound_sp.fn tvs ∧ (bound_spn k).bx tvs = bound_sp.bx tvs) :=
 (fun (p : Pln) (c : List Int) h => ⟨SizeOf.sizeOf p + 1, (show (PB c p) ∧ SizeOf.sizeOf p < SizeOf.sizeOf p + 1 from ⟨h, Nat.lt_succ_self _⟩), (show (bound_spn (SizeOf.sizeOf p + 1)).fn [⟨(.named 2), (p : Pln)⟩, ⟨(.slice (.int .i64)), (c : List Int)⟩] = ([⟨(.int .i64), (bound_r (SizeOf.sizeOf p + 1) p c)⟩] : List TV) from by kernel_rfl).trans (show ([⟨(.int .i64), (bound_r (SizeOf.sizeOf p + 1) p c)⟩] : List TV) = bound_sp.fn [⟨(.named 2), (p : Pln)⟩, ⟨(.slice (.int .i64)), (c : List Int)⟩] from by kernel_rfl), by kernel_rfl⟩)

theorem bound_ok : FnOK Try.prog 90 bound_sp := FnOK.of_fuel bound_okn (fun _ => rfl) (fun _ => rfl) (AllTV.get bound_fu)

def rowBound_j0 (self : Pln → (List Int) → Int) (p : Pln) (c : List Int) : Int :=
 (bif (((List.length (Pln.Cols p) : Nat) : Int) == 0) then (if 1 < (self (List.getD (Pln.Kids p) 0 Pln.zero) c) then 1 else (self (List.getD (Pln.Kids p) 0 Pln.zero) c)) else (self (List.getD (Pln.Kids p) 0 Pln.zero) c))

def rowBound_j1 (self : Pln → (List Int) → Int) (p : Pln) (c : List Int) : Int :=
 (bif ((Pln.Kind p) == 8) then (Go.Am.andThen (rowBound_j0 self p c) (fun z => (fun (n : Int) => n) z)) else (self (List.getD (Pln.Kids p) 0 Pln.zero) c))

def rowBound_j2 (self : Pln → (List Int) → Int) (p : Pln) (c : List Int) : Int :=
 (bif ((Pln.Kind p) == 6) then ((self (List.getD (Pln.Kids p) 0 Pln.zero) c) + (self (List.getD (Pln.Kids p) 1 Pln.zero) c)) else (Go.Am.andThen (rowBound_j1 self p c) (fun z => (fun (n : Int) => n) z)))

def rowBound_j3 (self : Pln → (List Int) → Int) (p : Pln) (c : List Int) : Int :=
 (bif ((Pln.Kind p) == 5) then ((self (List.getD (Pln.Kids p) 0 Pln.zero) c) * (if (self (List.getD (Pln.Kids p) 1 Pln.zero) c) > 1 then (self (List.getD (Pln.Kids p) 1 Pln.zero) c) else 1)) else (Go.Am.andThen (rowBound_j2 self p c) (fun z => (fun (n : Int) => n) z)))

def rowBound_j4 (self : Pln → (List Int) → Int) (p : Pln) (c : List Int) : Int :=
 (bif ((Pln.Kind p) == 4) then ((self (List.getD (Pln.Kids p) 0 Pln.zero) c) * (self (List.getD (Pln.Kids p) 1 Pln.zero) c)) else (Go.Am.andThen (rowBound_j3 self p c) (fun z => (fun (n : Int) => n) z)))

def rowBound_r : Nat → Pln → (List Int) → Int
 | 0, p, c => 0
 | fuel + 1, p, c => (bif ((Pln.Kind p) == 1) then (List.getD c (Int.toNat (Pln.Table p)) 0) else (Go.Am.andThen (rowBound_j4 (rowBound_r fuel) p c) (fun z => (fun (n : Int) => (if 1000000000 < n then 1000000000 else n)) z)))

def rowBound (p : Pln) (c : List Int) : Int := rowBound_r (SizeOf.sizeOf p + 1) p c

def rowBound_spn (fuel : Nat) : FnSpec := mkSpec [.val (.named 2), .val (.slice (.int .i64))] [.val (.int .i64)] (fun (p : Pln) (c : List Int) => (PB c p) ∧ SizeOf.sizeOf p < fuel) (fun (p : Pln) (c : List Int) => [⟨(.int .i64), (rowBound_r fuel p c)⟩])

def rowBound_sp : FnSpec := mkSpec [.val (.named 2), .val (.slice (.int .i64))] [.val (.int .i64)] (fun (p : Pln) (c : List Int) => PB c p) (fun (p : Pln) (c : List Int) => [⟨(.int .i64), (rowBound p c)⟩])

theorem rowBound_eq : ∀ (f : Nat), rowBound_r f = bound_r f := by
 intro f
 induction f with
 | zero => rfl
 | succ f ih =>
  funext p c
  unfold rowBound_r bound_r
  rw [ih]
  rfl

theorem rowBound_b (f : Nat) (p : Pln) (c : List Int) (h : PB c p) : 0 ≤ rowBound_r f p c ∧ rowBound_r f p c ≤ 1000000000 := by
 rw [rowBound_eq]
 exact bound_b f p c h

theorem rowBound_okn (fuel : Nat) : FnOK Try.prog 89 (rowBound_spn fuel) := by
 induction fuel with
 | zero => exact FnOK.never Try.func89 (by kernel_rfl) rfl (fun _ _ h => absurd h.2 (Nat.not_lt_zero _))
 | succ fuel ih => ?_
 have hC : CtxOK Try.prog (mkCtx tyL [(89, (rowBound_spn fuel))]) := CtxOK.cons ih (CtxOK.nil tyOK)
 have hM : Try.prog.follows .mixedOrders = true := Try.checked.mixed
 refine FnOK.of_body Try.func89 (by kernel_rfl) rfl (C := (mkCtx tyL [(89, (rowBound_spn fuel))])) hC.ty (by kernel_rfl) ?_
 intro (p : Pln) (c : List Int) hwf hpre E
 have hpre : (PB c p) ∧ SizeOf.sizeOf p < fuel + 1 := hpre
 have hw_p : Wf ⟨(.named 2), (p : Pln)⟩ := hwf _ (List.Mem.head _)
 have hr_p_Kind : -9223372036854775808 ≤ Pln.Kind p ∧ Pln.Kind p ≤ 9223372036854775807 := (hw_p.field (tv := ⟨(.int .i64), Pln.Kind p⟩) (List.Mem.head _)).int_inv
 have hr_p_Table : -9223372036854775808 ≤ Pln.Table p ∧ Pln.Table p ≤ 9223372036854775807 := (hw_p.field (tv := ⟨(.int .i64), Pln.Table p⟩) (List.Mem.tail _ (List.Mem.head _))).int_inv
 have hl_p_Exprs : ((List.length (Pln.Exprs p) : Nat) : Int) ≤ 9223372036854775807 := (hw_p.field (tv := ⟨(.slice (.named 1)), Pln.Exprs p⟩) (List.Mem.tail _ (List.Mem.tail _ (List.Mem.head _)))).len
 have hl_p_Cols : ((List.length (Pln.Cols p) : Nat) : Int) ≤ 9223372036854775807 := (hw_p.field (tv := ⟨(.slice (.int .i64)), Pln.Cols p⟩) (List.Mem.tail _ (List.Mem.tail _ (List.Mem.tail _ (List.Mem.head _))))).len
 have hl_p_Kids : ((List.length (Pln.Kids p) : Nat) : Int) ≤ 9223372036854775807 := (hw_p.field (tv := ⟨(.slice (.named 2)), Pln.Kids p⟩) (List.Mem.tail _ (List.Mem.tail _ (List.Mem.tail _ (List.Mem.tail _ (List.Mem.head _)))))).len
 have hw_c : Wf ⟨(.slice (.int .i64)), (c : List Int)⟩ := hwf _ (List.Mem.tail _ (List.Mem.head _))
 have hl_c : ((List.length c : Nat) : Int) ≤ 9223372036854775807 := hw_c.len
 obtain ⟨hO, hT, -⟩ := hpre.1.1.of
 have hpc := parts2 (Pln.Kind p)
 have hOk := hO.kids
 have hOc := hO.kind
 have e0 : rowBound_r (fuel + 1) p c = rowBound_r (fuel + 1) p c := rfl
 refine AW.seq ?_
 refine AW.reg hC  false [] [1, 2] [8]
  ⟨[(1, .data (.slice (.int .i64)) (c : List Int)), (2, .ref 8 1 0)], [(8, .box 1 [.int .i64 (Pln.Kind p), .int .i64 (Pln.Table p), .data (.slice (.named 1)) ((Pln.Exprs p) : List Xpr), .data (.slice (.int .i64)) ((Pln.Cols p) : List Int), .data (.slice (.named 2)) ((Pln.Kids p) : List Pln)])]⟩
  [] (by kernel_rfl) ?_ ?_
 ·
  exact trivial
 refine AW.seq ?_
 refine AW.seq ?_
 refine AW.reg hC  false [] [1, 2, 8] [8]
  ⟨[(1, .data (.slice (.int .i64)) (c : List Int)), (2, .ref 8 1 0), (8, .bool ((Pln.Kind p) == 1))], [(8, .box 1 [.int .i64 (Pln.Kind p), .int .i64 (Pln.Table p), .data (.slice (.named 1)) ((Pln.Exprs p) : List Xpr), .data (.slice (.int .i64)) ((Pln.Cols p) : List Int), .data (.slice (.named 2)) ((Pln.Kids p) : List Pln)])]⟩
  [] (by kernel_rfl) ?_ ?_
 ·
  exact trivial
 refine AW.cond (b := ((Pln.Kind p) == 1)) (by kernel_rfl) ?_ ?_
 ·
  intro h6
  have h6q : (Pln.Kind p) = 1 := (Go.Am.beq_pos h6)
  have e7 := e0.trans (Go.Am.bif_t h6)
  refine AW.seq ?_
  refine AW.reg hC  false [] [4] []
   ⟨[(4, .int .i64 (List.getD c (Int.toNat (Pln.Table p)) 0))], []⟩
   [(0 ≤ (Pln.Table p) ∧ (Pln.Table p) < ((List.length c : Nat) : Int))] (by kernel_rfl) ?_ ?_
  ·
   refine ⟨?_, trivial⟩
   ·
    first | omega | (dsimp only; omega) | (simp only [lens] at *; omega)
  refine AW.ret ?_
  exact AW.retE (β := Int) (fun v => [⟨(.int .i64), v⟩]) (fun v => []) (v := (List.getD c (Int.toNat (Pln.Table p)) 0)) e7 (by kernel_rfl) rfl rfl
 ·
  intro h8
  have h8q : (Pln.Kind p) ≠ 1 := (Go.Am.beq_neg h8)
  have e9 := e0.trans (Go.Am.bif_f h8)
  refine AW.keep [1, 2] [8] ⟨[(1, .data (.slice (.int .i64)) (c : List Int)), (2, .ref 8 1 0)], [(8, .box 1 [.int .i64 (Pln.Kind p), .int .i64 (Pln.Table p), .data (.slice (.named 1)) ((Pln.Exprs p) : List Xpr), .data (.slice (.int .i64)) ((Pln.Cols p) : List Int), .data (.slice (.named 2)) ((Pln.Kids p) : List Pln)])]⟩ (by kernel_rfl) ?_
  refine AW.skip ?_
  refine AW.seq ?_
  refine AW.reg hC  false [] [1, 2, 5] [8]
   ⟨[(1, .data (.slice (.int .i64)) (c : List Int)), (2, .ref 8 1 0), (5, .int .i64 ((rowBound_r fuel) (List.getD (Pln.Kids p) 0 Pln.zero) c))], [(8, .box 1 [.int .i64 (Pln.Kind p), .int .i64 (Pln.Table p), .data (.slice (.named 1)) ((Pln.Exprs p) : List Xpr), .data (.slice (.int .i64)) ((Pln.Cols p) : List Int), .data (.slice (.named 2)) ((Pln.Kids p) : List Pln)])]⟩
   [(0 ≤ (0 : Int) ∧ (0 : Int) < ((List.length (Pln.Kids p) : Nat) : Int)), ((PB c (List.getD (Pln.Kids p) 0 Pln.zero)) ∧ SizeOf.sizeOf (List.getD (Pln.Kids p) 0 Pln.zero) < fuel)] (by kernel_rfl) ?_ ?_
  ·
   refine ⟨?_, ?_, trivial⟩
   ·
    first | omega | (dsimp only; omega) | (simp only [lens] at *; omega)
   ·
    exact ⟨hpre.1.kid (by omega), Nat.lt_of_lt_of_le (pkid_lt (by omega)) (Nat.le_of_lt_succ hpre.2)⟩
  refine AW.seq ?_
  refine AW.seq ?_
  refine AW.reg hC  false [] [1, 2, 5, 21] [8]
   ⟨[(1, .data (.slice (.int .i64)) (c : List Int)), (2, .ref 8 1 0), (5, .int .i64 ((rowBound_r fuel) (List.getD (Pln.Kids p) 0 Pln.zero) c)), (21, .int .i64 (Pln.Kind p))], [(8, .box 1 [.int .i64 (Pln.Kind p), .int .i64 (Pln.Table p), .data (.slice (.named 1)) ((Pln.Exprs p) : List Xpr), .data (.slice (.int .i64)) ((Pln.Cols p) : List Int), .data (.slice (.named 2)) ((Pln.Kids p) : List Pln)])]⟩
   [] (by kernel_rfl) ?_ ?_
  ·
   exact trivial
  refine AW.block ?_
  refine AW.seq ?_
  refine AW.reg hC  false [] [1, 2, 5, 21, 22] [8]
   ⟨[(1, .data (.slice (.int .i64)) (c : List Int)), (2, .ref 8 1 0), (5, .int .i64 ((rowBound_r fuel) (List.getD (Pln.Kids p) 0 Pln.zero) c)), (21, .int .i64 (Pln.Kind p)), (22, .bool ((Pln.Kind p) == 4))], [(8, .box 1 [.int .i64 (Pln.Kind p), .int .i64 (Pln.Table p), .data (.slice (.named 1)) ((Pln.Exprs p) : List Xpr), .data (.slice (.int .i64)) ((Pln.Cols p) : List Int), .data (.slice (.named 2)) ((Pln.Kids p) : List Pln)])]⟩
   [] (by kernel_rfl) ?_ ?_
  ·
   exact trivial
  refine AW.cutQ (α := Int) (fun x => ⟨[(5, .int .i64 x)], []⟩) (fun x => (True) ∧ (rowBound_j4 (rowBound_r fuel) p c) = x) ?_ ?_
  ·
   skip
   have e3033 : (rowBound_j4 (rowBound_r fuel) p c) = (rowBound_j4 (rowBound_r fuel) p c) := rfl
   refine AW.cond (b := ((Pln.Kind p) == 4)) (by kernel_rfl) ?_ ?_
   ·
    intro h3034
    have h3034q : (Pln.Kind p) = 4 := (Go.Am.beq_pos h3034)
    have e3035 := e3033.trans (Go.Am.bif_t h3034)
    refine AW.reg hC  false [] [5] []
     ⟨[(5, .int .i64 (((rowBound_r fuel) (List.getD (Pln.Kids p) 0 Pln.zero) c) * ((rowBound_r fuel) (List.getD (Pln.Kids p) 1 Pln.zero) c)))], []⟩
     [(0 ≤ (1 : Int) ∧ (1 : Int) < ((List.length (Pln.Kids p) : Nat) : Int)), ((PB c (List.getD (Pln.Kids p) 1 Pln.zero)) ∧ SizeOf.sizeOf (List.getD (Pln.Kids p) 1 Pln.zero) < fuel), (-9223372036854775808 ≤ (((rowBound_r fuel) (List.getD (Pln.Kids p) 0 Pln.zero) c) * ((rowBound_r fuel) (List.getD (Pln.Kids p) 1 Pln.zero) c)) ∧ (((rowBound_r fuel) (List.getD (Pln.Kids p) 0 Pln.zero) c) * ((rowBound_r fuel) (List.getD (Pln.Kids p) 1 Pln.zero) c)) ≤ 9223372036854775807)] (by kernel_rfl) ?_ ?_
    ·
     refine ⟨?_, ?_, ?_, trivial⟩
     ·
      first | omega | (dsimp only; omega) | (simp only [lens] at *; omega)
     ·
      exact ⟨hpre.1.kid (by omega), Nat.lt_of_lt_of_le (pkid_lt (by omega)) (Nat.le_of_lt_succ hpre.2)⟩
     ·
      have a := rowBound_b fuel _ _ (hpre.1.kid (i := 0) (by omega))
      have b := rowBound_b fuel _ _ (hpre.1.kid (i := 1) (by omega))
      first | omega | (have := le_mul a b; omega) | (have := le_mul a (b := if (rowBound_r fuel (List.getD (Pln.Kids p) 1 Pln.zero) c) > 1 then (rowBound_r fuel (List.getD (Pln.Kids p) 1 Pln.zero) c) else 1) (by split <;> omega); omega)
    refine AW.meet (((rowBound_r fuel) (List.getD (Pln.Kids p) 0 Pln.zero) c) * ((rowBound_r fuel) (List.getD (Pln.Kids p) 1 Pln.zero) c)) (by kernel_rfl) ⟨?_, e3035⟩
    show True
    first | exact trivial | assumption | omega
   ·
    intro h3036
    have h3036q : (Pln.Kind p) ≠ 4 := (Go.Am.beq_neg h3036)
    have e3037 := e3033.trans (Go.Am.bif_f h3036)
    refine AW.seq ?_
    refine AW.reg hC  false [] [1, 2, 5, 21, 32] [8]
     ⟨[(1, .data (.slice (.int .i64)) (c : List Int)), (2, .ref 8 1 0), (5, .int .i64 ((rowBound_r fuel) (List.getD (Pln.Kids p) 0 Pln.zero) c)), (21, .int .i64 (Pln.Kind p)), (32, .bool ((Pln.Kind p) == 5))], [(8, .box 1 [.int .i64 (Pln.Kind p), .int .i64 (Pln.Table p), .data (.slice (.named 1)) ((Pln.Exprs p) : List Xpr), .data (.slice (.int .i64)) ((Pln.Cols p) : List Int), .data (.slice (.named 2)) ((Pln.Kids p) : List Pln)])]⟩
     [] (by kernel_rfl) ?_ ?_
    ·
     exact trivial
    refine AW.cutQ (α := Int) (fun x => ⟨[(5, .int .i64 x)], []⟩) (fun x => (True) ∧ (rowBound_j3 (rowBound_r fuel) p c) = x) ?_ ?_
    ·
     skip
     have e3436 : (rowBound_j3 (rowBound_r fuel) p c) = (rowBound_j3 (rowBound_r fuel) p c) := rfl
     refine AW.cond (b := ((Pln.Kind p) == 5)) (by kernel_rfl) ?_ ?_
     ·
      intro h3437
      have h3437q : (Pln.Kind p) = 5 := (Go.Am.beq_pos h3437)
      have e3438 := e3436.trans (Go.Am.bif_t h3437)
      refine AW.reg hC  false [] [5] []
       ⟨[(5, .int .i64 (((rowBound_r fuel) (List.getD (Pln.Kids p) 0 Pln.zero) c) * (if ((rowBound_r fuel) (List.getD (Pln.Kids p) 1 Pln.zero) c) > 1 then ((rowBound_r fuel) (List.getD (Pln.Kids p) 1 Pln.zero) c) else 1)))], []⟩
       [(0 ≤ (1 : Int) ∧ (1 : Int) < ((List.length (Pln.Kids p) : Nat) : Int)), ((PB c (List.getD (Pln.Kids p) 1 Pln.zero)) ∧ SizeOf.sizeOf (List.getD (Pln.Kids p) 1 Pln.zero) < fuel), (-9223372036854775808 ≤ (((rowBound_r fuel) (List.getD (Pln.Kids p) 0 Pln.zero) c) * (if ((rowBound_r fuel) (List.getD (Pln.Kids p) 1 Pln.zero) c) > 1 then ((rowBound_r fuel) (List.getD (Pln.Kids p) 1 Pln.zero) c) else 1)) ∧ (((rowBound_r fuel) (List.getD (Pln.Kids p) 0 Pln.zero) c) * (if ((rowBound_r fuel) (List.getD (Pln.Kids p) 1 Pln.zero) c) > 1 then ((rowBound_r fuel) (List.getD (Pln.Kids p) 1 Pln.zero) c) else 1)) ≤ 9223372036854775807)] (by kernel_rfl) ?_ ?_
      ·
       refine ⟨?_, ?_, ?_, trivial⟩
       ·
        first | omega | (dsimp only; omega) | (simp only [lens] at *; omega)
       ·
        exact ⟨hpre.1.kid (by omega), Nat.lt_of_lt_of_le (pkid_lt (by omega)) (Nat.le_of_lt_succ hpre.2)⟩
       ·
        have a := rowBound_b fuel _ _ (hpre.1.kid (i := 0) (by omega))
        have b := rowBound_b fuel _ _ (hpre.1.kid (i := 1) (by omega))
        first | omega | (have := le_mul a b; omega) | (have := le_mul a (b := if (rowBound_r fuel (List.getD (Pln.Kids p) 1 Pln.zero) c) > 1 then (rowBound_r fuel (List.getD (Pln.Kids p) 1 Pln.zero) c) else 1) (by split <;> omega); omega)
      refine AW.meet (((rowBound_r fuel) (List.getD (Pln.Kids p) 0 Pln.zero) c) * (if ((rowBound_r fuel) (List.getD (Pln.Kids p) 1 Pln.zero) c) > 1 then ((rowBound_r fuel) (List.getD (Pln.Kids p) 1 Pln.zero) c) else 1)) (by kernel_rfl) ⟨?_, e3438⟩
      show True
      first | exact trivial | assumption | omega
     ·
      intro h3439
      have h3439q : (Pln.Kind p) ≠ 5 := (Go.Am.beq_neg h3439)
      have e3440 := e3436.trans (Go.Am.bif_f h3439)
      refine AW.seq ?_
      refine AW.reg hC  false [] [1, 2, 5, 21, 43] [8]
       ⟨[(1, .data (.slice (.int .i64)) (c : List Int)), (2, .ref 8 1 0), (5, .int .i64 ((rowBound_r fuel) (List.getD (Pln.Kids p) 0 Pln.zero) c)), (21, .int .i64 (Pln.Kind p)), (43, .bool ((Pln.Kind p) == 6))], [(8, .box 1 [.int .i64 (Pln.Kind p), .int .i64 (Pln.Table p), .data (.slice (.named 1)) ((Pln.Exprs p) : List Xpr), .data (.slice (.int .i64)) ((Pln.Cols p) : List Int), .data (.slice (.named 2)) ((Pln.Kids p) : List Pln)])]⟩
       [] (by kernel_rfl) ?_ ?_
      ·
       exact trivial
      refine AW.cutQ (α := Int) (fun x => ⟨[(5, .int .i64 x)], []⟩) (fun x => (True) ∧ (rowBound_j2 (rowBound_r fuel) p c) = x) ?_ ?_
      ·
       skip
       have e3569 : (rowBound_j2 (rowBound_r fuel) p c) = (rowBound_j2 (rowBound_r fuel) p c) := rfl
       refine AW.cond (b := ((Pln.Kind p) == 6)) (by kernel_rfl) ?_ ?_
       ·
        intro h3570
        have h3570q : (Pln.Kind p) = 6 := (Go.Am.beq_pos h3570)
        have e3571 := e3569.trans (Go.Am.bif_t h3570)
        refine AW.reg hC  false [] [5] []
         ⟨[(5, .int .i64 (((rowBound_r fuel) (List.getD (Pln.Kids p) 0 Pln.zero) c) + ((rowBound_r fuel) (List.getD (Pln.Kids p) 1 Pln.zero) c)))], []⟩
         [(0 ≤ (1 : Int) ∧ (1 : Int) < ((List.length (Pln.Kids p) : Nat) : Int)), ((PB c (List.getD (Pln.Kids p) 1 Pln.zero)) ∧ SizeOf.sizeOf (List.getD (Pln.Kids p) 1 Pln.zero) < fuel), (-9223372036854775808 ≤ (((rowBound_r fuel) (List.getD (Pln.Kids p) 0 Pln.zero) c) + ((rowBound_r fuel) (List.getD (Pln.Kids p) 1 Pln.zero) c)) ∧ (((rowBound_r fuel) (List.getD (Pln.Kids p) 0 Pln.zero) c) + ((rowBound_r fuel) (List.getD (Pln.Kids p) 1 Pln.zero) c)) ≤ 9223372036854775807)] (by kernel_rfl) ?_ ?_
        ·
         refine ⟨?_, ?_, ?_, trivial⟩
         ·
          first | omega | (dsimp only; omega) | (simp only [lens] at *; omega)
         ·
          exact ⟨hpre.1.kid (by omega), Nat.lt_of_lt_of_le (pkid_lt (by omega)) (Nat.le_of_lt_succ hpre.2)⟩
         ·
          have a := rowBound_b fuel _ _ (hpre.1.kid (i := 0) (by omega))
          have b := rowBound_b fuel _ _ (hpre.1.kid (i := 1) (by omega))
          first | omega | (have := le_mul a b; omega) | (have := le_mul a (b := if (rowBound_r fuel (List.getD (Pln.Kids p) 1 Pln.zero) c) > 1 then (rowBound_r fuel (List.getD (Pln.Kids p) 1 Pln.zero) c) else 1) (by split <;> omega); omega)
        refine AW.meet (((rowBound_r fuel) (List.getD (Pln.Kids p) 0 Pln.zero) c) + ((rowBound_r fuel) (List.getD (Pln.Kids p) 1 Pln.zero) c)) (by kernel_rfl) ⟨?_, e3571⟩
        show True
        first | exact trivial | assumption | omega
       ·
        intro h3572
        have h3572q : (Pln.Kind p) ≠ 6 := (Go.Am.beq_neg h3572)
        have e3573 := e3569.trans (Go.Am.bif_f h3572)
        refine AW.seq ?_
        refine AW.reg hC  false [] [2, 5, 53] [8]
         ⟨[(2, .ref 8 1 0), (5, .int .i64 ((rowBound_r fuel) (List.getD (Pln.Kids p) 0 Pln.zero) c)), (53, .bool ((Pln.Kind p) == 8))], [(8, .box 1 [.int .i64 (Pln.Kind p), .int .i64 (Pln.Table p), .data (.slice (.named 1)) ((Pln.Exprs p) : List Xpr), .data (.slice (.int .i64)) ((Pln.Cols p) : List Int), .data (.slice (.named 2)) ((Pln.Kids p) : List Pln)])]⟩
         [] (by kernel_rfl) ?_ ?_
        ·
         exact trivial
        refine AW.cutQ (α := Int) (fun x => ⟨[(5, .int .i64 x)], []⟩) (fun x => (True) ∧ (rowBound_j1 (rowBound_r fuel) p c) = x) ?_ ?_
        ·
         skip
         have e3612 : (rowBound_j1 (rowBound_r fuel) p c) = (rowBound_j1 (rowBound_r fuel) p c) := rfl
         refine AW.cond (b := ((Pln.Kind p) == 8)) (by kernel_rfl) ?_ ?_
         ·
          intro h3613
          have h3613q : (Pln.Kind p) = 8 := (Go.Am.beq_pos h3613)
          have e3614 := e3612.trans (Go.Am.bif_t h3613)
          refine AW.seq ?_
          refine AW.reg hC  false [] [5, 58] []
           ⟨[(5, .int .i64 ((rowBound_r fuel) (List.getD (Pln.Kids p) 0 Pln.zero) c)), (58, .bool (((List.length (Pln.Cols p) : Nat) : Int) == 0))], []⟩
           [] (by kernel_rfl) ?_ ?_
          ·
           exact trivial
          refine AW.cutQ (α := Int) (fun x => ⟨[(5, .int .i64 x)], []⟩) (fun x => (True) ∧ (rowBound_j0 (rowBound_r fuel) p c) = x) ?_ ?_
          ·
           skip
           have e3623 : (rowBound_j0 (rowBound_r fuel) p c) = (rowBound_j0 (rowBound_r fuel) p c) := rfl
           refine AW.cond (b := (((List.length (Pln.Cols p) : Nat) : Int) == 0)) (by kernel_rfl) ?_ ?_
           ·
            intro h3624
            have h3624q : ((List.length (Pln.Cols p) : Nat) : Int) = 0 := (Go.Am.beq_pos h3624)
            have e3625 := e3623.trans (Go.Am.bif_t h3624)
            refine AW.reg hC  false [] [5] []
             ⟨[(5, .int .i64 (if 1 < ((rowBound_r fuel) (List.getD (Pln.Kids p) 0 Pln.zero) c) then 1 else ((rowBound_r fuel) (List.getD (Pln.Kids p) 0 Pln.zero) c)))], []⟩
             [] (by kernel_rfl) ?_ ?_
            ·
             exact trivial
            refine AW.meet (if 1 < ((rowBound_r fuel) (List.getD (Pln.Kids p) 0 Pln.zero) c) then 1 else ((rowBound_r fuel) (List.getD (Pln.Kids p) 0 Pln.zero) c)) (by kernel_rfl) ⟨?_, e3625⟩
            show True
            first | exact trivial | assumption | omega
           ·
            intro h3626
            have h3626q : ((List.length (Pln.Cols p) : Nat) : Int) ≠ 0 := (Go.Am.beq_neg h3626)
            have e3627 := e3623.trans (Go.Am.bif_f h3626)
            refine AW.keep [5] [] ⟨[(5, .int .i64 ((rowBound_r fuel) (List.getD (Pln.Kids p) 0 Pln.zero) c))], []⟩ (by kernel_rfl) ?_
            refine AW.skip ?_
            refine AW.meet ((rowBound_r fuel) (List.getD (Pln.Kids p) 0 Pln.zero) c) (by kernel_rfl) ⟨?_, e3627⟩
            show True
            first | exact trivial | assumption | omega
          ·
           intro n hR
           obtain ⟨hM0, e3628⟩ := hR
           replace hM0 : True := hM0
           have e3629 := e3614.trans (Go.Am.then_eq e3628)
           refine AW.meet n (by kernel_rfl) ⟨?_, e3629⟩
           show True
           first | exact trivial | assumption | omega
         ·
          intro h3630
          have h3630q : (Pln.Kind p) ≠ 8 := (Go.Am.beq_neg h3630)
          have e3631 := e3612.trans (Go.Am.bif_f h3630)
          refine AW.keep [5] [] ⟨[(5, .int .i64 ((rowBound_r fuel) (List.getD (Pln.Kids p) 0 Pln.zero) c))], []⟩ (by kernel_rfl) ?_
          refine AW.skip ?_
          refine AW.meet ((rowBound_r fuel) (List.getD (Pln.Kids p) 0 Pln.zero) c) (by kernel_rfl) ⟨?_, e3631⟩
          show True
          first | exact trivial | assumption | omega
        ·
         intro n hR
         obtain ⟨hM1, e3632⟩ := hR
         replace hM1 : True := hM1
         have e3633 := e3573.trans (Go.Am.then_eq e3632)
         refine AW.meet n (by kernel_rfl) ⟨?_, e3633⟩
         show True
         first | exact trivial | assumption | omega
      ·
       intro n hR
       obtain ⟨hM2, e3634⟩ := hR
       replace hM2 : True := hM2
       have e3635 := e3440.trans (Go.Am.then_eq e3634)
       refine AW.meet n (by kernel_rfl) ⟨?_, e3635⟩
       show True
       first | exact trivial | assumption | omega
    ·
     intro n hR
     obtain ⟨hM3, e3636⟩ := hR
     replace hM3 : True := hM3
     have e3637 := e3037.trans (Go.Am.then_eq e3636)
     refine AW.meet n (by kernel_rfl) ⟨?_, e3637⟩
     show True
     first | exact trivial | assumption | omega
  ·
   intro n hR
   obtain ⟨hM4, e3638⟩ := hR
   replace hM4 : True := hM4
   have e3639 := e9.trans (Go.Am.then_eq e3638)
   refine AW.seq ?_
   refine AW.reg hC  false [] [4] []
    ⟨[(4, .int .i64 (if 1000000000 < n then 1000000000 else n))], []⟩
    [] (by kernel_rfl) ?_ ?_
   ·
    exact trivial
   refine AW.ret ?_
   exact AW.retE (β := Int) (fun v => [⟨(.int .i64), v⟩]) (fun v => []) (v := (if 1000000000 < n then 1000000000 else n)) e3639 (by kernel_rfl) rfl rfl

theorem rowBound_fu : AllTV (rowBound_sp.ps.map PK.ty) (fun tvs => rowBound_sp.pre tvs → ∃ k, (rowBound_spn k).pre tvs ∧ (rowBound_spn k).fn tvs = rowBound_sp.fn tvs ∧ (rowBound_spn k).bx tvs = rowBound_sp.bx tvs) :=
 (fun (p : Pln) (c : List Int) h => ⟨SizeOf.sizeOf p + 1, (show (PB c p) ∧ SizeOf.sizeOf p < SizeOf.sizeOf p + 1 from ⟨h, Nat.lt_succ_self _⟩), (show (rowBound_spn (SizeOf.sizeOf p + 1)).fn [⟨(.named 2), (p : Pln)⟩, ⟨(.slice (.int .i64)), (c : List Int)⟩] = ([⟨(.int .i64), (rowBound_r (SizeOf.sizeOf p + 1) p c)⟩] : List TV) from by kernel_rfl).trans (show ([⟨(.int .i64), (rowBound_r (SizeOf.sizeOf p + 1) p c)⟩] : List TV) = rowBound_sp.fn [⟨(.named 2), (p : Pln)⟩, ⟨(.slice (.int .i64)), (c : List Int)⟩] from by kernel_rfl), by kernel_rfl⟩)

theorem rowBound_ok : FnOK Try.prog 89 rowBound_sp := FnOK.of_fuel rowBound_okn (fun _ => rfl) (fun _ => rfl) (AllTV.get rowBound_fu)

def RowBound_l0 (c : List Int) : Nat → Nat → Unit ⊕ Int
 | 0, i => .inl ()
 | k + 1, i => (bif (decide (((i : Nat) : Int) < ((List.length c : Nat) : Int))) then (bif (!(inRange (List.getD c i 0) 0 400)) then (.inr (-1)) else (RowBound_l0 c k (i + 1))) else (.inl ()))

def RowBound (p : Pln) (ws : List Int) (c : List Int) : Int := (bif (bif ((widthOf (Pln.mk (Pln.Kind p) (Pln.Table p) (Pln.Exprs p) (Pln.Cols p) (Pln.Kids p)) ws) == 0) then true else (((List.length c : Nat) : Int) != ((List.length ws : Nat) : Int))) then (-1) else (Sum.elim (fun _ => (rowBound (Pln.mk (Pln.Kind p) (Pln.Table p) (Pln.Exprs p) (Pln.Cols p) (Pln.Kids p)) c)) (fun r => r) (RowBound_l0 c ((List.length c) - 0 + 1) 0)))

def RowBound_sp : FnSpec := mkSpec [.val (.named 2), .val (.slice (.int .i64)), .val (.slice (.int .i64))] [.val (.int .i64)] (fun (p : Pln) (ws : List Int) (c : List Int) => True) (fun (p : Pln) (ws : List Int) (c : List Int) => [⟨(.int .i64), (RowBound p ws c)⟩])

theorem RowBound_ok : FnOK Try.prog 49 RowBound_sp := by
 have hC : CtxOK Try.prog (mkCtx tyL [(77, widthOf_sp), (88, inRange_sp), (89, rowBound_sp)]) := CtxOK.cons widthOf_ok (CtxOK.cons inRange_ok (CtxOK.cons rowBound_ok (CtxOK.nil tyOK)))
 refine FnOK.of_body Try.func49 (by kernel_rfl) rfl (C := (mkCtx tyL [(77, widthOf_sp), (88, inRange_sp), (89, rowBound_sp)])) hC.ty (by kernel_rfl) ?_
 intro (p : Pln) (ws : List Int) (c : List Int) hwf hpre E
 have hpre : True := hpre
 have hw_p : Wf ⟨(.named 2), (p : Pln)⟩ := hwf _ (List.Mem.head _)
 have hr_p_Kind : -9223372036854775808 ≤ Pln.Kind p ∧ Pln.Kind p ≤ 9223372036854775807 := (hw_p.field (tv := ⟨(.int .i64), Pln.Kind p⟩) (List.Mem.head _)).int_inv
 have hr_p_Table : -9223372036854775808 ≤ Pln.Table p ∧ Pln.Table p ≤ 9223372036854775807 := (hw_p.field (tv := ⟨(.int .i64), Pln.Table p⟩) (List.Mem.tail _ (List.Mem.head _))).int_inv
 have hl_p_Exprs : ((List.length (Pln.Exprs p) : Nat) : Int) ≤ 9223372036854775807 := (hw_p.field (tv := ⟨(.slice (.named 1)), Pln.Exprs p⟩) (List.Mem.tail _ (List.Mem.tail _ (List.Mem.head _)))).len
 have hl_p_Cols : ((List.length (Pln.Cols p) : Nat) : Int) ≤ 9223372036854775807 := (hw_p.field (tv := ⟨(.slice (.int .i64)), Pln.Cols p⟩) (List.Mem.tail _ (List.Mem.tail _ (List.Mem.tail _ (List.Mem.head _))))).len
 have hl_p_Kids : ((List.length (Pln.Kids p) : Nat) : Int) ≤ 9223372036854775807 := (hw_p.field (tv := ⟨(.slice (.named 2)), Pln.Kids p⟩) (List.Mem.tail _ (List.Mem.tail _ (List.Mem.tail _ (List.Mem.tail _ (List.Mem.head _)))))).len
 have hw_ws : Wf ⟨(.slice (.int .i64)), (ws : List Int)⟩ := hwf _ (List.Mem.tail _ (List.Mem.head _))
 have hl_ws : ((List.length ws : Nat) : Int) ≤ 9223372036854775807 := hw_ws.len
 have hw_c : Wf ⟨(.slice (.int .i64)), (c : List Int)⟩ := hwf _ (List.Mem.tail _ (List.Mem.tail _ (List.Mem.head _)))
 have hl_c : ((List.length c : Nat) : Int) ≤ 9223372036854775807 := hw_c.len
 have e0 : RowBound p ws c = RowBound p ws c := rfl
 refine AW.seq ?_
 refine AW.reg hC  false [] [1, 2, 3] [12]
  ⟨[(1, .data (.slice (.int .i64)) (ws : List Int)), (2, .data (.slice (.int .i64)) (c : List Int)), (3, .ref 12 1 0)], [(12, .box 1 [.int .i64 (Pln.Kind p), .int .i64 (Pln.Table p), .data (.slice (.named 1)) ((Pln.Exprs p) : List Xpr), .data (.slice (.int .i64)) ((Pln.Cols p) : List Int), .data (.slice (.named 2)) ((Pln.Kids p) : List Pln)])]⟩
  [] (by kernel_rfl) ?_ ?_
 ·
  exact trivial
 refine AW.seq ?_
 refine AW.seq ?_
 refine AW.reg hC  false [] [2, 3, 18] [12]
  ⟨[(2, .data (.slice (.int .i64)) (c : List Int)), (3, .ref 12 1 0), (18, .bool (bif ((widthOf (Pln.mk (Pln.Kind p) (Pln.Table p) (Pln.Exprs p) (Pln.Cols p) (Pln.Kids p)) ws) == 0) then true else (((List.length c : Nat) : Int) != ((List.length ws : Nat) : Int))))], [(12, .box 1 [.int .i64 (Pln.Kind p), .int .i64 (Pln.Table p), .data (.slice (.named 1)) ((Pln.Exprs p) : List Xpr), .data (.slice (.int .i64)) ((Pln.Cols p) : List Int), .data (.slice (.named 2)) ((Pln.Kids p) : List Pln)])]⟩
  [(True), ((((widthOf (Pln.mk (Pln.Kind p) (Pln.Table p) (Pln.Exprs p) (Pln.Cols p) (Pln.Kids p)) ws) == 0) = false) → ((((widthOf (Pln.mk (Pln.Kind p) (Pln.Table p) (Pln.Exprs p) (Pln.Cols p) (Pln.Kids p)) ws) == 0) = false))), ((((widthOf (Pln.mk (Pln.Kind p) (Pln.Table p) (Pln.Exprs p) (Pln.Cols p) (Pln.Kids p)) ws) == 0) = false) → ((((widthOf (Pln.mk (Pln.Kind p) (Pln.Table p) (Pln.Exprs p) (Pln.Cols p) (Pln.Kids p)) ws) == 0) = false))), ((((widthOf (Pln.mk (Pln.Kind p) (Pln.Table p) (Pln.Exprs p) (Pln.Cols p) (Pln.Kids p)) ws) == 0) = false) → ((((widthOf (Pln.mk (Pln.Kind p) (Pln.Table p) (Pln.Exprs p) (Pln.Cols p) (Pln.Kids p)) ws) == 0) = false))), ((((widthOf (Pln.mk (Pln.Kind p) (Pln.Table p) (Pln.Exprs p) (Pln.Cols p) (Pln.Kids p)) ws) == 0) = false) → ((((widthOf (Pln.mk (Pln.Kind p) (Pln.Table p) (Pln.Exprs p) (Pln.Cols p) (Pln.Kids p)) ws) == 0) = false))), ((((widthOf (Pln.mk (Pln.Kind p) (Pln.Table p) (Pln.Exprs p) (Pln.Cols p) (Pln.Kids p)) ws) == 0) = false) → ((((widthOf (Pln.mk (Pln.Kind p) (Pln.Table p) (Pln.Exprs p) (Pln.Cols p) (Pln.Kids p)) ws) == 0) = false)))] (by kernel_rfl) ?_ ?_
 ·
  refine ⟨?_, ?_, ?_, ?_, ?_, ?_, trivial⟩
  ·
   trivial
  ·
   intro g1
   have g1p0 : (widthOf (Pln.mk (Pln.Kind p) (Pln.Table p) (Pln.Exprs p) (Pln.Cols p) (Pln.Kids p)) ws) ≠ 0 := (Go.Am.beq_neg g1)
   first | assumption | exact ⟨by assumption, by assumption⟩
  ·
   intro g2
   have g2p0 : (widthOf (Pln.mk (Pln.Kind p) (Pln.Table p) (Pln.Exprs p) (Pln.Cols p) (Pln.Kids p)) ws) ≠ 0 := (Go.Am.beq_neg g2)
   first | assumption | exact ⟨by assumption, by assumption⟩
  ·
   intro g3
   have g3p0 : (widthOf (Pln.mk (Pln.Kind p) (Pln.Table p) (Pln.Exprs p) (Pln.Cols p) (Pln.Kids p)) ws) ≠ 0 := (Go.Am.beq_neg g3)
   first | assumption | exact ⟨by assumption, by assumption⟩
  ·
   intro g4
   have g4p0 : (widthOf (Pln.mk (Pln.Kind p) (Pln.Table p) (Pln.Exprs p) (Pln.Cols p) (Pln.Kids p)) ws) ≠ 0 := (Go.Am.beq_neg g4)
   first | assumption | exact ⟨by assumption, by assumption⟩
  ·
   intro g5
   have g5p0 : (widthOf (Pln.mk (Pln.Kind p) (Pln.Table p) (Pln.Exprs p) (Pln.Cols p) (Pln.Kids p)) ws) ≠ 0 := (Go.Am.beq_neg g5)
   first | assumption | exact ⟨by assumption, by assumption⟩
 refine AW.cond (b := (bif ((widthOf (Pln.mk (Pln.Kind p) (Pln.Table p) (Pln.Exprs p) (Pln.Cols p) (Pln.Kids p)) ws) == 0) then true else (((List.length c : Nat) : Int) != ((List.length ws : Nat) : Int)))) (by kernel_rfl) ?_ ?_
 ·
  intro h6
  have h6q : ((widthOf (Pln.mk (Pln.Kind p) (Pln.Table p) (Pln.Exprs p) (Pln.Cols p) (Pln.Kids p)) ws) = 0) ∨ (((List.length c : Nat) : Int) ≠ ((List.length ws : Nat) : Int)) := (Or.imp (fun h => (Go.Am.beq_pos h)) (fun h => (Go.Am.bne_pos h)) (Go.Am.or_pos h6))
  have e7 := e0.trans (Go.Am.bif_t h6)
  refine AW.seq ?_
  refine AW.reg hC  false [] [6] []
   ⟨[(6, .int .i64 (-1))], []⟩
   [] (by kernel_rfl) ?_ ?_
  ·
   exact trivial
  refine AW.ret ?_
  exact AW.retE (β := Int) (fun v => [⟨(.int .i64), v⟩]) (fun v => []) (v := (-1)) e7 (by kernel_rfl) rfl rfl
 ·
  intro h8
  have h8q : ((widthOf (Pln.mk (Pln.Kind p) (Pln.Table p) (Pln.Exprs p) (Pln.Cols p) (Pln.Kids p)) ws) ≠ 0) ∧ (((List.length c : Nat) : Int) = ((List.length ws : Nat) : Int)) := (And.imp (fun h => (Go.Am.beq_neg h)) (fun h => (Go.Am.bne_neg h)) (Go.Am.or_neg h8))
  have e9 := e0.trans (Go.Am.bif_f h8)
  refine AW.keep [2, 3] [12] ⟨[(2, .data (.slice (.int .i64)) (c : List Int)), (3, .ref 12 1 0)], [(12, .box 1 [.int .i64 (Pln.Kind p), .int .i64 (Pln.Table p), .data (.slice (.named 1)) ((Pln.Exprs p) : List Xpr), .data (.slice (.int .i64)) ((Pln.Cols p) : List Int), .data (.slice (.named 2)) ((Pln.Kids p) : List Pln)])]⟩ (by kernel_rfl) ?_
  refine AW.skip ?_
  refine AW.seq ?_
  refine AW.seq ?_
  refine AW.reg hC  false [] [2, 3, 7] [12]
   ⟨[(2, .data (.slice (.int .i64)) (c : List Int)), (3, .ref 12 1 0), (7, .int .i64 0)], [(12, .box 1 [.int .i64 (Pln.Kind p), .int .i64 (Pln.Table p), .data (.slice (.named 1)) ((Pln.Exprs p) : List Xpr), .data (.slice (.int .i64)) ((Pln.Cols p) : List Int), .data (.slice (.named 2)) ((Pln.Kids p) : List Pln)])]⟩
   [] (by kernel_rfl) ?_ ?_
  ·
   exact trivial
  refine AW.cutQ (α := Unit) (fun x => ⟨[(2, .data (.slice (.int .i64)) (c : List Int)), (3, .ref 12 1 0)], [(12, .box 1 [.int .i64 (Pln.Kind p), .int .i64 (Pln.Table p), .data (.slice (.named 1)) ((Pln.Exprs p) : List Xpr), .data (.slice (.int .i64)) ((Pln.Cols p) : List Int), .data (.slice (.named 2)) ((Pln.Kids p) : List Pln)])]⟩) (fun x => (∀ j, j < c.length → 0 ≤ List.getD c j 0 ∧ List.getD c j 0 ≤ 400) ∧ (RowBound_l0 c ((List.length c) - 0 + 1) 0) = (.inl ())) ?_ ?_
  ·
   skip
   refine AW.block ?_
   refine AW.loop (α := Nat) (fun x => ⟨[(2, .data (.slice (.int .i64)) (c : List Int)), (3, .ref 12 1 0), (7, .int .i64 ((x : Nat) : Int))], [(12, .box 1 [.int .i64 (Pln.Kind p), .int .i64 (Pln.Table p), .data (.slice (.named 1)) ((Pln.Exprs p) : List Xpr), .data (.slice (.int .i64)) ((Pln.Cols p) : List Int), .data (.slice (.named 2)) ((Pln.Kids p) : List Pln)])]⟩) (fun x => (∀ j, j < x → 0 ≤ List.getD c j 0 ∧ List.getD c j 0 ≤ 400) ∧ ∃ k, (List.length c) - x < k ∧ (RowBound_l0 c ((List.length c) - 0 + 1) 0) = RowBound_l0 c k x) (fun x => (List.length c) - x) 0 (by kernel_rfl) ⟨?_, _, Nat.lt_succ_self _, rfl⟩ ?_
   ·
    show ∀ j, j < 0 → 0 ≤ List.getD c j 0 ∧ List.getD c j 0 ≤ 400
    exact fun j hj => absurd hj (Nat.not_lt_zero _)
   ·
    intro i hR
    obtain ⟨hI0, k39, hk37, e38⟩ := hR
    replace hI0 : ∀ j, j < i → 0 ≤ List.getD c j 0 ∧ List.getD c j 0 ≤ 400 := hI0
    replace hk37 : (List.length c) - i < k39 := hk37
    obtain ⟨k39q, rfl⟩ : ∃ k, k39 = k + 1 := ⟨k39 - 1, by omega⟩
    refine AW.seq ?_
    refine AW.seq ?_
    refine AW.reg hC  false [] [2, 3, 7, 22] [12]
     ⟨[(2, .data (.slice (.int .i64)) (c : List Int)), (3, .ref 12 1 0), (7, .int .i64 ((i : Nat) : Int)), (22, .bool (decide (((i : Nat) : Int) < ((List.length c : Nat) : Int))))], [(12, .box 1 [.int .i64 (Pln.Kind p), .int .i64 (Pln.Table p), .data (.slice (.named 1)) ((Pln.Exprs p) : List Xpr), .data (.slice (.int .i64)) ((Pln.Cols p) : List Int), .data (.slice (.named 2)) ((Pln.Kids p) : List Pln)])]⟩
     [] (by kernel_rfl) ?_ ?_
    ·
     exact trivial
    refine AW.cond (b := (decide (((i : Nat) : Int) < ((List.length c : Nat) : Int)))) (by kernel_rfl) ?_ ?_
    ·
     intro h40
     have h40q : ((i : Nat) : Int) < ((List.length c : Nat) : Int) := (of_decide_eq_true h40)
     have e41 := e38.trans (Go.Am.bif_t h40)
     refine AW.keep [2, 3, 7] [12] ⟨[(2, .data (.slice (.int .i64)) (c : List Int)), (3, .ref 12 1 0), (7, .int .i64 ((i : Nat) : Int))], [(12, .box 1 [.int .i64 (Pln.Kind p), .int .i64 (Pln.Table p), .data (.slice (.named 1)) ((Pln.Exprs p) : List Xpr), .data (.slice (.int .i64)) ((Pln.Cols p) : List Int), .data (.slice (.named 2)) ((Pln.Kids p) : List Pln)])]⟩ (by kernel_rfl) ?_
     refine AW.skip ?_
     refine AW.seq ?_
     refine AW.block ?_
     refine AW.seq ?_
     refine AW.reg hC  false [] [2, 3, 7, 30] [12]
      ⟨[(2, .data (.slice (.int .i64)) (c : List Int)), (3, .ref 12 1 0), (7, .int .i64 ((i : Nat) : Int)), (30, .bool (!(inRange (List.getD c i 0) 0 400)))], [(12, .box 1 [.int .i64 (Pln.Kind p), .int .i64 (Pln.Table p), .data (.slice (.named 1)) ((Pln.Exprs p) : List Xpr), .data (.slice (.int .i64)) ((Pln.Cols p) : List Int), .data (.slice (.named 2)) ((Pln.Kids p) : List Pln)])]⟩
      [(0 ≤ ((i : Nat) : Int) ∧ ((i : Nat) : Int) < ((List.length c : Nat) : Int)), (True)] (by kernel_rfl) ?_ ?_
     ·
      refine ⟨?_, ?_, trivial⟩
      ·
       first | omega | (dsimp only; omega) | (simp only [lens] at *; omega)
      ·
       trivial
     refine AW.cond (b := (!(inRange (List.getD c i 0) 0 400))) (by kernel_rfl) ?_ ?_
     ·
      intro h42
      have h42q : (inRange (List.getD c i 0) 0 400) = false := (Go.Am.not_pos h42)
      have e43 := e41.trans (Go.Am.bif_t h42)
      refine AW.seq ?_
      refine AW.reg hC  false [] [6] []
       ⟨[(6, .int .i64 (-1))], []⟩
       [] (by kernel_rfl) ?_ ?_
      ·
       exact trivial
      refine AW.ret ?_
      have e44 := e9.trans (Go.Am.elim_r e43)
      exact AW.retE (β := Int) (fun v => [⟨(.int .i64), v⟩]) (fun v => []) (v := (-1)) e44 (by kernel_rfl) rfl rfl
     ·
      intro h45
      have h45q : (inRange (List.getD c i 0) 0 400) = true := (Go.Am.not_neg h45)
      have e46 := e41.trans (Go.Am.bif_f h45)
      refine AW.keep [2, 3, 7] [12] ⟨[(2, .data (.slice (.int .i64)) (c : List Int)), (3, .ref 12 1 0), (7, .int .i64 ((i : Nat) : Int))], [(12, .box 1 [.int .i64 (Pln.Kind p), .int .i64 (Pln.Table p), .data (.slice (.named 1)) ((Pln.Exprs p) : List Xpr), .data (.slice (.int .i64)) ((Pln.Cols p) : List Int), .data (.slice (.named 2)) ((Pln.Kids p) : List Pln)])]⟩ (by kernel_rfl) ?_
      refine AW.skip ?_
      refine AW.reg hC  false [] [2, 3, 7] [12]
       ⟨[(2, .data (.slice (.int .i64)) (c : List Int)), (3, .ref 12 1 0), (7, .int .i64 ((i + 1 : Nat) : Int))], [(12, .box 1 [.int .i64 (Pln.Kind p), .int .i64 (Pln.Table p), .data (.slice (.named 1)) ((Pln.Exprs p) : List Xpr), .data (.slice (.int .i64)) ((Pln.Cols p) : List Int), .data (.slice (.named 2)) ((Pln.Kids p) : List Pln)])]⟩
       [(-9223372036854775808 ≤ ((i + 1 : Nat) : Int) ∧ ((i + 1 : Nat) : Int) ≤ 9223372036854775807)] (by kernel_rfl) ?_ ?_
      ·
       refine ⟨?_, trivial⟩
       ·
        first | omega | (dsimp only; omega) | (simp only [lens] at *; omega)
      refine AW.back (x := i) (i + 1) (by kernel_rfl) ⟨?_, k39q, ?_, e46⟩ ?_
      ·
       show ∀ j, j < (i + 1) → 0 ≤ List.getD c j 0 ∧ List.getD c j 0 ≤ 400
       intro j hj
       by_cases hj2 : j < i
       ·
        exact hI0 j hj2
       ·
        have : j = i := by omega
        subst this
        first | omega | (have := inRange_iff.1 h45q; omega)
      ·
       show (List.length c) - (i + 1) < k39q
       first | omega | (simp only [lens]; omega)
      ·
       show (List.length c) - (i + 1) < (List.length c) - i
       first | omega | (simp only [lens]; omega)
    ·
     intro h47
     have h47q : ¬ (((i : Nat) : Int) < ((List.length c : Nat) : Int)) := (of_decide_eq_false h47)
     have e48 := e38.trans (Go.Am.bif_f h47)
     refine AW.keep [2, 3] [12] ⟨[(2, .data (.slice (.int .i64)) (c : List Int)), (3, .ref 12 1 0)], [(12, .box 1 [.int .i64 (Pln.Kind p), .int .i64 (Pln.Table p), .data (.slice (.named 1)) ((Pln.Exprs p) : List Xpr), .data (.slice (.int .i64)) ((Pln.Cols p) : List Int), .data (.slice (.named 2)) ((Pln.Kids p) : List Pln)])]⟩ (by kernel_rfl) ?_
     refine AW.exit ?_
     refine AW.meet () (by kernel_rfl) ⟨?_, e48⟩
     show ∀ j, j < c.length → 0 ≤ List.getD c j 0 ∧ List.getD c j 0 ≤ 400
     intro j hj
     exact hI0 j (by omega)
  ·
   intro x hR
   obtain ⟨hJ0, e49⟩ := hR
   replace hJ0 : ∀ j, j < c.length → 0 ≤ List.getD c j 0 ∧ List.getD c j 0 ≤ 400 := hJ0
   have e50 := e9.trans (Go.Am.elim_l e49)
   refine AW.seq ?_
   refine AW.reg hC  false [] [6] []
    ⟨[(6, .int .i64 (rowBound (Pln.mk (Pln.Kind p) (Pln.Table p) (Pln.Exprs p) (Pln.Cols p) (Pln.Kids p)) c))], []⟩
    [(PB c (Pln.mk (Pln.Kind p) (Pln.Table p) (Pln.Exprs p) (Pln.Cols p) (Pln.Kids p)))] (by kernel_rfl) ?_ ?_
   ·
    refine ⟨?_, trivial⟩
    ·
     exact ⟨by
      have hp := PVn.mk' (p := Pln.mk (Pln.Kind p) (Pln.Table p) (Pln.Exprs p) (Pln.Cols p) (Pln.Kids p)) (ws := ws) h8q.1
      rw [show c.length = ws.length by omega]
      exact hp, hJ0⟩
   refine AW.ret ?_
   exact AW.retE (β := Int) (fun v => [⟨(.int .i64), v⟩]) (fun v => []) (v := (rowBound (Pln.mk (Pln.Kind p) (Pln.Table p) (Pln.Exprs p) (Pln.Cols p) (Pln.Kids p)) c)) e50 (by kernel_rfl) rfl rfl

def iRowBound_l0 (c : List Int) : Nat → Nat → Unit ⊕ Int
 | 0, v22 => .inl ()
 | k + 1, v22 => (bif (decide (((v22 : Nat) : Int) < ((List.length c : Nat) : Int))) then (bif (bif (decide ((List.getD c v22 0) < 0)) then true else (decide (400 < (List.getD c v22 0)))) then (.inr (-1)) else (iRowBound_l0 c k (v22 + 1))) else (.inl ()))

def iRowBound (p : Pln) (ws : List Int) (c : List Int) : Int := (bif (bif ((iPlanWidth (Pln.mk (Pln.Kind p) (Pln.Table p) (Pln.Exprs p) (Pln.Cols p) (Pln.Kids p)) ws) == 0) then true else (((List.length c : Nat) : Int) != ((List.length ws : Nat) : Int))) then (-1) else (Sum.elim (fun _ => (bound (Pln.mk (Pln.Kind p) (Pln.Table p) (Pln.Exprs p) (Pln.Cols p) (Pln.Kids p)) c)) (fun r => r) (iRowBound_l0 c ((List.length c) - 0 + 1) 0)))

def iRowBound_sp : FnSpec := mkSpec [.val (.named 2), .val (.slice (.int .i64)), .val (.slice (.int .i64))] [.val (.int .i64)] (fun (p : Pln) (ws : List Int) (c : List Int) => True) (fun (p : Pln) (ws : List Int) (c : List Int) => [⟨(.int .i64), (iRowBound p ws c)⟩])

theorem iRowBound_ok : FnOK Try.prog 50 iRowBound_sp := by
 have hC : CtxOK Try.prog (mkCtx tyL [(54, iPlanWidth_sp), (90, bound_sp)]) := CtxOK.cons iPlanWidth_ok (CtxOK.cons bound_ok (CtxOK.nil tyOK))
 refine FnOK.of_body Try.func50 (by kernel_rfl) rfl (C := (mkCtx tyL [(54, iPlanWidth_sp), (90, bound_sp)])) hC.ty (by kernel_rfl) ?_
 intro (p : Pln) (ws : List Int) (c : List Int) hwf hpre E
 have hpre : True := hpre
 have hw_p : Wf ⟨(.named 2), (p : Pln)⟩ := hwf _ (List.Mem.head _)
 have hr_p_Kind : -9223372036854775808 ≤ Pln.Kind p ∧ Pln.Kind p ≤ 9223372036854775807 := (hw_p.field (tv := ⟨(.int .i64), Pln.Kind p⟩) (List.Mem.head _)).int_inv
 have hr_p_Table : -9223372036854775808 ≤ Pln.Table p ∧ Pln.Table p ≤ 9223372036854775807 := (hw_p.field (tv := ⟨(.int .i64), Pln.Table p⟩) (List.Mem.tail _ (List.Mem.head _))).int_inv
 have hl_p_Exprs : ((List.length (Pln.Exprs p) : Nat) : Int) ≤ 9223372036854775807 := (hw_p.field (tv := ⟨(.slice (.named 1)), Pln.Exprs p⟩) (List.Mem.tail _ (List.Mem.tail _ (List.Mem.head _)))).len
 have hl_p_Cols : ((List.length (Pln.Cols p) : Nat) : Int) ≤ 9223372036854775807 := (hw_p.field (tv := ⟨(.slice (.int .i64)), Pln.Cols p⟩) (List.Mem.tail _ (List.Mem.tail _ (List.Mem.tail _ (List.Mem.head _))))).len
 have hl_p_Kids : ((List.length (Pln.Kids p) : Nat) : Int) ≤ 9223372036854775807 := (hw_p.field (tv := ⟨(.slice (.named 2)), Pln.Kids p⟩) (List.Mem.tail _ (List.Mem.tail _ (List.Mem.tail _ (List.Mem.tail _ (List.Mem.head _)))))).len
 have hw_ws : Wf ⟨(.slice (.int .i64)), (ws : List Int)⟩ := hwf _ (List.Mem.tail _ (List.Mem.head _))
 have hl_ws : ((List.length ws : Nat) : Int) ≤ 9223372036854775807 := hw_ws.len
 have hw_c : Wf ⟨(.slice (.int .i64)), (c : List Int)⟩ := hwf _ (List.Mem.tail _ (List.Mem.tail _ (List.Mem.head _)))
 have hl_c : ((List.length c : Nat) : Int) ≤ 9223372036854775807 := hw_c.len
 have e0 : iRowBound p ws c = iRowBound p ws c := rfl
 refine AW.seq ?_
 refine AW.reg hC  false [] [1, 2, 3] [12]
  ⟨[(1, .data (.slice (.int .i64)) (ws : List Int)), (2, .data (.slice (.int .i64)) (c : List Int)), (3, .ref 12 1 0)], [(12, .box 1 [.int .i64 (Pln.Kind p), .int .i64 (Pln.Table p), .data (.slice (.named 1)) ((Pln.Exprs p) : List Xpr), .data (.slice (.int .i64)) ((Pln.Cols p) : List Int), .data (.slice (.named 2)) ((Pln.Kids p) : List Pln)])]⟩
  [] (by kernel_rfl) ?_ ?_
 ·
  exact trivial
 refine AW.seq ?_
 refine AW.seq ?_
 refine AW.reg hC  false [] [2, 3, 19] [12]
  ⟨[(2, .data (.slice (.int .i64)) (c : List Int)), (3, .ref 12 1 0), (19, .bool (bif ((iPlanWidth (Pln.mk (Pln.Kind p) (Pln.Table p) (Pln.Exprs p) (Pln.Cols p) (Pln.Kids p)) ws) == 0) then true else (((List.length c : Nat) : Int) != ((List.length ws : Nat) : Int))))], [(12, .box 1 [.int .i64 (Pln.Kind p), .int .i64 (Pln.Table p), .data (.slice (.named 1)) ((Pln.Exprs p) : List Xpr), .data (.slice (.int .i64)) ((Pln.Cols p) : List Int), .data (.slice (.named 2)) ((Pln.Kids p) : List Pln)])]⟩
  [(True), ((((iPlanWidth (Pln.mk (Pln.Kind p) (Pln.Table p) (Pln.Exprs p) (Pln.Cols p) (Pln.Kids p)) ws) == 0) = false) → ((((iPlanWidth (Pln.mk (Pln.Kind p) (Pln.Table p) (Pln.Exprs p) (Pln.Cols p) (Pln.Kids p)) ws) == 0) = false))), ((((iPlanWidth (Pln.mk (Pln.Kind p) (Pln.Table p) (Pln.Exprs p) (Pln.Cols p) (Pln.Kids p)) ws) == 0) = false) → ((((iPlanWidth (Pln.mk (Pln.Kind p) (Pln.Table p) (Pln.Exprs p) (Pln.Cols p) (Pln.Kids p)) ws) == 0) = false))), ((((iPlanWidth (Pln.mk (Pln.Kind p) (Pln.Table p) (Pln.Exprs p) (Pln.Cols p) (Pln.Kids p)) ws) == 0) = false) → ((((iPlanWidth (Pln.mk (Pln.Kind p) (Pln.Table p) (Pln.Exprs p) (Pln.Cols p) (Pln.Kids p)) ws) == 0) = false))), ((((iPlanWidth (Pln.mk (Pln.Kind p) (Pln.Table p) (Pln.Exprs p) (Pln.Cols p) (Pln.Kids p)) ws) == 0) = false) → ((((iPlanWidth (Pln.mk (Pln.Kind p) (Pln.Table p) (Pln.Exprs p) (Pln.Cols p) (Pln.Kids p)) ws) == 0) = false))), ((((iPlanWidth (Pln.mk (Pln.Kind p) (Pln.Table p) (Pln.Exprs p) (Pln.Cols p) (Pln.Kids p)) ws) == 0) = false) → ((((iPlanWidth (Pln.mk (Pln.Kind p) (Pln.Table p) (Pln.Exprs p) (Pln.Cols p) (Pln.Kids p)) ws) == 0) = false)))] (by kernel_rfl) ?_ ?_
 ·
  refine ⟨?_, ?_, ?_, ?_, ?_, ?_, trivial⟩
  ·
   trivial
  ·
   intro g1
   have g1p0 : (iPlanWidth (Pln.mk (Pln.Kind p) (Pln.Table p) (Pln.Exprs p) (Pln.Cols p) (Pln.Kids p)) ws) ≠ 0 := (Go.Am.beq_neg g1)
   first | assumption | exact ⟨by assumption, by assumption⟩
  ·
   intro g2
   have g2p0 : (iPlanWidth (Pln.mk (Pln.Kind p) (Pln.Table p) (Pln.Exprs p) (Pln.Cols p) (Pln.Kids p)) ws) ≠ 0 := (Go.Am.beq_neg g2)
   first | assumption | exact ⟨by assumption, by assumption⟩
  ·
   intro g3
   have g3p0 : (iPlanWidth (Pln.mk (Pln.Kind p) (Pln.Table p) (Pln.Exprs p) (Pln.Cols p) (Pln.Kids p)) ws) ≠ 0 := (Go.Am.beq_neg g3)
   first | assumption | exact ⟨by assumption, by assumption⟩
  ·
   intro g4
   have g4p0 : (iPlanWidth (Pln.mk (Pln.Kind p) (Pln.Table p) (Pln.Exprs p) (Pln.Cols p) (Pln.Kids p)) ws) ≠ 0 := (Go.Am.beq_neg g4)
   first | assumption | exact ⟨by assumption, by assumption⟩
  ·
   intro g5
   have g5p0 : (iPlanWidth (Pln.mk (Pln.Kind p) (Pln.Table p) (Pln.Exprs p) (Pln.Cols p) (Pln.Kids p)) ws) ≠ 0 := (Go.Am.beq_neg g5)
   first | assumption | exact ⟨by assumption, by assumption⟩
 refine AW.cond (b := (bif ((iPlanWidth (Pln.mk (Pln.Kind p) (Pln.Table p) (Pln.Exprs p) (Pln.Cols p) (Pln.Kids p)) ws) == 0) then true else (((List.length c : Nat) : Int) != ((List.length ws : Nat) : Int)))) (by kernel_rfl) ?_ ?_
 ·
  intro h6
  have h6q : ((iPlanWidth (Pln.mk (Pln.Kind p) (Pln.Table p) (Pln.Exprs p) (Pln.Cols p) (Pln.Kids p)) ws) = 0) ∨ (((List.length c : Nat) : Int) ≠ ((List.length ws : Nat) : Int)) := (Or.imp (fun h => (Go.Am.beq_pos h)) (fun h => (Go.Am.bne_pos h)) (Go.Am.or_pos h6))
  have e7 := e0.trans (Go.Am.bif_t h6)
  refine AW.seq ?_
  refine AW.reg hC  false [] [6] []
   ⟨[(6, .int .i64 (-1))], []⟩
   [] (by kernel_rfl) ?_ ?_
  ·
   exact trivial
  refine AW.ret ?_
  exact AW.retE (β := Int) (fun v => [⟨(.int .i64), v⟩]) (fun v => []) (v := (-1)) e7 (by kernel_rfl) rfl rfl
 ·
  intro h8
  have h8q : ((iPlanWidth (Pln.mk (Pln.Kind p) (Pln.Table p) (Pln.Exprs p) (Pln.Cols p) (Pln.Kids p)) ws) ≠ 0) ∧ (((List.length c : Nat) : Int) = ((List.length ws : Nat) : Int)) := (And.imp (fun h => (Go.Am.beq_neg h)) (fun h => (Go.Am.bne_neg h)) (Go.Am.or_neg h8))
  have e9 := e0.trans (Go.Am.bif_f h8)
  refine AW.keep [2, 3] [12] ⟨[(2, .data (.slice (.int .i64)) (c : List Int)), (3, .ref 12 1 0)], [(12, .box 1 [.int .i64 (Pln.Kind p), .int .i64 (Pln.Table p), .data (.slice (.named 1)) ((Pln.Exprs p) : List Xpr), .data (.slice (.int .i64)) ((Pln.Cols p) : List Int), .data (.slice (.named 2)) ((Pln.Kids p) : List Pln)])]⟩ (by kernel_rfl) ?_
  refine AW.skip ?_
  refine AW.seq ?_
  refine AW.seq ?_
  refine AW.reg hC  false [] [2, 3, 20, 21, 22] [12]
   ⟨[(2, .data (.slice (.int .i64)) (c : List Int)), (3, .ref 12 1 0), (20, .data (.slice (.int .i64)) (c : List Int)), (21, .int .i64 ((List.length c : Nat) : Int)), (22, .int .i64 0)], [(12, .box 1 [.int .i64 (Pln.Kind p), .int .i64 (Pln.Table p), .data (.slice (.named 1)) ((Pln.Exprs p) : List Xpr), .data (.slice (.int .i64)) ((Pln.Cols p) : List Int), .data (.slice (.named 2)) ((Pln.Kids p) : List Pln)])]⟩
   [] (by kernel_rfl) ?_ ?_
  ·
   exact trivial
  refine AW.cutQ (α := Unit) (fun x => ⟨[(2, .data (.slice (.int .i64)) (c : List Int)), (3, .ref 12 1 0)], [(12, .box 1 [.int .i64 (Pln.Kind p), .int .i64 (Pln.Table p), .data (.slice (.named 1)) ((Pln.Exprs p) : List Xpr), .data (.slice (.int .i64)) ((Pln.Cols p) : List Int), .data (.slice (.named 2)) ((Pln.Kids p) : List Pln)])]⟩) (fun x => (∀ j, j < c.length → 0 ≤ List.getD c j 0 ∧ List.getD c j 0 ≤ 400) ∧ (iRowBound_l0 c ((List.length c) - 0 + 1) 0) = (.inl ())) ?_ ?_
  ·
   skip
   refine AW.block ?_
   refine AW.loop (α := Nat) (fun x => ⟨[(2, .data (.slice (.int .i64)) (c : List Int)), (3, .ref 12 1 0), (20, .data (.slice (.int .i64)) (c : List Int)), (21, .int .i64 ((List.length c : Nat) : Int)), (22, .int .i64 ((x : Nat) : Int))], [(12, .box 1 [.int .i64 (Pln.Kind p), .int .i64 (Pln.Table p), .data (.slice (.named 1)) ((Pln.Exprs p) : List Xpr), .data (.slice (.int .i64)) ((Pln.Cols p) : List Int), .data (.slice (.named 2)) ((Pln.Kids p) : List Pln)])]⟩) (fun x => (∀ j, j < x → 0 ≤ List.getD c j 0 ∧ List.getD c j 0 ≤ 400) ∧ ∃ k, (List.length c) - x < k ∧ (iRowBound_l0 c ((List.length c) - 0 + 1) 0) = iRowBound_l0 c k x) (fun x => (List.length c) - x) 0 (by kernel_rfl) ⟨?_, _, Nat.lt_succ_self _, rfl⟩ ?_
   ·
    show ∀ j, j < 0 → 0 ≤ List.getD c j 0 ∧ List.getD c j 0 ≤ 400
    exact fun j hj => absurd hj (Nat.not_lt_zero _)
   ·
    intro v22 hR
    obtain ⟨hI0, k39, hk37, e38⟩ := hR
    replace hI0 : ∀ j, j < v22 → 0 ≤ List.getD c j 0 ∧ List.getD c j 0 ≤ 400 := hI0
    replace hk37 : (List.length c) - v22 < k39 := hk37
    obtain ⟨k39q, rfl⟩ : ∃ k, k39 = k + 1 := ⟨k39 - 1, by omega⟩
    refine AW.seq ?_
    refine AW.reg hC  false [] [2, 3, 20, 21, 22, 23] [12]
     ⟨[(2, .data (.slice (.int .i64)) (c : List Int)), (3, .ref 12 1 0), (20, .data (.slice (.int .i64)) (c : List Int)), (21, .int .i64 ((List.length c : Nat) : Int)), (22, .int .i64 ((v22 : Nat) : Int)), (23, .bool (decide (((v22 : Nat) : Int) < ((List.length c : Nat) : Int))))], [(12, .box 1 [.int .i64 (Pln.Kind p), .int .i64 (Pln.Table p), .data (.slice (.named 1)) ((Pln.Exprs p) : List Xpr), .data (.slice (.int .i64)) ((Pln.Cols p) : List Int), .data (.slice (.named 2)) ((Pln.Kids p) : List Pln)])]⟩
     [] (by kernel_rfl) ?_ ?_
    ·
     exact trivial
    refine AW.seq ?_
    refine AW.cond (b := (decide (((v22 : Nat) : Int) < ((List.length c : Nat) : Int)))) (by kernel_rfl) ?_ ?_
    ·
     intro h40
     have h40q : ((v22 : Nat) : Int) < ((List.length c : Nat) : Int) := (of_decide_eq_true h40)
     have e41 := e38.trans (Go.Am.bif_t h40)
     refine AW.keep [2, 3, 20, 21, 22] [12] ⟨[(2, .data (.slice (.int .i64)) (c : List Int)), (3, .ref 12 1 0), (20, .data (.slice (.int .i64)) (c : List Int)), (21, .int .i64 ((List.length c : Nat) : Int)), (22, .int .i64 ((v22 : Nat) : Int))], [(12, .box 1 [.int .i64 (Pln.Kind p), .int .i64 (Pln.Table p), .data (.slice (.named 1)) ((Pln.Exprs p) : List Xpr), .data (.slice (.int .i64)) ((Pln.Cols p) : List Int), .data (.slice (.named 2)) ((Pln.Kids p) : List Pln)])]⟩ (by kernel_rfl) ?_
     refine AW.skip ?_
     refine AW.seq ?_
     refine AW.block ?_
     refine AW.seq ?_
     refine AW.reg hC  false [] [2, 3, 8, 20, 21, 22] [12]
      ⟨[(2, .data (.slice (.int .i64)) (c : List Int)), (3, .ref 12 1 0), (8, .int .i64 (List.getD c v22 0)), (20, .data (.slice (.int .i64)) (c : List Int)), (21, .int .i64 ((List.length c : Nat) : Int)), (22, .int .i64 ((v22 : Nat) : Int))], [(12, .box 1 [.int .i64 (Pln.Kind p), .int .i64 (Pln.Table p), .data (.slice (.named 1)) ((Pln.Exprs p) : List Xpr), .data (.slice (.int .i64)) ((Pln.Cols p) : List Int), .data (.slice (.named 2)) ((Pln.Kids p) : List Pln)])]⟩
      [(0 ≤ ((v22 : Nat) : Int) ∧ ((v22 : Nat) : Int) < ((List.length c : Nat) : Int))] (by kernel_rfl) ?_ ?_
     ·
      refine ⟨?_, trivial⟩
      ·
       first | omega | (dsimp only; omega) | (simp only [lens] at *; omega)
     refine AW.seq ?_
     refine AW.reg hC  false [] [2, 3, 20, 21, 22, 31] [12]
      ⟨[(2, .data (.slice (.int .i64)) (c : List Int)), (3, .ref 12 1 0), (20, .data (.slice (.int .i64)) (c : List Int)), (21, .int .i64 ((List.length c : Nat) : Int)), (22, .int .i64 ((v22 : Nat) : Int)), (31, .bool (bif (decide ((List.getD c v22 0) < 0)) then true else (decide (400 < (List.getD c v22 0)))))], [(12, .box 1 [.int .i64 (Pln.Kind p), .int .i64 (Pln.Table p), .data (.slice (.named 1)) ((Pln.Exprs p) : List Xpr), .data (.slice (.int .i64)) ((Pln.Cols p) : List Int), .data (.slice (.named 2)) ((Pln.Kids p) : List Pln)])]⟩
      [(((decide ((List.getD c v22 0) < 0)) = false) → (((decide ((List.getD c v22 0) < 0)) = false))), (((decide ((List.getD c v22 0) < 0)) = false) → (((decide ((List.getD c v22 0) < 0)) = false)))] (by kernel_rfl) ?_ ?_
     ·
      refine ⟨?_, ?_, trivial⟩
      ·
       intro g42
       have g42p0 : ¬ ((List.getD c v22 0) < 0) := (of_decide_eq_false g42)
       first | assumption | exact ⟨by assumption, by assumption⟩
      ·
       intro g43
       have g43p0 : ¬ ((List.getD c v22 0) < 0) := (of_decide_eq_false g43)
       first | assumption | exact ⟨by assumption, by assumption⟩
     refine AW.cond (b := (bif (decide ((List.getD c v22 0) < 0)) then true else (decide (400 < (List.getD c v22 0))))) (by kernel_rfl) ?_ ?_
     ·
      intro h44
      have h44q : ((List.getD c v22 0) < 0) ∨ (400 < (List.getD c v22 0)) := (Or.imp (fun h => (of_decide_eq_true h)) (fun h => (of_decide_eq_true h)) (Go.Am.or_pos h44))
      have e45 := e41.trans (Go.Am.bif_t h44)
      refine AW.seq ?_
      refine AW.reg hC  false [] [6] []
       ⟨[(6, .int .i64 (-1))], []⟩
       [] (by kernel_rfl) ?_ ?_
      ·
       exact trivial
      refine AW.ret ?_
      have e46 := e9.trans (Go.Am.elim_r e45)
      exact AW.retE (β := Int) (fun v => [⟨(.int .i64), v⟩]) (fun v => []) (v := (-1)) e46 (by kernel_rfl) rfl rfl
     ·
      intro h47
      have h47q : (¬ ((List.getD c v22 0) < 0)) ∧ (¬ (400 < (List.getD c v22 0))) := (And.imp (fun h => (of_decide_eq_false h)) (fun h => (of_decide_eq_false h)) (Go.Am.or_neg h47))
      have e48 := e41.trans (Go.Am.bif_f h47)
      refine AW.keep [2, 3, 20, 21, 22] [12] ⟨[(2, .data (.slice (.int .i64)) (c : List Int)), (3, .ref 12 1 0), (20, .data (.slice (.int .i64)) (c : List Int)), (21, .int .i64 ((List.length c : Nat) : Int)), (22, .int .i64 ((v22 : Nat) : Int))], [(12, .box 1 [.int .i64 (Pln.Kind p), .int .i64 (Pln.Table p), .data (.slice (.named 1)) ((Pln.Exprs p) : List Xpr), .data (.slice (.int .i64)) ((Pln.Cols p) : List Int), .data (.slice (.named 2)) ((Pln.Kids p) : List Pln)])]⟩ (by kernel_rfl) ?_
      refine AW.skip ?_
      refine AW.reg hC  false [] [2, 3, 20, 21, 22] [12]
       ⟨[(2, .data (.slice (.int .i64)) (c : List Int)), (3, .ref 12 1 0), (20, .data (.slice (.int .i64)) (c : List Int)), (21, .int .i64 ((List.length c : Nat) : Int)), (22, .int .i64 ((v22 + 1 : Nat) : Int))], [(12, .box 1 [.int .i64 (Pln.Kind p), .int .i64 (Pln.Table p), .data (.slice (.named 1)) ((Pln.Exprs p) : List Xpr), .data (.slice (.int .i64)) ((Pln.Cols p) : List Int), .data (.slice (.named 2)) ((Pln.Kids p) : List Pln)])]⟩
       [(-9223372036854775808 ≤ ((v22 + 1 : Nat) : Int) ∧ ((v22 + 1 : Nat) : Int) ≤ 9223372036854775807)] (by kernel_rfl) ?_ ?_
      ·
       refine ⟨?_, trivial⟩
       ·
        first | omega | (dsimp only; omega) | (simp only [lens] at *; omega)
      refine AW.back (x := v22) (v22 + 1) (by kernel_rfl) ⟨?_, k39q, ?_, e48⟩ ?_
      ·
       show ∀ j, j < (v22 + 1) → 0 ≤ List.getD c j 0 ∧ List.getD c j 0 ≤ 400
       intro j hj
       by_cases hj2 : j < v22
       ·
        exact hI0 j hj2
       ·
        have : j = v22 := by omega
        subst this
        first | omega | (have := inRange_iff.1 h47q; omega)
      ·
       show (List.length c) - (v22 + 1) < k39q
       first | omega | (simp only [lens]; omega)
      ·
       show (List.length c) - (v22 + 1) < (List.length c) - v22
       first | omega | (simp only [lens]; omega)
    ·
     intro h49
     have h49q : ¬ (((v22 : Nat) : Int) < ((List.length c : Nat) : Int)) := (of_decide_eq_false h49)
     have e50 := e38.trans (Go.Am.bif_f h49)
     refine AW.keep [2, 3] [12] ⟨[(2, .data (.slice (.int .i64)) (c : List Int)), (3, .ref 12 1 0)], [(12, .box 1 [.int .i64 (Pln.Kind p), .int .i64 (Pln.Table p), .data (.slice (.named 1)) ((Pln.Exprs p) : List Xpr), .data (.slice (.int .i64)) ((Pln.Cols p) : List Int), .data (.slice (.named 2)) ((Pln.Kids p) : List Pln)])]⟩ (by kernel_rfl) ?_
     refine AW.exit ?_
     refine AW.meet () (by kernel_rfl) ⟨?_, e50⟩
     show ∀ j, j < c.length → 0 ≤ List.getD c j 0 ∧ List.getD c j 0 ≤ 400
     intro j hj
     exact hI0 j (by omega)
  ·
   intro x hR
   obtain ⟨hJ0, e51⟩ := hR
   replace hJ0 : ∀ j, j < c.length → 0 ≤ List.getD c j 0 ∧ List.getD c j 0 ≤ 400 := hJ0
   have e52 := e9.trans (Go.Am.elim_l e51)
   refine AW.seq ?_
   refine AW.reg hC  false [] [6] []
    ⟨[(6, .int .i64 (bound (Pln.mk (Pln.Kind p) (Pln.Table p) (Pln.Exprs p) (Pln.Cols p) (Pln.Kids p)) c))], []⟩
    [(PB c (Pln.mk (Pln.Kind p) (Pln.Table p) (Pln.Exprs p) (Pln.Cols p) (Pln.Kids p)))] (by kernel_rfl) ?_ ?_
   ·
    refine ⟨?_, trivial⟩
    ·
     exact ⟨by
      have hp := PVn.mk' (p := Pln.mk (Pln.Kind p) (Pln.Table p) (Pln.Exprs p) (Pln.Cols p) (Pln.Kids p)) (ws := ws) (by rw [← PlanWidth_same]; exact h8q.1)
      rw [show c.length = ws.length by omega]
      exact hp, hJ0⟩
   refine AW.ret ?_
   exact AW.retE (β := Int) (fun v => [⟨(.int .i64), v⟩]) (fun v => []) (v := (bound (Pln.mk (Pln.Kind p) (Pln.Table p) (Pln.Exprs p) (Pln.Cols p) (Pln.Kids p)) c)) e52 (by kernel_rfl) rfl rfl

theorem RowBound_same (p : Pln) (ws c : List Int) : iRowBound p ws c = RowBound p ws c := by
 unfold iRowBound RowBound
 simp only [Pln.eta, iPlanWidth_eq]
 cases (bif widthOf p ws == 0 then true else ((c.length : Nat) : Int) != ((ws.length : Nat) : Int)) with
 | true => rfl
 | false =>
  simp only [cond_false]
  have hb : rowBound p c = bound p c := by
   unfold rowBound bound
   rw [rowBound_eq]
  rcases all_loopG (-1) (iRowBound_l0 c) c.length (fun i => bif (decide ((List.getD c i 0) < 0)) then true else (decide (400 < (List.getD c i 0)))) (fun k i => rfl) (c.length - 0 + 1) 0 (by omega) with ⟨h1, h2⟩ | ⟨h1, j, h2, h3, h4⟩
  ·
   rcases all_loopG (-1) (RowBound_l0 c) c.length (fun i => !(inRange (List.getD c i 0) 0 400)) (fun k i => rfl) (c.length - 0 + 1) 0 (by omega) with ⟨g1, g2⟩ | ⟨g1, j, g2, g3, g4⟩
   ·
    rw [h1, g1]
    exact hb.symm
   ·
    exfalso
    have := or_neg (h2 j (by omega) g3)
    have b1 := of_decide_eq_false this.1
    have b2 := of_decide_eq_false this.2
    rw [inRange_iff.2 (by omega)] at g4
    cases g4
  ·
   rcases all_loopG (-1) (RowBound_l0 c) c.length (fun i => !(inRange (List.getD c i 0) 0 400)) (fun k i => rfl) (c.length - 0 + 1) 0 (by omega) with ⟨g1, g2⟩ | ⟨g1, j', g2, g3, g4⟩
   ·
    exfalso
    have := inRange_iff.1 (not_neg (g2 j (by omega) h3))
    rcases or_pos h4 with h | h
    ·
     have := of_decide_eq_true h; omega
    ·
     have := of_decide_eq_true h; omega
   ·
    rw [h1, g1]
    rfl

def FnExactRowBound (aP : Pln) (aWidths : List Int) (aCounts : List Int) : Bool := (bif (decide (1048576 < ((List.length aWidths : Nat) : Int))) then true else (bif (decide (1048576 < ((List.length aCounts : Nat) : Int))) then true else (bif (decide ((szPlan (Pln.mk (Pln.Kind aP) (Pln.Table aP) (Pln.Exprs aP) (Pln.Cols aP) (Pln.Kids aP)) 1048576) < 0)) then true else (bif ((iRowBound (Pln.mk (Pln.Kind (toPlan (Pln.mk (Pln.Kind aP) (Pln.Table aP) (Pln.Exprs aP) (Pln.Cols aP) (Pln.Kids aP)))) (Pln.Table (toPlan (Pln.mk (Pln.Kind aP) (Pln.Table aP) (Pln.Exprs aP) (Pln.Cols aP) (Pln.Kids aP)))) (Pln.Exprs (toPlan (Pln.mk (Pln.Kind aP) (Pln.Table aP) (Pln.Exprs aP) (Pln.Cols aP) (Pln.Kids aP)))) (Pln.Cols (toPlan (Pln.mk (Pln.Kind aP) (Pln.Table aP) (Pln.Exprs aP) (Pln.Cols aP) (Pln.Kids aP)))) (Pln.Kids (toPlan (Pln.mk (Pln.Kind aP) (Pln.Table aP) (Pln.Exprs aP) (Pln.Cols aP) (Pln.Kids aP))))) (toIntS aWidths) (toIntS aCounts)) != (RowBound (toPlan (Pln.mk (Pln.Kind aP) (Pln.Table aP) (Pln.Exprs aP) (Pln.Cols aP) (Pln.Kids aP))) (toIntS aWidths) (toIntS aCounts))) then false else (bif (!(eqPlan (Pln.mk (Pln.Kind (toPlan (Pln.mk (Pln.Kind aP) (Pln.Table aP) (Pln.Exprs aP) (Pln.Cols aP) (Pln.Kids aP)))) (Pln.Table (toPlan (Pln.mk (Pln.Kind aP) (Pln.Table aP) (Pln.Exprs aP) (Pln.Cols aP) (Pln.Kids aP)))) (Pln.Exprs (toPlan (Pln.mk (Pln.Kind aP) (Pln.Table aP) (Pln.Exprs aP) (Pln.Cols aP) (Pln.Kids aP)))) (Pln.Cols (toPlan (Pln.mk (Pln.Kind aP) (Pln.Table aP) (Pln.Exprs aP) (Pln.Cols aP) (Pln.Kids aP)))) (Pln.Kids (toPlan (Pln.mk (Pln.Kind aP) (Pln.Table aP) (Pln.Exprs aP) (Pln.Cols aP) (Pln.Kids aP))))) (toPlan (Pln.mk (Pln.Kind aP) (Pln.Table aP) (Pln.Exprs aP) (Pln.Cols aP) (Pln.Kids aP))))) then false else (bif (!(eqIntS (toIntS aWidths) (toIntS aWidths))) then false else (bif (!(eqIntS (toIntS aCounts) (toIntS aCounts))) then false else true)))))))

def FnExactRowBound_sp : FnSpec := mkSpec [.val (.named 2), .val (.slice (.int .i64)), .val (.slice (.int .i64))] [.val .bool] (fun (aP : Pln) (aWidths : List Int) (aCounts : List Int) => True) (fun (aP : Pln) (aWidths : List Int) (aCounts : List Int) => [⟨.bool, (FnExactRowBound aP aWidths aCounts)⟩])

theorem FnExactRowBound_ok : FnOK Try.prog 9 FnExactRowBound_sp := by
 have hC : CtxOK Try.prog (mkCtx tyL [(15, szPlan_sp), (18, toPlan_sp), (21, eqPlan_sp), (30, toIntS_sp), (34, eqIntS_sp), (49, RowBound_sp), (50, iRowBound_sp)]) := CtxOK.cons szPlan_ok (CtxOK.cons toPlan_ok (CtxOK.cons eqPlan_ok (CtxOK.cons toIntS_ok (CtxOK.cons eqIntS_ok (CtxOK.cons RowBound_ok (CtxOK.cons iRowBound_ok (CtxOK.nil tyOK)))))))
 have hM : Try.prog.follows .mixedOrders = true := Try.checked.mixed
 refine FnOK.of_body Try.func9 (by kernel_rfl) rfl (C := (mkCtx tyL [(15, szPlan_sp), (18, toPlan_sp), (21, eqPlan_sp), (30, toIntS_sp), (34, eqIntS_sp), (49, RowBound_sp), (50, iRowBound_sp)])) hC.ty (by kernel_rfl) ?_
 intro (aP : Pln) (aWidths : List Int) (aCounts : List Int) hwf hpre E
 have hpre : True := hpre
 have hw_aP : Wf ⟨(.named 2), (aP : Pln)⟩ := hwf _ (List.Mem.head _)
 have hr_aP_Kind : -9223372036854775808 ≤ Pln.Kind aP ∧ Pln.Kind aP ≤ 9223372036854775807 := (hw_aP.field (tv := ⟨(.int .i64), Pln.Kind aP⟩) (List.Mem.head _)).int_inv
 have hr_aP_Table : -9223372036854775808 ≤ Pln.Table aP ∧ Pln.Table aP ≤ 9223372036854775807 := (hw_aP.field (tv := ⟨(.int .i64), Pln.Table aP⟩) (List.Mem.tail _ (List.Mem.head _))).int_inv
 have hl_aP_Exprs : ((List.length (Pln.Exprs aP) : Nat) : Int) ≤ 9223372036854775807 := (hw_aP.field (tv := ⟨(.slice (.named 1)), Pln.Exprs aP⟩) (List.Mem.tail _ (List.Mem.tail _ (List.Mem.head _)))).len
 have hl_aP_Cols : ((List.length (Pln.Cols aP) : Nat) : Int) ≤ 9223372036854775807 := (hw_aP.field (tv := ⟨(.slice (.int .i64)), Pln.Cols aP⟩) (List.Mem.tail _ (List.Mem.tail _ (List.Mem.tail _ (List.Mem.head _))))).len
 have hl_aP_Kids : ((List.length (Pln.Kids aP) : Nat) : Int) ≤ 9223372036854775807 := (hw_aP.field (tv := ⟨(.slice (.named 2)), Pln.Kids aP⟩) (List.Mem.tail _ (List.Mem.tail _ (List.Mem.tail _ (List.Mem.tail _ (List.Mem.head _)))))).len
 have hw_aWidths : Wf ⟨(.slice (.int .i64)), (aWidths : List Int)⟩ := hwf _ (List.Mem.tail _ (List.Mem.head _))
 have hl_aWidths : ((List.length aWidths : Nat) : Int) ≤ 9223372036854775807 := hw_aWidths.len
 have hw_aCounts : Wf ⟨(.slice (.int .i64)), (aCounts : List Int)⟩ := hwf _ (List.Mem.tail _ (List.Mem.tail _ (List.Mem.head _)))
 have hl_aCounts : ((List.length aCounts : Nat) : Int) ≤ 9223372036854775807 := hw_aCounts.len
 have e0 : FnExactRowBound aP aWidths aCounts = FnExactRowBound aP aWidths aCounts := rfl
 refine AW.seq ?_
 refine AW.reg hC  false [] [1, 2, 3] [12]
  ⟨[(1, .data (.slice (.int .i64)) (aWidths : List Int)), (2, .data (.slice (.int .i64)) (aCounts : List Int)), (3, .ref 12 1 0)], [(12, .box 1 [.int .i64 (Pln.Kind aP), .int .i64 (Pln.Table aP), .data (.slice (.named 1)) ((Pln.Exprs aP) : List Xpr), .data (.slice (.int .i64)) ((Pln.Cols aP) : List Int), .data (.slice (.named 2)) ((Pln.Kids aP) : List Pln)])]⟩
  [] (by kernel_rfl) ?_ ?_
 ·
  exact trivial
 refine AW.seq ?_
 refine AW.seq ?_
 refine AW.reg hC  false [] [1, 2, 3, 15] [12]
  ⟨[(1, .data (.slice (.int .i64)) (aWidths : List Int)), (2, .data (.slice (.int .i64)) (aCounts : List Int)), (3, .ref 12 1 0), (15, .bool (decide (1048576 < ((List.length aWidths : Nat) : Int))))], [(12, .box 1 [.int .i64 (Pln.Kind aP), .int .i64 (Pln.Table aP), .data (.slice (.named 1)) ((Pln.Exprs aP) : List Xpr), .data (.slice (.int .i64)) ((Pln.Cols aP) : List Int), .data (.slice (.named 2)) ((Pln.Kids aP) : List Pln)])]⟩
  [] (by kernel_rfl) ?_ ?_
 ·
  exact trivial
 refine AW.cond (b := (decide (1048576 < ((List.length aWidths : Nat) : Int)))) (by kernel_rfl) ?_ ?_
 ·
  intro h1
  have h1q : 1048576 < ((List.length aWidths : Nat) : Int) := (of_decide_eq_true h1)
  have e2 := e0.trans (Go.Am.bif_t h1)
  refine AW.seq ?_
  refine AW.reg hC  false [] [6] []
   ⟨[(6, .bool true)], []⟩
   [] (by kernel_rfl) ?_ ?_
  ·
   exact trivial
  refine AW.ret ?_
  exact AW.retE (β := Bool) (fun v => [⟨.bool, v⟩]) (fun v => []) (v := true) e2 (by kernel_rfl) rfl rfl
 ·
  intro h3
  have h3q : ¬ (1048576 < ((List.length aWidths : Nat) : Int)) := (of_decide_eq_false h3)
  have e4 := e0.trans (Go.Am.bif_f h3)
  refine AW.keep [1, 2, 3] [12] ⟨[(1, .data (.slice (.int .i64)) (aWidths : List Int)), (2, .data (.slice (.int .i64)) (aCounts : List Int)), (3, .ref 12 1 0)], [(12, .box 1 [.int .i64 (Pln.Kind aP), .int .i64 (Pln.Table aP), .data (.slice (.named 1)) ((Pln.Exprs aP) : List Xpr), .data (.slice (.int .i64)) ((Pln.Cols aP) : List Int), .data (.slice (.named 2)) ((Pln.Kids aP) : List Pln)])]⟩ (by kernel_rfl) ?_
  refine AW.skip ?_
  refine AW.seq ?_
  refine AW.seq ?_
  refine AW.reg hC  false [] [1, 2, 3, 18] [12]
   ⟨[(1, .data (.slice (.int .i64)) (aWidths : List Int)), (2, .data (.slice (.int .i64)) (aCounts : List Int)), (3, .ref 12 1 0), (18, .bool (decide (1048576 < ((List.length aCounts : Nat) : Int))))], [(12, .box 1 [.int .i64 (Pln.Kind aP), .int .i64 (Pln.Table aP), .data (.slice (.named 1)) ((Pln.Exprs aP) : List Xpr), .data (.slice (.int .i64)) ((Pln.Cols aP) : List Int), .data (.slice (.named 2)) ((Pln.Kids aP) : List Pln)])]⟩
   [] (by kernel_rfl) ?_ ?_
  ·
   exact trivial
  refine AW.cond (b := (decide (1048576 < ((List.length aCounts : Nat) : Int)))) (by kernel_rfl) ?_ ?_
  ·
   intro h5
   have h5q : 1048576 < ((List.length aCounts : Nat) : Int) := (of_decide_eq_true h5)
   have e6 := e4.trans (Go.Am.bif_t h5)
   refine AW.seq ?_
   refine AW.reg hC  false [] [6] []
    ⟨[(6, .bool true)], []⟩
    [] (by kernel_rfl) ?_ ?_
   ·
    exact trivial
   refine AW.ret ?_
   exact AW.retE (β := Bool) (fun v => [⟨.bool, v⟩]) (fun v => []) (v := true) e6 (by kernel_rfl) rfl rfl
  ·
   intro h7
   have h7q : ¬ (1048576 < ((List.length aCounts : Nat) : Int)) := (of_decide_eq_false h7)
   have e8 := e4.trans (Go.Am.bif_f h7)
   refine AW.keep [1, 2, 3] [12] ⟨[(1, .data (.slice (.int .i64)) (aWidths : List Int)), (2, .data (.slice (.int .i64)) (aCounts : List Int)), (3, .ref 12 1 0)], [(12, .box 1 [.int .i64 (Pln.Kind aP), .int .i64 (Pln.Table aP), .data (.slice (.named 1)) ((Pln.Exprs aP) : List Xpr), .data (.slice (.int .i64)) ((Pln.Cols aP) : List Int), .data (.slice (.named 2)) ((Pln.Kids aP) : List Pln)])]⟩ (by kernel_rfl) ?_
   refine AW.skip ?_
   refine AW.seq ?_
   refine AW.reg hC  false [] [1, 2, 3, 7] [12]
    ⟨[(1, .data (.slice (.int .i64)) (aWidths : List Int)), (2, .data (.slice (.int .i64)) (aCounts : List Int)), (3, .ref 12 1 0), (7, .int .i64 1048576)], [(12, .box 1 [.int .i64 (Pln.Kind aP), .int .i64 (Pln.Table aP), .data (.slice (.named 1)) ((Pln.Exprs aP) : List Xpr), .data (.slice (.int .i64)) ((Pln.Cols aP) : List Int), .data (.slice (.named 2)) ((Pln.Kids aP) : List Pln)])]⟩
    [] (by kernel_rfl) ?_ ?_
   ·
    exact trivial
   refine AW.seq ?_
   refine AW.reg hC  false [] [1, 2, 3, 7] [12]
    ⟨[(1, .data (.slice (.int .i64)) (aWidths : List Int)), (2, .data (.slice (.int .i64)) (aCounts : List Int)), (3, .ref 12 1 0), (7, .int .i64 (szPlan (Pln.mk (Pln.Kind aP) (Pln.Table aP) (Pln.Exprs aP) (Pln.Cols aP) (Pln.Kids aP)) 1048576))], [(12, .box 1 [.int .i64 (Pln.Kind aP), .int .i64 (Pln.Table aP), .data (.slice (.named 1)) ((Pln.Exprs aP) : List Xpr), .data (.slice (.int .i64)) ((Pln.Cols aP) : List Int), .data (.slice (.named 2)) ((Pln.Kids aP) : List Pln)])]⟩
    [(0 ≤ (1048576 : Int))] (by kernel_rfl) ?_ ?_
   ·
    refine ⟨?_, trivial⟩
    ·
     first | omega | assumption
   refine AW.seq ?_
   refine AW.seq ?_
   refine AW.reg hC  false [] [1, 2, 3, 23] [12]
    ⟨[(1, .data (.slice (.int .i64)) (aWidths : List Int)), (2, .data (.slice (.int .i64)) (aCounts : List Int)), (3, .ref 12 1 0), (23, .bool (decide ((szPlan (Pln.mk (Pln.Kind aP) (Pln.Table aP) (Pln.Exprs aP) (Pln.Cols aP) (Pln.Kids aP)) 1048576) < 0)))], [(12, .box 1 [.int .i64 (Pln.Kind aP), .int .i64 (Pln.Table aP), .data (.slice (.named 1)) ((Pln.Exprs aP) : List Xpr), .data (.slice (.int .i64)) ((Pln.Cols aP) : List Int), .data (.slice (.named 2)) ((Pln.Kids aP) : List Pln)])]⟩
    [] (by kernel_rfl) ?_ ?_
   ·
    exact trivial
   refine AW.cond (b := (decide ((szPlan (Pln.mk (Pln.Kind aP) (Pln.Table aP) (Pln.Exprs aP) (Pln.Cols aP) (Pln.Kids aP)) 1048576) < 0))) (by kernel_rfl) ?_ ?_
   ·
    intro h9
    have h9q : (szPlan (Pln.mk (Pln.Kind aP) (Pln.Table aP) (Pln.Exprs aP) (Pln.Cols aP) (Pln.Kids aP)) 1048576) < 0 := (of_decide_eq_true h9)
    have e10 := e8.trans (Go.Am.bif_t h9)
    refine AW.seq ?_
    refine AW.reg hC  false [] [6] []
     ⟨[(6, .bool true)], []⟩
     [] (by kernel_rfl) ?_ ?_
    ·
     exact trivial
    refine AW.ret ?_
    exact AW.retE (β := Bool) (fun v => [⟨.bool, v⟩]) (fun v => []) (v := true) e10 (by kernel_rfl) rfl rfl
   ·
    intro h11
    have h11q : ¬ ((szPlan (Pln.mk (Pln.Kind aP) (Pln.Table aP) (Pln.Exprs aP) (Pln.Cols aP) (Pln.Kids aP)) 1048576) < 0) := (of_decide_eq_false h11)
    have e12 := e8.trans (Go.Am.bif_f h11)
    refine AW.keep [1, 2, 3] [12] ⟨[(1, .data (.slice (.int .i64)) (aWidths : List Int)), (2, .data (.slice (.int .i64)) (aCounts : List Int)), (3, .ref 12 1 0)], [(12, .box 1 [.int .i64 (Pln.Kind aP), .int .i64 (Pln.Table aP), .data (.slice (.named 1)) ((Pln.Exprs aP) : List Xpr), .data (.slice (.int .i64)) ((Pln.Cols aP) : List Int), .data (.slice (.named 2)) ((Pln.Kids aP) : List Pln)])]⟩ (by kernel_rfl) ?_
    refine AW.skip ?_
    refine AW.seq ?_
    refine AW.reg hC  false [] [1, 2, 3, 8] [12]
     ⟨[(1, .data (.slice (.int .i64)) (aWidths : List Int)), (2, .data (.slice (.int .i64)) (aCounts : List Int)), (3, .ref 12 1 0), (8, .int .i64 (RowBound (toPlan (Pln.mk (Pln.Kind aP) (Pln.Table aP) (Pln.Exprs aP) (Pln.Cols aP) (Pln.Kids aP))) (toIntS aWidths) (toIntS aCounts)))], [(12, .box 1 [.int .i64 (Pln.Kind aP), .int .i64 (Pln.Table aP), .data (.slice (.named 1)) ((Pln.Exprs aP) : List Xpr), .data (.slice (.int .i64)) ((Pln.Cols aP) : List Int), .data (.slice (.named 2)) ((Pln.Kids aP) : List Pln)])]⟩
     [(FitsP (Pln.mk (Pln.Kind aP) (Pln.Table aP) (Pln.Exprs aP) (Pln.Cols aP) (Pln.Kids aP))), ((List.length aWidths : Int) ≤ 1048576), ((List.length aCounts : Int) ≤ 1048576), (True)] (by kernel_rfl) ?_ ?_
    ·
     refine ⟨?_, ?_, ?_, ?_, trivial⟩
     ·
      exact FitsP.of (l := 1048576) ⟨by decide, by decide⟩ (by first | exact h11q | exact h7q | exact h3q | exact trivial | exact trivial | exact trivial)
     ·
      first | omega | assumption
     ·
      first | omega | assumption
     ·
      trivial
    refine AW.seq ?_
    refine AW.reg hC  false [] [1, 2, 3, 8, 9] [12, 36]
     ⟨[(1, .data (.slice (.int .i64)) (aWidths : List Int)), (2, .data (.slice (.int .i64)) (aCounts : List Int)), (3, .ref 12 1 0), (8, .int .i64 (RowBound (toPlan (Pln.mk (Pln.Kind aP) (Pln.Table aP) (Pln.Exprs aP) (Pln.Cols aP) (Pln.Kids aP))) (toIntS aWidths) (toIntS aCounts))), (9, .ref 36 1 0)], [(12, .box 1 [.int .i64 (Pln.Kind aP), .int .i64 (Pln.Table aP), .data (.slice (.named 1)) ((Pln.Exprs aP) : List Xpr), .data (.slice (.int .i64)) ((Pln.Cols aP) : List Int), .data (.slice (.named 2)) ((Pln.Kids aP) : List Pln)]), (36, .box 1 [.int .i64 (Pln.Kind (toPlan (Pln.mk (Pln.Kind aP) (Pln.Table aP) (Pln.Exprs aP) (Pln.Cols aP) (Pln.Kids aP)))), .int .i64 (Pln.Table (toPlan (Pln.mk (Pln.Kind aP) (Pln.Table aP) (Pln.Exprs aP) (Pln.Cols aP) (Pln.Kids aP)))), .data (.slice (.named 1)) ((Pln.Exprs (toPlan (Pln.mk (Pln.Kind aP) (Pln.Table aP) (Pln.Exprs aP) (Pln.Cols aP) (Pln.Kids aP)))) : List Xpr), .data (.slice (.int .i64)) ((Pln.Cols (toPlan (Pln.mk (Pln.Kind aP) (Pln.Table aP) (Pln.Exprs aP) (Pln.Cols aP) (Pln.Kids aP)))) : List Int), .data (.slice (.named 2)) ((Pln.Kids (toPlan (Pln.mk (Pln.Kind aP) (Pln.Table aP) (Pln.Exprs aP) (Pln.Cols aP) (Pln.Kids aP)))) : List Pln)])]⟩
     [(FitsP (Pln.mk (Pln.Kind aP) (Pln.Table aP) (Pln.Exprs aP) (Pln.Cols aP) (Pln.Kids aP)))] (by kernel_rfl) ?_ ?_
    ·
     refine ⟨?_, trivial⟩
     ·
      exact FitsP.of (l := 1048576) ⟨by decide, by decide⟩ (by first | exact h11q | exact h7q | exact h3q | exact trivial | exact trivial | exact trivial)
    refine AW.seq ?_
    refine AW.reg hC  false [] [1, 2, 3, 8, 9, 10] [12, 36, 136]
     ⟨[(1, .data (.slice (.int .i64)) (aWidths : List Int)), (2, .data (.slice (.int .i64)) (aCounts : List Int)), (3, .ref 12 1 0), (8, .int .i64 (RowBound (toPlan (Pln.mk (Pln.Kind aP) (Pln.Table aP) (Pln.Exprs aP) (Pln.Cols aP) (Pln.Kids aP))) (toIntS aWidths) (toIntS aCounts))), (9, .ref 36 1 0), (10, .arr 136 1)], [(12, .box 1 [.int .i64 (Pln.Kind aP), .int .i64 (Pln.Table aP), .data (.slice (.named 1)) ((Pln.Exprs aP) : List Xpr), .data (.slice (.int .i64)) ((Pln.Cols aP) : List Int), .data (.slice (.named 2)) ((Pln.Kids aP) : List Pln)]), (36, .box 1 [.int .i64 (Pln.Kind (toPlan (Pln.mk (Pln.Kind aP) (Pln.Table aP) (Pln.Exprs aP) (Pln.Cols aP) (Pln.Kids aP)))), .int .i64 (Pln.Table (toPlan (Pln.mk (Pln.Kind aP) (Pln.Table aP) (Pln.Exprs aP) (Pln.Cols aP) (Pln.Kids aP)))), .data (.slice (.named 1)) ((Pln.Exprs (toPlan (Pln.mk (Pln.Kind aP) (Pln.Table aP) (Pln.Exprs aP) (Pln.Cols aP) (Pln.Kids aP)))) : List Xpr), .data (.slice (.int .i64)) ((Pln.Cols (toPlan (Pln.mk (Pln.Kind aP) (Pln.Table aP) (Pln.Exprs aP) (Pln.Cols aP) (Pln.Kids aP)))) : List Int), .data (.slice (.named 2)) ((Pln.Kids (toPlan (Pln.mk (Pln.Kind aP) (Pln.Table aP) (Pln.Exprs aP) (Pln.Cols aP) (Pln.Kids aP)))) : List Pln)]), (136, .arr 1 (.int .i64) ((toIntS aWidths) : List Int))]⟩
     [((List.length aWidths : Int) ≤ 1048576)] (by kernel_rfl) ?_ ?_
    ·
     refine ⟨?_, trivial⟩
     ·
      first | omega | assumption
    refine AW.seq ?_
    refine AW.reg hC  false [] [1, 2, 3, 8, 9, 10, 11] [12, 36, 136, 144]
     ⟨[(1, .data (.slice (.int .i64)) (aWidths : List Int)), (2, .data (.slice (.int .i64)) (aCounts : List Int)), (3, .ref 12 1 0), (8, .int .i64 (RowBound (toPlan (Pln.mk (Pln.Kind aP) (Pln.Table aP) (Pln.Exprs aP) (Pln.Cols aP) (Pln.Kids aP))) (toIntS aWidths) (toIntS aCounts))), (9, .ref 36 1 0), (10, .arr 136 1), (11, .arr 144 1)], [(12, .box 1 [.int .i64 (Pln.Kind aP), .int .i64 (Pln.Table aP), .data (.slice (.named 1)) ((Pln.Exprs aP) : List Xpr), .data (.slice (.int .i64)) ((Pln.Cols aP) : List Int), .data (.slice (.named 2)) ((Pln.Kids aP) : List Pln)]), (36, .box 1 [.int .i64 (Pln.Kind (toPlan (Pln.mk (Pln.Kind aP) (Pln.Table aP) (Pln.Exprs aP) (Pln.Cols aP) (Pln.Kids aP)))), .int .i64 (Pln.Table (toPlan (Pln.mk (Pln.Kind aP) (Pln.Table aP) (Pln.Exprs aP) (Pln.Cols aP) (Pln.Kids aP)))), .data (.slice (.named 1)) ((Pln.Exprs (toPlan (Pln.mk (Pln.Kind aP) (Pln.Table aP) (Pln.Exprs aP) (Pln.Cols aP) (Pln.Kids aP)))) : List Xpr), .data (.slice (.int .i64)) ((Pln.Cols (toPlan (Pln.mk (Pln.Kind aP) (Pln.Table aP) (Pln.Exprs aP) (Pln.Cols aP) (Pln.Kids aP)))) : List Int), .data (.slice (.named 2)) ((Pln.Kids (toPlan (Pln.mk (Pln.Kind aP) (Pln.Table aP) (Pln.Exprs aP) (Pln.Cols aP) (Pln.Kids aP)))) : List Pln)]), (136, .arr 1 (.int .i64) ((toIntS aWidths) : List Int)), (144, .arr 1 (.int .i64) ((toIntS aCounts) : List Int))]⟩
     [((List.length aCounts : Int) ≤ 1048576)] (by kernel_rfl) ?_ ?_
    ·
     refine ⟨?_, trivial⟩
     ·
      first | omega | assumption
    refine AW.seq ?_
    refine AW.reg hC  false [] [1, 2, 3, 8, 9, 10, 11, 12] [12, 36, 136, 144]
     ⟨[(1, .data (.slice (.int .i64)) (aWidths : List Int)), (2, .data (.slice (.int .i64)) (aCounts : List Int)), (3, .ref 12 1 0), (8, .int .i64 (RowBound (toPlan (Pln.mk (Pln.Kind aP) (Pln.Table aP) (Pln.Exprs aP) (Pln.Cols aP) (Pln.Kids aP))) (toIntS aWidths) (toIntS aCounts))), (9, .ref 36 1 0), (10, .arr 136 1), (11, .arr 144 1), (12, .int .i64 (iRowBound (Pln.mk (Pln.Kind (toPlan (Pln.mk (Pln.Kind aP) (Pln.Table aP) (Pln.Exprs aP) (Pln.Cols aP) (Pln.Kids aP)))) (Pln.Table (toPlan (Pln.mk (Pln.Kind aP) (Pln.Table aP) (Pln.Exprs aP) (Pln.Cols aP) (Pln.Kids aP)))) (Pln.Exprs (toPlan (Pln.mk (Pln.Kind aP) (Pln.Table aP) (Pln.Exprs aP) (Pln.Cols aP) (Pln.Kids aP)))) (Pln.Cols (toPlan (Pln.mk (Pln.Kind aP) (Pln.Table aP) (Pln.Exprs aP) (Pln.Cols aP) (Pln.Kids aP)))) (Pln.Kids (toPlan (Pln.mk (Pln.Kind aP) (Pln.Table aP) (Pln.Exprs aP) (Pln.Cols aP) (Pln.Kids aP))))) (toIntS aWidths) (toIntS aCounts)))], [(12, .box 1 [.int .i64 (Pln.Kind aP), .int .i64 (Pln.Table aP), .data (.slice (.named 1)) ((Pln.Exprs aP) : List Xpr), .data (.slice (.int .i64)) ((Pln.Cols aP) : List Int), .data (.slice (.named 2)) ((Pln.Kids aP) : List Pln)]), (36, .box 1 [.int .i64 (Pln.Kind (toPlan (Pln.mk (Pln.Kind aP) (Pln.Table aP) (Pln.Exprs aP) (Pln.Cols aP) (Pln.Kids aP)))), .int .i64 (Pln.Table (toPlan (Pln.mk (Pln.Kind aP) (Pln.Table aP) (Pln.Exprs aP) (Pln.Cols aP) (Pln.Kids aP)))), .data (.slice (.named 1)) ((Pln.Exprs (toPlan (Pln.mk (Pln.Kind aP) (Pln.Table aP) (Pln.Exprs aP) (Pln.Cols aP) (Pln.Kids aP)))) : List Xpr), .data (.slice (.int .i64)) ((Pln.Cols (toPlan (Pln.mk (Pln.Kind aP) (Pln.Table aP) (Pln.Exprs aP) (Pln.Cols aP) (Pln.Kids aP)))) : List Int), .data (.slice (.named 2)) ((Pln.Kids (toPlan (Pln.mk (Pln.Kind aP) (Pln.Table aP) (Pln.Exprs aP) (Pln.Cols aP) (Pln.Kids aP)))) : List Pln)]), (136, .arr 1 (.int .i64) ((toIntS aWidths) : List Int)), (144, .arr 1 (.int .i64) ((toIntS aCounts) : List Int))]⟩
     [(True)] (by kernel_rfl) ?_ ?_
    ·
     refine ⟨?_, trivial⟩
     ·
      trivial
    refine AW.seq ?_
    refine AW.seq ?_
    refine AW.reg hC  false [] [1, 2, 3, 9, 10, 11, 43] [12, 36, 136, 144]
     ⟨[(1, .data (.slice (.int .i64)) (aWidths : List Int)), (2, .data (.slice (.int .i64)) (aCounts : List Int)), (3, .ref 12 1 0), (9, .ref 36 1 0), (10, .arr 136 1), (11, .arr 144 1), (43, .bool ((iRowBound (Pln.mk (Pln.Kind (toPlan (Pln.mk (Pln.Kind aP) (Pln.Table aP) (Pln.Exprs aP) (Pln.Cols aP) (Pln.Kids aP)))) (Pln.Table (toPlan (Pln.mk (Pln.Kind aP) (Pln.Table aP) (Pln.Exprs aP) (Pln.Cols aP) (Pln.Kids aP)))) (Pln.Exprs (toPlan (Pln.mk (Pln.Kind aP) (Pln.Table aP) (Pln.Exprs aP) (Pln.Cols aP) (Pln.Kids aP)))) (Pln.Cols (toPlan (Pln.mk (Pln.Kind aP) (Pln.Table aP) (Pln.Exprs aP) (Pln.Cols aP) (Pln.Kids aP)))) (Pln.Kids (toPlan (Pln.mk (Pln.Kind aP) (Pln.Table aP) (Pln.Exprs aP) (Pln.Cols aP) (Pln.Kids aP))))) (toIntS aWidths) (toIntS aCounts)) != (RowBound (toPlan (Pln.mk (Pln.Kind aP) (Pln.Table aP) (Pln.Exprs aP) (Pln.Cols aP) (Pln.Kids aP))) (toIntS aWidths) (toIntS aCounts))))], [(12, .box 1 [.int .i64 (Pln.Kind aP), .int .i64 (Pln.Table aP), .data (.slice (.named 1)) ((Pln.Exprs aP) : List Xpr), .data (.slice (.int .i64)) ((Pln.Cols aP) : List Int), .data (.slice (.named 2)) ((Pln.Kids aP) : List Pln)]), (36, .box 1 [.int .i64 (Pln.Kind (toPlan (Pln.mk (Pln.Kind aP) (Pln.Table aP) (Pln.Exprs aP) (Pln.Cols aP) (Pln.Kids aP)))), .int .i64 (Pln.Table (toPlan (Pln.mk (Pln.Kind aP) (Pln.Table aP) (Pln.Exprs aP) (Pln.Cols aP) (Pln.Kids aP)))), .data (.slice (.named 1)) ((Pln.Exprs (toPlan (Pln.mk (Pln.Kind aP) (Pln.Table aP) (Pln.Exprs aP) (Pln.Cols aP) (Pln.Kids aP)))) : List Xpr), .data (.slice (.int .i64)) ((Pln.Cols (toPlan (Pln.mk (Pln.Kind aP) (Pln.Table aP) (Pln.Exprs aP) (Pln.Cols aP) (Pln.Kids aP)))) : List Int), .data (.slice (.named 2)) ((Pln.Kids (toPlan (Pln.mk (Pln.Kind aP) (Pln.Table aP) (Pln.Exprs aP) (Pln.Cols aP) (Pln.Kids aP)))) : List Pln)]), (136, .arr 1 (.int .i64) ((toIntS aWidths) : List Int)), (144, .arr 1 (.int .i64) ((toIntS aCounts) : List Int))]⟩
     [] (by kernel_rfl) ?_ ?_
    ·
     exact trivial
    refine AW.cond (b := ((iRowBound (Pln.mk (Pln.Kind (toPlan (Pln.mk (Pln.Kind aP) (Pln.Table aP) (Pln.Exprs aP) (Pln.Cols aP) (Pln.Kids aP)))) (Pln.Table (toPlan (Pln.mk (Pln.Kind aP) (Pln.Table aP) (Pln.Exprs aP) (Pln.Cols aP) (Pln.Kids aP)))) (Pln.Exprs (toPlan (Pln.mk (Pln.Kind aP) (Pln.Table aP) (Pln.Exprs aP) (Pln.Cols aP) (Pln.Kids aP)))) (Pln.Cols (toPlan (Pln.mk (Pln.Kind aP) (Pln.Table aP) (Pln.Exprs aP) (Pln.Cols aP) (Pln.Kids aP)))) (Pln.Kids (toPlan (Pln.mk (Pln.Kind aP) (Pln.Table aP) (Pln.Exprs aP) (Pln.Cols aP) (Pln.Kids aP))))) (toIntS aWidths) (toIntS aCounts)) != (RowBound (toPlan (Pln.mk (Pln.Kind aP) (Pln.Table aP) (Pln.Exprs aP) (Pln.Cols aP) (Pln.Kids aP))) (toIntS aWidths) (toIntS aCounts)))) (by kernel_rfl) ?_ ?_
    ·
     intro h13
     have h13q : (iRowBound (Pln.mk (Pln.Kind (toPlan (Pln.mk (Pln.Kind aP) (Pln.Table aP) (Pln.Exprs aP) (Pln.Cols aP) (Pln.Kids aP)))) (Pln.Table (toPlan (Pln.mk (Pln.Kind aP) (Pln.Table aP) (Pln.Exprs aP) (Pln.Cols aP) (Pln.Kids aP)))) (Pln.Exprs (toPlan (Pln.mk (Pln.Kind aP) (Pln.Table aP) (Pln.Exprs aP) (Pln.Cols aP) (Pln.Kids aP)))) (Pln.Cols (toPlan (Pln.mk (Pln.Kind aP) (Pln.Table aP) (Pln.Exprs aP) (Pln.Cols aP) (Pln.Kids aP)))) (Pln.Kids (toPlan (Pln.mk (Pln.Kind aP) (Pln.Table aP) (Pln.Exprs aP) (Pln.Cols aP) (Pln.Kids aP))))) (toIntS aWidths) (toIntS aCounts)) ≠ (RowBound (toPlan (Pln.mk (Pln.Kind aP) (Pln.Table aP) (Pln.Exprs aP) (Pln.Cols aP) (Pln.Kids aP))) (toIntS aWidths) (toIntS aCounts)) := (Go.Am.bne_pos h13)
     have e14 := e12.trans (Go.Am.bif_t h13)
     refine AW.seq ?_
     refine AW.reg hC  false [] [6] []
      ⟨[(6, .bool false)], []⟩
      [] (by kernel_rfl) ?_ ?_
     ·
      exact trivial
     refine AW.ret ?_
     exact AW.retE (β := Bool) (fun v => [⟨.bool, v⟩]) (fun v => []) (v := false) e14 (by kernel_rfl) rfl rfl
    ·
     intro h15
     have h15q : (iRowBound (Pln.mk (Pln.Kind (toPlan (Pln.mk (Pln.Kind aP) (Pln.Table aP) (Pln.Exprs aP) (Pln.Cols aP) (Pln.Kids aP)))) (Pln.Table (toPlan (Pln.mk (Pln.Kind aP) (Pln.Table aP) (Pln.Exprs aP) (Pln.Cols aP) (Pln.Kids aP)))) (Pln.Exprs (toPlan (Pln.mk (Pln.Kind aP) (Pln.Table aP) (Pln.Exprs aP) (Pln.Cols aP) (Pln.Kids aP)))) (Pln.Cols (toPlan (Pln.mk (Pln.Kind aP) (Pln.Table aP) (Pln.Exprs aP) (Pln.Cols aP) (Pln.Kids aP)))) (Pln.Kids (toPlan (Pln.mk (Pln.Kind aP) (Pln.Table aP) (Pln.Exprs aP) (Pln.Cols aP) (Pln.Kids aP))))) (toIntS aWidths) (toIntS aCounts)) = (RowBound (toPlan (Pln.mk (Pln.Kind aP) (Pln.Table aP) (Pln.Exprs aP) (Pln.Cols aP) (Pln.Kids aP))) (toIntS aWidths) (toIntS aCounts)) := (Go.Am.bne_neg h15)
     have e16 := e12.trans (Go.Am.bif_f h15)
     refine AW.keep [1, 2, 3, 9, 10, 11] [12, 36, 136, 144] ⟨[(1, .data (.slice (.int .i64)) (aWidths : List Int)), (2, .data (.slice (.int .i64)) (aCounts : List Int)), (3, .ref 12 1 0), (9, .ref 36 1 0), (10, .arr 136 1), (11, .arr 144 1)], [(12, .box 1 [.int .i64 (Pln.Kind aP), .int .i64 (Pln.Table aP), .data (.slice (.named 1)) ((Pln.Exprs aP) : List Xpr), .data (.slice (.int .i64)) ((Pln.Cols aP) : List Int), .data (.slice (.named 2)) ((Pln.Kids aP) : List Pln)]), (36, .box 1 [.int .i64 (Pln.Kind (toPlan (Pln.mk (Pln.Kind aP) (Pln.Table aP) (Pln.Exprs aP) (Pln.Cols aP) (Pln.Kids aP)))), .int .i64 (Pln.Table (toPlan (Pln.mk (Pln.Kind aP) (Pln.Table aP) (Pln.Exprs aP) (Pln.Cols aP) (Pln.Kids aP)))), .data (.slice (.named 1)) ((Pln.Exprs (toPlan (Pln.mk (Pln.Kind aP) (Pln.Table aP) (Pln.Exprs aP) (Pln.Cols aP) (Pln.Kids aP)))) : List Xpr), .data (.slice (.int .i64)) ((Pln.Cols (toPlan (Pln.mk (Pln.Kind aP) (Pln.Table aP) (Pln.Exprs aP) (Pln.Cols aP) (Pln.Kids aP)))) : List Int), .data (.slice (.named 2)) ((Pln.Kids (toPlan (Pln.mk (Pln.Kind aP) (Pln.Table aP) (Pln.Exprs aP) (Pln.Cols aP) (Pln.Kids aP)))) : List Pln)]), (136, .arr 1 (.int .i64) ((toIntS aWidths) : List Int)), (144, .arr 1 (.int .i64) ((toIntS aCounts) : List Int))]⟩ (by kernel_rfl) ?_
     refine AW.skip ?_
     refine AW.seq ?_
     refine AW.seq ?_
     refine AW.regD hC hM  false [] [1, 2, 10, 11, 48] [136, 144]
      ⟨[(1, .data (.slice (.int .i64)) (aWidths : List Int)), (2, .data (.slice (.int .i64)) (aCounts : List Int)), (10, .arr 136 1), (11, .arr 144 1), (48, .bool (!(eqPlan (Pln.mk (Pln.Kind (toPlan (Pln.mk (Pln.Kind aP) (Pln.Table aP) (Pln.Exprs aP) (Pln.Cols aP) (Pln.Kids aP)))) (Pln.Table (toPlan (Pln.mk (Pln.Kind aP) (Pln.Table aP) (Pln.Exprs aP) (Pln.Cols aP) (Pln.Kids aP)))) (Pln.Exprs (toPlan (Pln.mk (Pln.Kind aP) (Pln.Table aP) (Pln.Exprs aP) (Pln.Cols aP) (Pln.Kids aP)))) (Pln.Cols (toPlan (Pln.mk (Pln.Kind aP) (Pln.Table aP) (Pln.Exprs aP) (Pln.Cols aP) (Pln.Kids aP)))) (Pln.Kids (toPlan (Pln.mk (Pln.Kind aP) (Pln.Table aP) (Pln.Exprs aP) (Pln.Cols aP) (Pln.Kids aP))))) (toPlan (Pln.mk (Pln.Kind aP) (Pln.Table aP) (Pln.Exprs aP) (Pln.Cols aP) (Pln.Kids aP))))))], [(136, .arr 1 (.int .i64) ((toIntS aWidths) : List Int)), (144, .arr 1 (.int .i64) ((toIntS aCounts) : List Int))]⟩
      [(FitsP (Pln.mk (Pln.Kind aP) (Pln.Table aP) (Pln.Exprs aP) (Pln.Cols aP) (Pln.Kids aP))), (True)] (by kernel_rfl) ?_ ?_
     ·
      refine ⟨?_, ?_, trivial⟩
      ·
       exact FitsP.of (l := 1048576) ⟨by decide, by decide⟩ (by first | exact h15q | exact h11q | exact h7q | exact h3q | exact trivial | exact trivial)
      ·
       trivial
     refine AW.cond (b := (!(eqPlan (Pln.mk (Pln.Kind (toPlan (Pln.mk (Pln.Kind aP) (Pln.Table aP) (Pln.Exprs aP) (Pln.Cols aP) (Pln.Kids aP)))) (Pln.Table (toPlan (Pln.mk (Pln.Kind aP) (Pln.Table aP) (Pln.Exprs aP) (Pln.Cols aP) (Pln.Kids aP)))) (Pln.Exprs (toPlan (Pln.mk (Pln.Kind aP) (Pln.Table aP) (Pln.Exprs aP) (Pln.Cols aP) (Pln.Kids aP)))) (Pln.Cols (toPlan (Pln.mk (Pln.Kind aP) (Pln.Table aP) (Pln.Exprs aP) (Pln.Cols aP) (Pln.Kids aP)))) (Pln.Kids (toPlan (Pln.mk (Pln.Kind aP) (Pln.Table aP) (Pln.Exprs aP) (Pln.Cols aP) (Pln.Kids aP))))) (toPlan (Pln.mk (Pln.Kind aP) (Pln.Table aP) (Pln.Exprs aP) (Pln.Cols aP) (Pln.Kids aP)))))) (by kernel_rfl) ?_ ?_
     ·
      intro h17
      have h17q : (eqPlan (Pln.mk (Pln.Kind (toPlan (Pln.mk (Pln.Kind aP) (Pln.Table aP) (Pln.Exprs aP) (Pln.Cols aP) (Pln.Kids aP)))) (Pln.Table (toPlan (Pln.mk (Pln.Kind aP) (Pln.Table aP) (Pln.Exprs aP) (Pln.Cols aP) (Pln.Kids aP)))) (Pln.Exprs (toPlan (Pln.mk (Pln.Kind aP) (Pln.Table aP) (Pln.Exprs aP) (Pln.Cols aP) (Pln.Kids aP)))) (Pln.Cols (toPlan (Pln.mk (Pln.Kind aP) (Pln.Table aP) (Pln.Exprs aP) (Pln.Cols aP) (Pln.Kids aP)))) (Pln.Kids (toPlan (Pln.mk (Pln.Kind aP) (Pln.Table aP) (Pln.Exprs aP) (Pln.Cols aP) (Pln.Kids aP))))) (toPlan (Pln.mk (Pln.Kind aP) (Pln.Table aP) (Pln.Exprs aP) (Pln.Cols aP) (Pln.Kids aP)))) = false := (Go.Am.not_pos h17)
      have e18 := e16.trans (Go.Am.bif_t h17)
      refine AW.seq ?_
      refine AW.reg hC  false [] [6] []
       ⟨[(6, .bool false)], []⟩
       [] (by kernel_rfl) ?_ ?_
      ·
       exact trivial
      refine AW.ret ?_
      exact AW.retE (β := Bool) (fun v => [⟨.bool, v⟩]) (fun v => []) (v := false) e18 (by kernel_rfl) rfl rfl
     ·
      intro h19
      have h19q : (eqPlan (Pln.mk (Pln.Kind (toPlan (Pln.mk (Pln.Kind aP) (Pln.Table aP) (Pln.Exprs aP) (Pln.Cols aP) (Pln.Kids aP)))) (Pln.Table (toPlan (Pln.mk (Pln.Kind aP) (Pln.Table aP) (Pln.Exprs aP) (Pln.Cols aP) (Pln.Kids aP)))) (Pln.Exprs (toPlan (Pln.mk (Pln.Kind aP) (Pln.Table aP) (Pln.Exprs aP) (Pln.Cols aP) (Pln.Kids aP)))) (Pln.Cols (toPlan (Pln.mk (Pln.Kind aP) (Pln.Table aP) (Pln.Exprs aP) (Pln.Cols aP) (Pln.Kids aP)))) (Pln.Kids (toPlan (Pln.mk (Pln.Kind aP) (Pln.Table aP) (Pln.Exprs aP) (Pln.Cols aP) (Pln.Kids aP))))) (toPlan (Pln.mk (Pln.Kind aP) (Pln.Table aP) (Pln.Exprs aP) (Pln.Cols aP) (Pln.Kids aP)))) = true := (Go.Am.not_neg h19)
      have e20 := e16.trans (Go.Am.bif_f h19)
      refine AW.keep [1, 2, 10, 11] [136, 144] ⟨[(1, .data (.slice (.int .i64)) (aWidths : List Int)), (2, .data (.slice (.int .i64)) (aCounts : List Int)), (10, .arr 136 1), (11, .arr 144 1)], [(136, .arr 1 (.int .i64) ((toIntS aWidths) : List Int)), (144, .arr 1 (.int .i64) ((toIntS aCounts) : List Int))]⟩ (by kernel_rfl) ?_
      refine AW.skip ?_
      refine AW.seq ?_
      refine AW.seq ?_
      refine AW.reg hC  false [] [2, 11, 53] [144]
       ⟨[(2, .data (.slice (.int .i64)) (aCounts : List Int)), (11, .arr 144 1), (53, .bool (!(eqIntS (toIntS aWidths) (toIntS aWidths))))], [(144, .arr 1 (.int .i64) ((toIntS aCounts) : List Int))]⟩
       [((List.length aWidths : Int) ≤ 1048576), (True)] (by kernel_rfl) ?_ ?_
      ·
       refine ⟨?_, ?_, trivial⟩
       ·
        first | omega | assumption
       ·
        trivial
      refine AW.cond (b := (!(eqIntS (toIntS aWidths) (toIntS aWidths)))) (by kernel_rfl) ?_ ?_
      ·
       intro h21
       have h21q : (eqIntS (toIntS aWidths) (toIntS aWidths)) = false := (Go.Am.not_pos h21)
       have e22 := e20.trans (Go.Am.bif_t h21)
       refine AW.seq ?_
       refine AW.reg hC  false [] [6] []
        ⟨[(6, .bool false)], []⟩
        [] (by kernel_rfl) ?_ ?_
       ·
        exact trivial
       refine AW.ret ?_
       exact AW.retE (β := Bool) (fun v => [⟨.bool, v⟩]) (fun v => []) (v := false) e22 (by kernel_rfl) rfl rfl
      ·
       intro h23
       have h23q : (eqIntS (toIntS aWidths) (toIntS aWidths)) = true := (Go.Am.not_neg h23)
       have e24 := e20.trans (Go.Am.bif_f h23)
       refine AW.keep [2, 11] [144] ⟨[(2, .data (.slice (.int .i64)) (aCounts : List Int)), (11, .arr 144 1)], [(144, .arr 1 (.int .i64) ((toIntS aCounts) : List Int))]⟩ (by kernel_rfl) ?_
       refine AW.skip ?_
       refine AW.seq ?_
       refine AW.seq ?_
       refine AW.reg hC  false [] [58] []
        ⟨[(58, .bool (!(eqIntS (toIntS aCounts) (toIntS aCounts))))], []⟩
        [((List.length aCounts : Int) ≤ 1048576), (True)] (by kernel_rfl) ?_ ?_
       ·
        refine ⟨?_, ?_, trivial⟩
        ·
         first | omega | assumption
        ·
         trivial
       refine AW.cond (b := (!(eqIntS (toIntS aCounts) (toIntS aCounts)))) (by kernel_rfl) ?_ ?_
       ·
        intro h25
        have h25q : (eqIntS (toIntS aCounts) (toIntS aCounts)) = false := (Go.Am.not_pos h25)
        have e26 := e24.trans (Go.Am.bif_t h25)
        refine AW.seq ?_
        refine AW.reg hC  false [] [6] []
         ⟨[(6, .bool false)], []⟩
         [] (by kernel_rfl) ?_ ?_
        ·
         exact trivial
        refine AW.ret ?_
        exact AW.retE (β := Bool) (fun v => [⟨.bool, v⟩]) (fun v => []) (v := false) e26 (by kernel_rfl) rfl rfl
       ·
        intro h27
        have h27q : (eqIntS (toIntS aCounts) (toIntS aCounts)) = true := (Go.Am.not_neg h27)
        have e28 := e24.trans (Go.Am.bif_f h27)
        refine AW.keep [] [] ⟨[], []⟩ (by kernel_rfl) ?_
        refine AW.skip ?_
        refine AW.seq ?_
        refine AW.reg hC  false [] [6] []
         ⟨[(6, .bool true)], []⟩
         [] (by kernel_rfl) ?_ ?_
        ·
         exact trivial
        refine AW.ret ?_
        exact AW.retE (β := Bool) (fun v => [⟨.bool, v⟩]) (fun v => []) (v := true) e28 (by kernel_rfl) rfl rfl

theorem FnExactRowBound_law (p : Pln) (ws c : List Int) : FnExactRowBound p ws c = true := by
 unfold FnExactRowBound
 rw [Pln.eta, Pln.eta, RowBound_same, eqPlan_self, eqIntS_self, eqIntS_self]
 simp

end
end Go.Proofs.Ytodcdgolcbdkgaa
