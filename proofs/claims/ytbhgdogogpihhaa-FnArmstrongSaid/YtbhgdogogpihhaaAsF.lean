/-
  A part of the proof of this claim (AsF): what functions of the program compute, and plain facts of that. No conditions.
-/
import Derived.Test.YtbhgdogogpihhaaAsE
import Derived.Test.YtbhgdogogpihhaaAsD
set_option linter.all false
namespace Go.Proofs.Ytbhgdogogpihhaa
open Go Go.Am
noncomputable section

def contains (s : Int) (part : Int) : Bool := ((bits .andNot .i64 part s) == 0)

def contains_sp : FnSpec := mkSpec [.val (.int .i64), .val (.int .i64)] [.val .bool] (fun (s : Int) (part : Int) => True) (fun (s : Int) (part : Int) => [⟨.bool, (contains s part)⟩])

theorem contains_ok : FnOK Try.prog 108 contains_sp := by
 have hC : CtxOK Try.prog (mkCtx tyL []) := CtxOK.nil tyOK
 refine FnOK.of_body Try.func108 (by kernel_rfl) rfl (C := (mkCtx tyL [])) hC.ty (by kernel_rfl) ?_
 intro (s : Int) (part : Int) hwf hpre E
 have hpre : True := hpre
 have hw_s : Wf ⟨(.int .i64), (s : Int)⟩ := hwf _ (List.Mem.head _)
 have hr_s : -9223372036854775808 ≤ s ∧ s ≤ 9223372036854775807 := hw_s.int_inv
 have hw_part : Wf ⟨(.int .i64), (part : Int)⟩ := hwf _ (List.Mem.tail _ (List.Mem.head _))
 have hr_part : -9223372036854775808 ≤ part ∧ part ≤ 9223372036854775807 := hw_part.int_inv
 have e0 : contains s part = contains s part := rfl
 refine AW.seq (AW.r1 hC [0, 1] [] ⟨[(0, .int .i64 s), (1, .int .i64 part)], []⟩ ?_)
 refine AW.seq (AW.r1 hC [4] [] ⟨[(4, .bool ((bits .andNot .i64 part s) == 0))], []⟩ ?_)
 exact AW.ret (AW.retE (β := Bool) (fun v => [⟨.bool, v⟩]) (fun v => []) (v := ((bits .andNot .i64 part s) == 0)) e0 (by kernel_rfl) rfl rfl)

theorem contains_iff {s p : Int} (h1 : -9223372036854775808 ≤ p) (h2 : p ≤ 9223372036854775807) : contains s p = true ↔ bits .and .i64 p s = p := by
 rw [← andNot_zero h1 h2]
 simp [contains]

def derived_l1 (fds : List Dep) : Nat → Int → Bool → Nat → (List Int) → Int × Bool × (List Int)
 | 0, set_1, changed1, v12, steps1 => (set_1, changed1, steps1)
 | k + 1, set_1, changed1, v12, steps1 => (bif (decide (((v12 : Nat) : Int) < ((List.length fds : Nat) : Int))) then (bif (bif (contains set_1 (Dep.From (List.getD fds v12 Dep.zero))) then (!(contains set_1 (Dep.To (List.getD fds v12 Dep.zero)))) else false) then (derived_l1 fds k (bits .or .i64 set_1 (Dep.To (List.getD fds v12 Dep.zero))) true (v12 + 1) (steps1 ++ ([((v12 : Nat) : Int)] : List Int))) else (derived_l1 fds k set_1 changed1 (v12 + 1) steps1)) else (set_1, changed1, steps1))

def derived_l0 (fds : List Dep) : Nat → Int → Bool → (List Int) → Int × (List Int)
 | 0, set_, changed, steps => (set_, steps)
 | k + 1, set_, changed, steps => (bif changed then (Go.Am.andThen (derived_l1 fds ((List.length fds) - 0 + 1) set_ false 0 steps) (fun z => (fun (set_1 : Int) (changed1 : Bool) (steps1 : List Int) => (derived_l0 fds k set_1 changed1 steps1)) z.1 z.2.1 z.2.2)) else (set_, steps))

def derived (fds : List Dep) (s : Int) : (List Int) × Int := (Go.Am.andThen (derived_l0 fds (2 * Int.toNat (64 - s) + (bif true then 1 else 0) + 1) s true ([] : List Int)) (fun z => (fun (set_ : Int) (steps : List Int) => (steps, set_)) z.1 z.2))

def derived_sp : FnSpec := mkSpec [.val (.slice (.named 0)), .val (.int .i64)] [.val (.slice (.int .i64)), .val (.int .i64)] (fun (fds : List Dep) (s : Int) => (0 ≤ s ∧ s < 64) ∧ ∀ f ∈ fds, (0 ≤ f.From ∧ f.From < 64) ∧ (0 ≤ f.To ∧ f.To < 64)) (fun (fds : List Dep) (s : Int) => [⟨(.slice (.int .i64)), ((derived fds s).1)⟩, ⟨(.int .i64), ((derived fds s).2)⟩])

theorem derived_ok : FnOK Try.prog 133 derived_sp := by
 have hC : CtxOK Try.prog (mkCtx tyL [(108, contains_sp)]) := CtxOK.cons contains_ok (CtxOK.nil tyOK)
 refine FnOK.of_body Try.func133 (by kernel_rfl) rfl (C := (mkCtx tyL [(108, contains_sp)])) hC.ty (by kernel_rfl) ?_
 intro (fds : List Dep) (s : Int) hwf hpre E
 have hpre : (0 ≤ s ∧ s < 64) ∧ ∀ f ∈ fds, (0 ≤ f.From ∧ f.From < 64) ∧ (0 ≤ f.To ∧ f.To < 64) := hpre
 have hw_fds : Wf ⟨(.slice (.named 0)), (fds : List Dep)⟩ := hwf _ (List.Mem.head _)
 have hl_fds : ((List.length fds : Nat) : Int) ≤ 9223372036854775807 := hw_fds.len
 have hw_s : Wf ⟨(.int .i64), (s : Int)⟩ := hwf _ (List.Mem.tail _ (List.Mem.head _))
 have hr_s : -9223372036854775808 ≤ s ∧ s ≤ 9223372036854775807 := hw_s.int_inv
 have e0 : derived fds s = derived fds s := rfl
 refine AW.seq (AW.r1 hC [0, 1, 4] [] ⟨[(0, .data (.slice (.named 0)) (fds : List Dep)), (1, .int .i64 s), (4, .nilsl)], []⟩ ?_)
 refine AW.seq (AW.seq (AW.r1 hC [0, 1, 4, 6] [] ⟨[(0, .data (.slice (.named 0)) (fds : List Dep)), (1, .int .i64 s), (4, .nilsl), (6, .bool true)], []⟩ ?_))
 refine AW.adopt 4 140 (.int .i64) (by kernel_rfl) (by kernel_rfl) ?_
 refine AW.kp [0, 1, 4, 6] [140] ⟨[(0, .data (.slice (.named 0)) (fds : List Dep)), (1, .int .i64 s), (4, .arr 140 1), (6, .bool true)], [(140, .arr 1 (.int .i64) (([] : List Int) : List Int))]⟩ ?_
 refine AW.cutQ (α := Int × (List Int)) (fun x => ⟨[(1, .int .i64 x.1), (4, .arr 140 1)], [(140, .arr 1 (.int .i64) (x.2 : List Int))]⟩) (fun x => ((0 ≤ x.1 ∧ x.1 < 64) ∧ (List.length x.2 : Int) ≤ x.1) ∧ (derived_l0 fds (2 * Int.toNat (64 - s) + (bif true then 1 else 0) + 1) s true ([] : List Int)) = x) ?_ ?_
 ·
  skip
  refine AW.block (AW.loop (α := Int × Bool × (List Int)) (fun x => ⟨[(0, .data (.slice (.named 0)) (fds : List Dep)), (1, .int .i64 x.1), (4, .arr 140 1), (6, .bool x.2.1)], [(140, .arr 1 (.int .i64) (x.2.2 : List Int))]⟩) (fun x => ((0 ≤ x.1 ∧ x.1 < 64) ∧ (List.length x.2.2 : Int) ≤ x.1) ∧ ∃ k, 2 * Int.toNat (64 - x.1) + (bif x.2.1 then 1 else 0) < k ∧ (derived_l0 fds (2 * Int.toNat (64 - s) + (bif true then 1 else 0) + 1) s true ([] : List Int)) = derived_l0 fds k x.1 x.2.1 x.2.2) (fun x => 2 * Int.toNat (64 - x.1) + (bif x.2.1 then 1 else 0)) (s, true, ([] : List Int)) (by kernel_rfl) ⟨?_, _, Nat.lt_succ_self _, rfl⟩ ?_)
  ·
   show (0 ≤ s ∧ s < 64) ∧ (List.length ([] : List Int) : Int) ≤ s
   exact ⟨hpre.1, by simp; omega⟩
  ·
   intro x hR
   obtain ⟨set_, changed, steps⟩ := x
   obtain ⟨hI0, k171, hk169, e170⟩ := hR
   replace hI0 : (0 ≤ set_ ∧ set_ < 64) ∧ (List.length steps : Int) ≤ set_ := hI0
   replace hk169 : 2 * Int.toNat (64 - set_) + (bif changed then 1 else 0) < k171 := hk169
   obtain ⟨k171q, rfl⟩ : ∃ k, k171 = k + 1 := ⟨k171 - 1, by omega⟩
   refine AW.seq (AW.seq (AW.r1 hC [0, 1, 4, 9] [140] ⟨[(0, .data (.slice (.named 0)) (fds : List Dep)), (1, .int .i64 set_), (4, .arr 140 1), (9, .bool changed)], [(140, .arr 1 (.int .i64) (steps : List Int))]⟩ ?_))
   refine AW.cd changed ?_ ?_
   ·
    intro h172
    have h172q : changed = true := h172
    have e173 := e170.trans (Go.Am.bif_t h172)
    refine AW.kp [0, 1, 4] [140] ⟨[(0, .data (.slice (.named 0)) (fds : List Dep)), (1, .int .i64 set_), (4, .arr 140 1)], [(140, .arr 1 (.int .i64) (steps : List Int))]⟩ ?_
    refine AW.skip (AW.block (AW.seq (AW.r1 hC [0, 1, 4, 6] [140] ⟨[(0, .data (.slice (.named 0)) (fds : List Dep)), (1, .int .i64 set_), (4, .arr 140 1), (6, .bool false)], [(140, .arr 1 (.int .i64) (steps : List Int))]⟩ ?_)))
    refine AW.seq (AW.r1 hC [0, 1, 4, 6, 10, 11, 12] [140] ⟨[(0, .data (.slice (.named 0)) (fds : List Dep)), (1, .int .i64 set_), (4, .arr 140 1), (6, .bool false), (10, .data (.slice (.named 0)) (fds : List Dep)), (11, .int .i64 ((List.length fds : Nat) : Int)), (12, .int .i64 0)], [(140, .arr 1 (.int .i64) (steps : List Int))]⟩ ?_)
    refine AW.cutQ (α := Int × Bool × (List Int)) (fun x => ⟨[(0, .data (.slice (.named 0)) (fds : List Dep)), (1, .int .i64 x.1), (4, .arr 140 1), (6, .bool x.2.1)], [(140, .arr 1 (.int .i64) (x.2.2 : List Int))]⟩) (fun x => ((0 ≤ x.1 ∧ x.1 < 64) ∧ (List.length x.2.2 : Int) ≤ x.1 ∧ set_ ≤ x.1 ∧ (x.2.1 = true → set_ < x.1)) ∧ (derived_l1 fds ((List.length fds) - 0 + 1) set_ false 0 steps) = x) ?_ ?_
    ·
     skip
     refine AW.block (AW.loop (α := Int × Bool × Nat × (List Int)) (fun x => ⟨[(0, .data (.slice (.named 0)) (fds : List Dep)), (1, .int .i64 x.1), (4, .arr 140 1), (6, .bool x.2.1), (10, .data (.slice (.named 0)) (fds : List Dep)), (11, .int .i64 ((List.length fds : Nat) : Int)), (12, .int .i64 ((x.2.2.1 : Nat) : Int))], [(140, .arr 1 (.int .i64) (x.2.2.2 : List Int))]⟩) (fun x => ((0 ≤ x.1 ∧ x.1 < 64) ∧ (List.length x.2.2.2 : Int) ≤ x.1 ∧ set_ ≤ x.1 ∧ (x.2.1 = true → set_ < x.1)) ∧ ∃ k, (List.length fds) - x.2.2.1 < k ∧ (derived_l1 fds ((List.length fds) - 0 + 1) set_ false 0 steps) = derived_l1 fds k x.1 x.2.1 x.2.2.1 x.2.2.2) (fun x => (List.length fds) - x.2.2.1) (set_, false, 0, steps) (by kernel_rfl) ⟨?_, _, Nat.lt_succ_self _, rfl⟩ ?_)
     ·
      show (0 ≤ set_ ∧ set_ < 64) ∧ (List.length steps : Int) ≤ set_ ∧ set_ ≤ set_ ∧ (false = true → set_ < set_)
      exact ⟨hI0.1, hI0.2, by omega, by simp⟩
     ·
      intro x hR
      obtain ⟨set_1, changed1, v12, steps1⟩ := x
      obtain ⟨hI1, k200, hk198, e199⟩ := hR
      replace hI1 : (0 ≤ set_1 ∧ set_1 < 64) ∧ (List.length steps1 : Int) ≤ set_1 ∧ set_ ≤ set_1 ∧ (changed1 = true → set_ < set_1) := hI1
      replace hk198 : (List.length fds) - v12 < k200 := hk198
      obtain ⟨k200q, rfl⟩ : ∃ k, k200 = k + 1 := ⟨k200 - 1, by omega⟩
      have hf := fun (h : v12 < fds.length) => hpre.2 _ (getD_mem fds v12 Dep.zero h)
      refine AW.seq (AW.r1 hC [0, 1, 4, 6, 10, 11, 12, 13] [140] ⟨[(0, .data (.slice (.named 0)) (fds : List Dep)), (1, .int .i64 set_1), (4, .arr 140 1), (6, .bool changed1), (10, .data (.slice (.named 0)) (fds : List Dep)), (11, .int .i64 ((List.length fds : Nat) : Int)), (12, .int .i64 ((v12 : Nat) : Int)), (13, .bool (decide (((v12 : Nat) : Int) < ((List.length fds : Nat) : Int))))], [(140, .arr 1 (.int .i64) (steps1 : List Int))]⟩ ?_)
      refine AW.seq (AW.cd (decide (((v12 : Nat) : Int) < ((List.length fds : Nat) : Int))) ?_ ?_)
      ·
       intro h201
       have h201q : ((v12 : Nat) : Int) < ((List.length fds : Nat) : Int) := (of_decide_eq_true h201)
       have e202 := e199.trans (Go.Am.bif_t h201)
       refine AW.kp [0, 1, 4, 6, 10, 11, 12] [140] ⟨[(0, .data (.slice (.named 0)) (fds : List Dep)), (1, .int .i64 set_1), (4, .arr 140 1), (6, .bool changed1), (10, .data (.slice (.named 0)) (fds : List Dep)), (11, .int .i64 ((List.length fds : Nat) : Int)), (12, .int .i64 ((v12 : Nat) : Int))], [(140, .arr 1 (.int .i64) (steps1 : List Int))]⟩ ?_
       refine AW.skip (AW.seq (AW.block (AW.seq (AW.r0 hC [0, 1, 4, 6, 7, 8, 10, 11, 12] [32, 140] ⟨[(0, .data (.slice (.named 0)) (fds : List Dep)), (1, .int .i64 set_1), (4, .arr 140 1), (6, .bool changed1), (7, .int .i64 ((v12 : Nat) : Int)), (8, .ref 32 1 0), (10, .data (.slice (.named 0)) (fds : List Dep)), (11, .int .i64 ((List.length fds : Nat) : Int)), (12, .int .i64 ((v12 : Nat) : Int))], [(32, .box 1 [.int .i64 (Dep.From (List.getD fds v12 Dep.zero)), .int .i64 (Dep.To (List.getD fds v12 Dep.zero))]), (140, .arr 1 (.int .i64) (steps1 : List Int))]⟩ [(0 ≤ ((v12 : Nat) : Int) ∧ ((v12 : Nat) : Int) < ((List.length fds : Nat) : Int))] ?_ ?_))))
       ·
        refine ⟨?_, trivial⟩
        ·
         first | omega | (dsimp only; omega) | (simp only [lens] at *; omega)
       refine AW.seq (AW.r0 hC [0, 1, 4, 6, 7, 8, 10, 11, 12, 27] [32, 140] ⟨[(0, .data (.slice (.named 0)) (fds : List Dep)), (1, .int .i64 set_1), (4, .arr 140 1), (6, .bool changed1), (7, .int .i64 ((v12 : Nat) : Int)), (8, .ref 32 1 0), (10, .data (.slice (.named 0)) (fds : List Dep)), (11, .int .i64 ((List.length fds : Nat) : Int)), (12, .int .i64 ((v12 : Nat) : Int)), (27, .bool (bif (contains set_1 (Dep.From (List.getD fds v12 Dep.zero))) then (!(contains set_1 (Dep.To (List.getD fds v12 Dep.zero)))) else false))], [(32, .box 1 [.int .i64 (Dep.From (List.getD fds v12 Dep.zero)), .int .i64 (Dep.To (List.getD fds v12 Dep.zero))]), (140, .arr 1 (.int .i64) (steps1 : List Int))]⟩ [(True), (((contains set_1 (Dep.From (List.getD fds v12 Dep.zero))) = true) → (((contains set_1 (Dep.From (List.getD fds v12 Dep.zero))) = true))), (((contains set_1 (Dep.From (List.getD fds v12 Dep.zero))) = true) → (((contains set_1 (Dep.From (List.getD fds v12 Dep.zero))) = true))), (((contains set_1 (Dep.From (List.getD fds v12 Dep.zero))) = true) → (((contains set_1 (Dep.From (List.getD fds v12 Dep.zero))) = true))), (((contains set_1 (Dep.From (List.getD fds v12 Dep.zero))) = true) → (True)), (((contains set_1 (Dep.From (List.getD fds v12 Dep.zero))) = true) → (((contains set_1 (Dep.From (List.getD fds v12 Dep.zero))) = true))), (((contains set_1 (Dep.From (List.getD fds v12 Dep.zero))) = true) → (((contains set_1 (Dep.From (List.getD fds v12 Dep.zero))) = true)))] ?_ ?_)
       ·
        refine ⟨?_, ?_, ?_, ?_, ?_, ?_, ?_, trivial⟩
        ·
         trivial
        ·
         intro g203
         have g203p0 : (contains set_1 (Dep.From (List.getD fds v12 Dep.zero))) = true := g203
         first | assumption | exact ⟨by assumption, by assumption⟩
        ·
         intro g204
         have g204p0 : (contains set_1 (Dep.From (List.getD fds v12 Dep.zero))) = true := g204
         first | assumption | exact ⟨by assumption, by assumption⟩
        ·
         intro g205
         have g205p0 : (contains set_1 (Dep.From (List.getD fds v12 Dep.zero))) = true := g205
         first | assumption | exact ⟨by assumption, by assumption⟩
        ·
         intro g206
         have g206p0 : (contains set_1 (Dep.From (List.getD fds v12 Dep.zero))) = true := g206
         trivial
        ·
         intro g207
         have g207p0 : (contains set_1 (Dep.From (List.getD fds v12 Dep.zero))) = true := g207
         first | assumption | exact ⟨by assumption, by assumption⟩
        ·
         intro g208
         have g208p0 : (contains set_1 (Dep.From (List.getD fds v12 Dep.zero))) = true := g208
         first | assumption | exact ⟨by assumption, by assumption⟩
       refine AW.cd (bif (contains set_1 (Dep.From (List.getD fds v12 Dep.zero))) then (!(contains set_1 (Dep.To (List.getD fds v12 Dep.zero)))) else false) ?_ ?_
       ·
        intro h209
        have h209q : ((contains set_1 (Dep.From (List.getD fds v12 Dep.zero))) = true) ∧ ((contains set_1 (Dep.To (List.getD fds v12 Dep.zero))) = false) := (And.imp (fun h => h) (fun h => (Go.Am.not_pos h)) (Go.Am.and_pos h209))
        have e210 := e202.trans (Go.Am.bif_t h209)
        refine AW.seq (AW.r1 hC [0, 1, 4, 7, 10, 11, 12] [140] ⟨[(0, .data (.slice (.named 0)) (fds : List Dep)), (1, .int .i64 (bits .or .i64 set_1 (Dep.To (List.getD fds v12 Dep.zero)))), (4, .arr 140 1), (7, .int .i64 ((v12 : Nat) : Int)), (10, .data (.slice (.named 0)) (fds : List Dep)), (11, .int .i64 ((List.length fds : Nat) : Int)), (12, .int .i64 ((v12 : Nat) : Int))], [(140, .arr 1 (.int .i64) (steps1 : List Int))]⟩ ?_)
        refine AW.seq (AW.r0 hC [0, 1, 4, 10, 11, 12] [140] ⟨[(0, .data (.slice (.named 0)) (fds : List Dep)), (1, .int .i64 (bits .or .i64 set_1 (Dep.To (List.getD fds v12 Dep.zero)))), (4, .arr 140 1), (10, .data (.slice (.named 0)) (fds : List Dep)), (11, .int .i64 ((List.length fds : Nat) : Int)), (12, .int .i64 ((v12 : Nat) : Int))], [(140, .arr 1 (.int .i64) ((steps1 ++ ([((v12 : Nat) : Int)] : List Int)) : List Int))]⟩ [(((List.length steps1 : Nat) : Int) + ((List.length ([((v12 : Nat) : Int)] : List Int) : Nat) : Int) ≤ 4294967296)] ?_ ?_)
        ·
         refine ⟨?_, trivial⟩
         ·
          first | omega | (dsimp only; omega) | (simp only [lens] at *; omega)
        refine AW.r1 hC [0, 1, 4, 6, 10, 11, 12] [140] ⟨[(0, .data (.slice (.named 0)) (fds : List Dep)), (1, .int .i64 (bits .or .i64 set_1 (Dep.To (List.getD fds v12 Dep.zero)))), (4, .arr 140 1), (6, .bool true), (10, .data (.slice (.named 0)) (fds : List Dep)), (11, .int .i64 ((List.length fds : Nat) : Int)), (12, .int .i64 ((v12 : Nat) : Int))], [(140, .arr 1 (.int .i64) ((steps1 ++ ([((v12 : Nat) : Int)] : List Int)) : List Int))]⟩ ?_
        refine AW.r0 hC [0, 1, 4, 6, 10, 11, 12] [140] ⟨[(0, .data (.slice (.named 0)) (fds : List Dep)), (1, .int .i64 (bits .or .i64 set_1 (Dep.To (List.getD fds v12 Dep.zero)))), (4, .arr 140 1), (6, .bool true), (10, .data (.slice (.named 0)) (fds : List Dep)), (11, .int .i64 ((List.length fds : Nat) : Int)), (12, .int .i64 ((v12 + 1 : Nat) : Int))], [(140, .arr 1 (.int .i64) ((steps1 ++ ([((v12 : Nat) : Int)] : List Int)) : List Int))]⟩ [(-9223372036854775808 ≤ ((v12 + 1 : Nat) : Int) ∧ ((v12 + 1 : Nat) : Int) ≤ 9223372036854775807)] ?_ ?_
        ·
         refine ⟨?_, trivial⟩
         ·
          first | omega | (dsimp only; omega) | (simp only [lens] at *; omega)
        refine AW.back (x := (set_1, changed1, v12, steps1)) ((bits .or .i64 set_1 (Dep.To (List.getD fds v12 Dep.zero))), true, v12 + 1, (steps1 ++ ([((v12 : Nat) : Int)] : List Int))) (by kernel_rfl) ⟨?_, k200q, ?_, e210⟩ ?_
        ·
         show (0 ≤ (bits .or .i64 set_1 (Dep.To (List.getD fds v12 Dep.zero))) ∧ (bits .or .i64 set_1 (Dep.To (List.getD fds v12 Dep.zero))) < 64) ∧ (List.length (steps1 ++ ([((v12 : Nat) : Int)] : List Int)) : Int) ≤ (bits .or .i64 set_1 (Dep.To (List.getD fds v12 Dep.zero))) ∧ set_ ≤ (bits .or .i64 set_1 (Dep.To (List.getD fds v12 Dep.zero))) ∧ (true = true → set_ < (bits .or .i64 set_1 (Dep.To (List.getD fds v12 Dep.zero))))
         have f := hf (by omega)
         have h1 := or64 hI1.1.1 hI1.1.2 f.2.1 f.2.2
         have h2 := or64More hI1.1.1 hI1.1.2 f.2.1 f.2.2 (fun e => by
          have := (contains_iff (by omega) (by omega)).2 e
          rw [h209q.2] at this
          cases this)
         exact ⟨⟨by omega, by omega⟩, by simp only [List.length_append, List.length_cons, List.length_nil]; omega, by omega, fun _ => by omega⟩
        ·
         show (List.length fds) - (v12 + 1) < k200q
         first | omega | (simp only [lens]; omega)
        ·
         show (List.length fds) - (v12 + 1) < (List.length fds) - v12
         first | omega | (simp only [lens]; omega)
       ·
        intro h211
        have h211q : ((contains set_1 (Dep.From (List.getD fds v12 Dep.zero))) = false) ∨ ((contains set_1 (Dep.To (List.getD fds v12 Dep.zero))) = true) := (Or.imp (fun h => h) (fun h => (Go.Am.not_neg h)) (Go.Am.and_neg h211))
        have e212 := e202.trans (Go.Am.bif_f h211)
        refine AW.kp [0, 1, 4, 6, 10, 11, 12] [140] ⟨[(0, .data (.slice (.named 0)) (fds : List Dep)), (1, .int .i64 set_1), (4, .arr 140 1), (6, .bool changed1), (10, .data (.slice (.named 0)) (fds : List Dep)), (11, .int .i64 ((List.length fds : Nat) : Int)), (12, .int .i64 ((v12 : Nat) : Int))], [(140, .arr 1 (.int .i64) (steps1 : List Int))]⟩ ?_
        refine AW.skip (AW.r0 hC [0, 1, 4, 6, 10, 11, 12] [140] ⟨[(0, .data (.slice (.named 0)) (fds : List Dep)), (1, .int .i64 set_1), (4, .arr 140 1), (6, .bool changed1), (10, .data (.slice (.named 0)) (fds : List Dep)), (11, .int .i64 ((List.length fds : Nat) : Int)), (12, .int .i64 ((v12 + 1 : Nat) : Int))], [(140, .arr 1 (.int .i64) (steps1 : List Int))]⟩ [(-9223372036854775808 ≤ ((v12 + 1 : Nat) : Int) ∧ ((v12 + 1 : Nat) : Int) ≤ 9223372036854775807)] ?_ ?_)
        ·
         refine ⟨?_, trivial⟩
         ·
          first | omega | (dsimp only; omega) | (simp only [lens] at *; omega)
        refine AW.back (x := (set_1, changed1, v12, steps1)) (set_1, changed1, v12 + 1, steps1) (by kernel_rfl) ⟨?_, k200q, ?_, e212⟩ ?_
        ·
         show (0 ≤ set_1 ∧ set_1 < 64) ∧ (List.length steps1 : Int) ≤ set_1 ∧ set_ ≤ set_1 ∧ (changed1 = true → set_ < set_1)
         first | assumption | exact trivial | (refine ⟨?_, ?_⟩ <;> first | omega | (simp only [lens] at *; omega)) | omega | (simp only [lens] at *; omega)
        ·
         show (List.length fds) - (v12 + 1) < k200q
         first | omega | (simp only [lens]; omega)
        ·
         show (List.length fds) - (v12 + 1) < (List.length fds) - v12
         first | omega | (simp only [lens]; omega)
      ·
       intro h213
       have h213q : ¬ (((v12 : Nat) : Int) < ((List.length fds : Nat) : Int)) := (of_decide_eq_false h213)
       have e214 := e199.trans (Go.Am.bif_f h213)
       refine AW.kp [0, 1, 4, 6] [140] ⟨[(0, .data (.slice (.named 0)) (fds : List Dep)), (1, .int .i64 set_1), (4, .arr 140 1), (6, .bool changed1)], [(140, .arr 1 (.int .i64) (steps1 : List Int))]⟩ ?_
       refine AW.exit ?_
       refine AW.meet (set_1, changed1, steps1) (by kernel_rfl) ⟨?_, e214⟩
       show (0 ≤ set_1 ∧ set_1 < 64) ∧ (List.length steps1 : Int) ≤ set_1 ∧ set_ ≤ set_1 ∧ (changed1 = true → set_ < set_1)
       first | assumption | exact trivial | omega
    ·
     intro x hR
     obtain ⟨set_1, changed1, steps1⟩ := x
     obtain ⟨hJ1, e215⟩ := hR
     replace hJ1 : (0 ≤ set_1 ∧ set_1 < 64) ∧ (List.length steps1 : Int) ≤ set_1 ∧ set_ ≤ set_1 ∧ (changed1 = true → set_ < set_1) := hJ1
     have e216 := e173.trans (Go.Am.then_eq e215)
     refine AW.back (x := (set_, changed, steps)) (set_1, changed1, steps1) (by kernel_rfl) ⟨?_, k171q, ?_, e216⟩ ?_
     ·
      show (0 ≤ set_1 ∧ set_1 < 64) ∧ (List.length steps1 : Int) ≤ set_1
      exact ⟨hJ1.1, hJ1.2.1⟩
     ·
      show 2 * Int.toNat (64 - set_1) + (bif changed1 then 1 else 0) < k171q
      have := hJ1.2.2
      subst h172q
      cases changed1 <;> simp only [cond_true, cond_false] at * <;> simp at this <;> omega
     ·
      show 2 * Int.toNat (64 - set_1) + (bif changed1 then 1 else 0) < 2 * Int.toNat (64 - set_) + (bif changed then 1 else 0)
      have := hJ1.2.2
      subst h172q
      cases changed1 <;> simp only [cond_true, cond_false] at * <;> simp at this <;> omega
   ·
    intro h217
    have h217q : changed = false := h217
    have e218 := e170.trans (Go.Am.bif_f h217)
    refine AW.kp [1, 4] [140] ⟨[(1, .int .i64 set_), (4, .arr 140 1)], [(140, .arr 1 (.int .i64) (steps : List Int))]⟩ ?_
    refine AW.exit ?_
    refine AW.meet (set_, steps) (by kernel_rfl) ⟨?_, e218⟩
    show (0 ≤ set_ ∧ set_ < 64) ∧ (List.length steps : Int) ≤ set_
    first | assumption | exact trivial | omega
 ·
  intro x hR
  obtain ⟨set_, steps⟩ := x
  obtain ⟨hJ0, e219⟩ := hR
  replace hJ0 : (0 ≤ set_ ∧ set_ < 64) ∧ (List.length steps : Int) ≤ set_ := hJ0
  have e220 := e0.trans (Go.Am.then_eq e219)
  refine AW.seq (AW.r1 hC [4, 5] [140] ⟨[(4, .arr 140 1), (5, .int .i64 set_)], [(140, .arr 1 (.int .i64) (steps : List Int))]⟩ ?_)
  exact AW.ret (AW.retE (β := (List Int) × Int) (fun v => [⟨(.slice (.int .i64)), v.1⟩, ⟨(.int .i64), v.2⟩]) (fun v => []) (v := (steps, set_)) e220 (by kernel_rfl) rfl rfl)

def closure (fds : List Dep) (s : Int) : Int := ((derived fds s).2)

def closure_sp : FnSpec := mkSpec [.val (.slice (.named 0)), .val (.int .i64)] [.val (.int .i64)] (fun (fds : List Dep) (s : Int) => (0 ≤ s ∧ s < 64) ∧ ∀ f ∈ fds, (0 ≤ f.From ∧ f.From < 64) ∧ (0 ≤ f.To ∧ f.To < 64)) (fun (fds : List Dep) (s : Int) => [⟨(.int .i64), (closure fds s)⟩])

theorem closure_ok : FnOK Try.prog 109 closure_sp := by
 have hC : CtxOK Try.prog (mkCtx tyL [(133, derived_sp)]) := CtxOK.cons derived_ok (CtxOK.nil tyOK)
 refine FnOK.of_body Try.func109 (by kernel_rfl) rfl (C := (mkCtx tyL [(133, derived_sp)])) hC.ty (by kernel_rfl) ?_
 intro (fds : List Dep) (s : Int) hwf hpre E
 have hpre : (0 ≤ s ∧ s < 64) ∧ ∀ f ∈ fds, (0 ≤ f.From ∧ f.From < 64) ∧ (0 ≤ f.To ∧ f.To < 64) := hpre
 have hw_fds : Wf ⟨(.slice (.named 0)), (fds : List Dep)⟩ := hwf _ (List.Mem.head _)
 have hl_fds : ((List.length fds : Nat) : Int) ≤ 9223372036854775807 := hw_fds.len
 have hw_s : Wf ⟨(.int .i64), (s : Int)⟩ := hwf _ (List.Mem.tail _ (List.Mem.head _))
 have hr_s : -9223372036854775808 ≤ s ∧ s ≤ 9223372036854775807 := hw_s.int_inv
 have e0 : closure fds s = closure fds s := rfl
 refine AW.seq (AW.r1 hC [0, 1] [] ⟨[(0, .data (.slice (.named 0)) (fds : List Dep)), (1, .int .i64 s)], []⟩ ?_)
 refine AW.seq (AW.r0 hC [6] [] ⟨[(6, .int .i64 ((derived fds s).2))], []⟩ [((0 ≤ s ∧ s < 64) ∧ ∀ f ∈ fds, (0 ≤ f.From ∧ f.From < 64) ∧ (0 ≤ f.To ∧ f.To < 64))] ?_ ?_)
 ·
  refine ⟨?_, trivial⟩
  ·
   exact hpre
 refine AW.seq (AW.r1 hC [4] [] ⟨[(4, .int .i64 ((derived fds s).2))], []⟩ ?_)
 exact AW.ret (AW.retE (β := Int) (fun v => [⟨(.int .i64), v⟩]) (fun v => []) (v := ((derived fds s).2)) e0 (by kernel_rfl) rfl rfl)

def ValidDependencies_l0 (fds : List Dep) (width : Int) : Nat → Nat → Unit ⊕ Bool
 | 0, v17 => .inl ()
 | k + 1, v17 => (bif (decide (((v17 : Nat) : Int) < ((List.length fds : Nat) : Int))) then (bif (!(depValid (List.getD fds v17 Dep.zero) width)) then (.inr false) else (ValidDependencies_l0 fds width k (v17 + 1))) else (.inl ()))

def ValidDependencies (fds : List Dep) (width : Int) : Bool := (bif (bif (!(validWidth width)) then true else (decide (8 < ((List.length fds : Nat) : Int)))) then false else (Sum.elim (fun _ => true) (fun r => r) (ValidDependencies_l0 fds width ((List.length fds) - 0 + 1) 0)))

def ValidDependencies_sp : FnSpec := mkSpec [.val (.slice (.named 0)), .val (.int .i64)] [.val .bool] (fun (fds : List Dep) (width : Int) => True) (fun (fds : List Dep) (width : Int) => [⟨.bool, (ValidDependencies fds width)⟩])

theorem ValidDependencies_ok : FnOK Try.prog 63 ValidDependencies_sp := by
 have hC : CtxOK Try.prog (mkCtx tyL [(54, depValid_sp), (59, validWidth_sp)]) := CtxOK.cons depValid_ok (CtxOK.cons validWidth_ok (CtxOK.nil tyOK))
 refine FnOK.of_body Try.func63 (by kernel_rfl) rfl (C := (mkCtx tyL [(54, depValid_sp), (59, validWidth_sp)])) hC.ty (by kernel_rfl) ?_
 intro (fds : List Dep) (width : Int) hwf hpre E
 have hpre : True := hpre
 have hw_fds : Wf ⟨(.slice (.named 0)), (fds : List Dep)⟩ := hwf _ (List.Mem.head _)
 have hl_fds : ((List.length fds : Nat) : Int) ≤ 9223372036854775807 := hw_fds.len
 have hw_width : Wf ⟨(.int .i64), (width : Int)⟩ := hwf _ (List.Mem.tail _ (List.Mem.head _))
 have hr_width : -9223372036854775808 ≤ width ∧ width ≤ 9223372036854775807 := hw_width.int_inv
 have e0 : ValidDependencies fds width = ValidDependencies fds width := rfl
 refine AW.seq (AW.r1 hC [0, 1] [] ⟨[(0, .data (.slice (.named 0)) (fds : List Dep)), (1, .int .i64 width)], []⟩ ?_)
 refine AW.seq (AW.seq (AW.r0 hC [0, 1, 14] [] ⟨[(0, .data (.slice (.named 0)) (fds : List Dep)), (1, .int .i64 width), (14, .bool (bif (!(validWidth width)) then true else (decide (8 < ((List.length fds : Nat) : Int)))))], []⟩ [(True), (((!(validWidth width)) = false) → (((!(validWidth width)) = false))), (((!(validWidth width)) = false) → (((!(validWidth width)) = false))), (((!(validWidth width)) = false) → (((!(validWidth width)) = false)))] ?_ ?_))
 ·
  refine ⟨?_, ?_, ?_, ?_, trivial⟩
  ·
   trivial
  ·
   intro g1
   have g1p0 : (validWidth width) = true := (Go.Am.not_neg g1)
   first | assumption | exact ⟨by assumption, by assumption⟩
  ·
   intro g2
   have g2p0 : (validWidth width) = true := (Go.Am.not_neg g2)
   first | assumption | exact ⟨by assumption, by assumption⟩
  ·
   intro g3
   have g3p0 : (validWidth width) = true := (Go.Am.not_neg g3)
   first | assumption | exact ⟨by assumption, by assumption⟩
 refine AW.cd (bif (!(validWidth width)) then true else (decide (8 < ((List.length fds : Nat) : Int)))) ?_ ?_
 ·
  intro h4
  have h4q : ((validWidth width) = false) ∨ (8 < ((List.length fds : Nat) : Int)) := (Or.imp (fun h => (Go.Am.not_pos h)) (fun h => (of_decide_eq_true h)) (Go.Am.or_pos h4))
  have e5 := e0.trans (Go.Am.bif_t h4)
  refine AW.seq (AW.r1 hC [4] [] ⟨[(4, .bool false)], []⟩ ?_)
  exact AW.ret (AW.retE (β := Bool) (fun v => [⟨.bool, v⟩]) (fun v => []) (v := false) e5 (by kernel_rfl) rfl rfl)
 ·
  intro h6
  have h6q : ((validWidth width) = true) ∧ (¬ (8 < ((List.length fds : Nat) : Int))) := (And.imp (fun h => (Go.Am.not_neg h)) (fun h => (of_decide_eq_false h)) (Go.Am.or_neg h6))
  have e7 := e0.trans (Go.Am.bif_f h6)
  refine AW.kp [0, 1] [] ⟨[(0, .data (.slice (.named 0)) (fds : List Dep)), (1, .int .i64 width)], []⟩ ?_
  refine AW.skip (AW.seq (AW.seq (AW.r1 hC [1, 15, 16, 17] [] ⟨[(1, .int .i64 width), (15, .data (.slice (.named 0)) (fds : List Dep)), (16, .int .i64 ((List.length fds : Nat) : Int)), (17, .int .i64 0)], []⟩ ?_)))
  refine AW.cutQ (α := Unit) (fun x => ⟨[], []⟩) (fun x => (True) ∧ (ValidDependencies_l0 fds width ((List.length fds) - 0 + 1) 0) = (.inl ())) ?_ ?_
  ·
   skip
   refine AW.block (AW.loop (α := Nat) (fun x => ⟨[(1, .int .i64 width), (15, .data (.slice (.named 0)) (fds : List Dep)), (16, .int .i64 ((List.length fds : Nat) : Int)), (17, .int .i64 ((x : Nat) : Int))], []⟩) (fun x => (True) ∧ ∃ k, (List.length fds) - x < k ∧ (ValidDependencies_l0 fds width ((List.length fds) - 0 + 1) 0) = ValidDependencies_l0 fds width k x) (fun x => (List.length fds) - x) 0 (by kernel_rfl) ⟨?_, _, Nat.lt_succ_self _, rfl⟩ ?_)
   ·
    show True
    first | exact trivial | (refine ⟨?_, ?_⟩ <;> first | omega | simp) | omega | simp
   ·
    intro v17 hR
    obtain ⟨hI0, k37, hk35, e36⟩ := hR
    replace hI0 : True := hI0
    replace hk35 : (List.length fds) - v17 < k37 := hk35
    obtain ⟨k37q, rfl⟩ : ∃ k, k37 = k + 1 := ⟨k37 - 1, by omega⟩
    refine AW.seq (AW.r1 hC [1, 15, 16, 17, 18] [] ⟨[(1, .int .i64 width), (15, .data (.slice (.named 0)) (fds : List Dep)), (16, .int .i64 ((List.length fds : Nat) : Int)), (17, .int .i64 ((v17 : Nat) : Int)), (18, .bool (decide (((v17 : Nat) : Int) < ((List.length fds : Nat) : Int))))], []⟩ ?_)
    refine AW.seq (AW.cd (decide (((v17 : Nat) : Int) < ((List.length fds : Nat) : Int))) ?_ ?_)
    ·
     intro h38
     have h38q : ((v17 : Nat) : Int) < ((List.length fds : Nat) : Int) := (of_decide_eq_true h38)
     have e39 := e36.trans (Go.Am.bif_t h38)
     refine AW.kp [1, 15, 16, 17] [] ⟨[(1, .int .i64 width), (15, .data (.slice (.named 0)) (fds : List Dep)), (16, .int .i64 ((List.length fds : Nat) : Int)), (17, .int .i64 ((v17 : Nat) : Int))], []⟩ ?_
     refine AW.skip (AW.seq (AW.block (AW.seq (AW.r0 hC [1, 6, 15, 16, 17] [24] ⟨[(1, .int .i64 width), (6, .ref 24 1 0), (15, .data (.slice (.named 0)) (fds : List Dep)), (16, .int .i64 ((List.length fds : Nat) : Int)), (17, .int .i64 ((v17 : Nat) : Int))], [(24, .box 1 [.int .i64 (Dep.From (List.getD fds v17 Dep.zero)), .int .i64 (Dep.To (List.getD fds v17 Dep.zero))])]⟩ [(0 ≤ ((v17 : Nat) : Int) ∧ ((v17 : Nat) : Int) < ((List.length fds : Nat) : Int))] ?_ ?_))))
     ·
      refine ⟨?_, trivial⟩
      ·
       first | omega | (dsimp only; omega) | (simp only [lens] at *; omega)
     refine AW.seq (AW.r0 hC [1, 15, 16, 17, 24] [] ⟨[(1, .int .i64 width), (15, .data (.slice (.named 0)) (fds : List Dep)), (16, .int .i64 ((List.length fds : Nat) : Int)), (17, .int .i64 ((v17 : Nat) : Int)), (24, .bool (!(depValid (List.getD fds v17 Dep.zero) width)))], []⟩ [(1 ≤ width ∧ width ≤ 6)] ?_ ?_)
     ·
      refine ⟨?_, trivial⟩
      ·
       exact validWidth_iff.1 h6q.1
     refine AW.cd (!(depValid (List.getD fds v17 Dep.zero) width)) ?_ ?_
     ·
      intro h40
      have h40q : (depValid (List.getD fds v17 Dep.zero) width) = false := (Go.Am.not_pos h40)
      have e41 := e39.trans (Go.Am.bif_t h40)
      refine AW.seq (AW.r1 hC [4] [] ⟨[(4, .bool false)], []⟩ ?_)
      refine AW.ret ?_
      have e42 := e7.trans (Go.Am.elim_r e41)
      exact AW.retE (β := Bool) (fun v => [⟨.bool, v⟩]) (fun v => []) (v := false) e42 (by kernel_rfl) rfl rfl
     ·
      intro h43
      have h43q : (depValid (List.getD fds v17 Dep.zero) width) = true := (Go.Am.not_neg h43)
      have e44 := e39.trans (Go.Am.bif_f h43)
      refine AW.kp [1, 15, 16, 17] [] ⟨[(1, .int .i64 width), (15, .data (.slice (.named 0)) (fds : List Dep)), (16, .int .i64 ((List.length fds : Nat) : Int)), (17, .int .i64 ((v17 : Nat) : Int))], []⟩ ?_
      refine AW.skip (AW.r0 hC [1, 15, 16, 17] [] ⟨[(1, .int .i64 width), (15, .data (.slice (.named 0)) (fds : List Dep)), (16, .int .i64 ((List.length fds : Nat) : Int)), (17, .int .i64 ((v17 + 1 : Nat) : Int))], []⟩ [(-9223372036854775808 ≤ ((v17 + 1 : Nat) : Int) ∧ ((v17 + 1 : Nat) : Int) ≤ 9223372036854775807)] ?_ ?_)
      ·
       refine ⟨?_, trivial⟩
       ·
        first | omega | (dsimp only; omega) | (simp only [lens] at *; omega)
      refine AW.back (x := v17) (v17 + 1) (by kernel_rfl) ⟨?_, k37q, ?_, e44⟩ ?_
      ·
       show True
       first | assumption | exact trivial | (refine ⟨?_, ?_⟩ <;> first | omega | (simp only [lens] at *; omega)) | omega | (simp only [lens] at *; omega)
      ·
       show (List.length fds) - (v17 + 1) < k37q
       first | omega | (simp only [lens]; omega)
      ·
       show (List.length fds) - (v17 + 1) < (List.length fds) - v17
       first | omega | (simp only [lens]; omega)
    ·
     intro h45
     have h45q : ¬ (((v17 : Nat) : Int) < ((List.length fds : Nat) : Int)) := (of_decide_eq_false h45)
     have e46 := e36.trans (Go.Am.bif_f h45)
     refine AW.kp [] [] ⟨[], []⟩ ?_
     refine AW.exit ?_
     refine AW.meet () (by kernel_rfl) ⟨?_, e46⟩
     show True
     first | assumption | exact trivial | omega
  ·
   intro x hR
   obtain ⟨hJ0, e47⟩ := hR
   replace hJ0 : True := hJ0
   have e48 := e7.trans (Go.Am.elim_l e47)
   refine AW.seq (AW.r1 hC [4] [] ⟨[(4, .bool true)], []⟩ ?_)
   exact AW.ret (AW.retE (β := Bool) (fun v => [⟨.bool, v⟩]) (fun v => []) (v := true) e48 (by kernel_rfl) rfl rfl)

theorem ValidDependencies_iff {fds : List Dep} {w : Int} : ValidDependencies fds w = true ↔ (1 ≤ w ∧ w ≤ 6) ∧ fds.length ≤ 8 ∧ ∀ f ∈ fds, depValid f w = true := by
 unfold ValidDependencies
 rw [← validWidth_iff]
 cases validWidth w with
 | false => simp
 | true =>
  simp only [Bool.not_true, cond_false]
  by_cases h8 : fds.length ≤ 8
  ·
   rw [show decide (8 < ((List.length fds : Nat) : Int)) = false by simp; omega, cond_false]
   rcases all_loop (ValidDependencies_l0 fds w) fds.length (fun i => !(depValid (List.getD fds i Dep.zero) w)) (fun k i => rfl) (fds.length - 0 + 1) 0 (by omega) with ⟨h1, h2⟩ | ⟨h1, j, h2, h3, h4⟩
   ·
    rw [h1]
    simp only [Sum.elim_inl, true_and, true_iff]
    exact ⟨h8, forall_getD.1 fun j hj => by simpa using h2 j (by omega) hj⟩
   ·
    rw [h1]
    simp only [Sum.elim_inr, Bool.false_eq_true, true_and, false_iff]
    rintro ⟨_, hh⟩
    have := hh _ (getD_mem fds j Dep.zero h3)
    rw [this] at h4
    cases h4
  ·
   rw [show decide (8 < ((List.length fds : Nat) : Int)) = true by simp; omega, cond_true]
   simp [h8]

theorem pow_le64 {w x : Int} (hw : 1 ≤ w ∧ w ≤ 6) (h : x < 2 ^ w.toNat) : x < 64 := by
 have := pow64 hw.2 (by omega)
 omega

theorem deps64 {fds : List Dep} {w s : Int} (h : ValidDependencies fds w = true) (hs : ivalidSet s w = true) :
  (0 ≤ s ∧ s < 64) ∧ ∀ f ∈ fds, (0 ≤ f.From ∧ f.From < 64) ∧ (0 ≤ f.To ∧ f.To < 64) := by
 obtain ⟨hw, _, hf⟩ := ValidDependencies_iff.1 h
 have h2 := ivalidSet_iff.1 hs
 refine ⟨⟨h2.1, pow_le64 hw h2.2⟩, fun f hm => ?_⟩
 have := depValid_iff.1 (hf f hm)
 exact ⟨⟨this.1.1, pow_le64 hw this.1.2⟩, ⟨this.2.1, pow_le64 hw this.2.2⟩⟩

def validDependencies_l0 (fds : List Dep) (width : Int) : Nat → Nat → Unit ⊕ Bool
 | 0, i => .inl ()
 | k + 1, i => (bif (decide (((i : Nat) : Int) < ((List.length fds : Nat) : Int))) then (bif (bif (!(validSet (Dep.From (List.getD fds i Dep.zero)) width)) then true else (!(validSet (Dep.To (List.getD fds i Dep.zero)) width))) then (.inr false) else (validDependencies_l0 fds width k (i + 1))) else (.inl ()))

def validDependencies (fds : List Dep) (width : Int) : Bool := (Sum.elim (fun _ => (bif (inRange width 1 6) then (decide (((List.length fds : Nat) : Int) ≤ 8)) else false)) (fun r => r) (validDependencies_l0 fds width ((List.length fds) - 0 + 1) 0))

def validDependencies_sp : FnSpec := mkSpec [.val (.slice (.named 0)), .val (.int .i64)] [.val .bool] (fun (fds : List Dep) (width : Int) => True) (fun (fds : List Dep) (width : Int) => [⟨.bool, (validDependencies fds width)⟩])

theorem validDependencies_ok : FnOK Try.prog 65 validDependencies_sp := by
 have hC : CtxOK Try.prog (mkCtx tyL [(57, validSet_sp), (80, inRange_sp)]) := CtxOK.cons validSet_ok (CtxOK.cons inRange_ok (CtxOK.nil tyOK))
 refine FnOK.of_body Try.func65 (by kernel_rfl) rfl (C := (mkCtx tyL [(57, validSet_sp), (80, inRange_sp)])) hC.ty (by kernel_rfl) ?_
 intro (fds : List Dep) (width : Int) hwf hpre E
 have hpre : True := hpre
 have hw_fds : Wf ⟨(.slice (.named 0)), (fds : List Dep)⟩ := hwf _ (List.Mem.head _)
 have hl_fds : ((List.length fds : Nat) : Int) ≤ 9223372036854775807 := hw_fds.len
 have hw_width : Wf ⟨(.int .i64), (width : Int)⟩ := hwf _ (List.Mem.tail _ (List.Mem.head _))
 have hr_width : -9223372036854775808 ≤ width ∧ width ≤ 9223372036854775807 := hw_width.int_inv
 have e0 : validDependencies fds width = validDependencies fds width := rfl
 refine AW.seq (AW.r1 hC [0, 1] [] ⟨[(0, .data (.slice (.named 0)) (fds : List Dep)), (1, .int .i64 width)], []⟩ ?_)
 refine AW.seq (AW.seq (AW.r1 hC [0, 1, 5] [] ⟨[(0, .data (.slice (.named 0)) (fds : List Dep)), (1, .int .i64 width), (5, .int .i64 0)], []⟩ ?_))
 refine AW.cutQ (α := Unit) (fun x => ⟨[(0, .data (.slice (.named 0)) (fds : List Dep)), (1, .int .i64 width)], []⟩) (fun x => (True) ∧ (validDependencies_l0 fds width ((List.length fds) - 0 + 1) 0) = (.inl ())) ?_ ?_
 ·
  skip
  refine AW.block (AW.loop (α := Nat) (fun x => ⟨[(0, .data (.slice (.named 0)) (fds : List Dep)), (1, .int .i64 width), (5, .int .i64 ((x : Nat) : Int))], []⟩) (fun x => (True) ∧ ∃ k, (List.length fds) - x < k ∧ (validDependencies_l0 fds width ((List.length fds) - 0 + 1) 0) = validDependencies_l0 fds width k x) (fun x => (List.length fds) - x) 0 (by kernel_rfl) ⟨?_, _, Nat.lt_succ_self _, rfl⟩ ?_)
  ·
   show True
   first | exact trivial | (refine ⟨?_, ?_⟩ <;> first | omega | simp) | omega | simp
  ·
   intro i hR
   obtain ⟨hI0, k30, hk28, e29⟩ := hR
   replace hI0 : True := hI0
   replace hk28 : (List.length fds) - i < k30 := hk28
   obtain ⟨k30q, rfl⟩ : ∃ k, k30 = k + 1 := ⟨k30 - 1, by omega⟩
   refine AW.seq (AW.seq (AW.r1 hC [0, 1, 5, 9] [] ⟨[(0, .data (.slice (.named 0)) (fds : List Dep)), (1, .int .i64 width), (5, .int .i64 ((i : Nat) : Int)), (9, .bool (decide (((i : Nat) : Int) < ((List.length fds : Nat) : Int))))], []⟩ ?_))
   refine AW.cd (decide (((i : Nat) : Int) < ((List.length fds : Nat) : Int))) ?_ ?_
   ·
    intro h31
    have h31q : ((i : Nat) : Int) < ((List.length fds : Nat) : Int) := (of_decide_eq_true h31)
    have e32 := e29.trans (Go.Am.bif_t h31)
    refine AW.kp [0, 1, 5] [] ⟨[(0, .data (.slice (.named 0)) (fds : List Dep)), (1, .int .i64 width), (5, .int .i64 ((i : Nat) : Int))], []⟩ ?_
    refine AW.skip (AW.seq (AW.block (AW.seq (AW.r0 hC [0, 1, 5, 29] [] ⟨[(0, .data (.slice (.named 0)) (fds : List Dep)), (1, .int .i64 width), (5, .int .i64 ((i : Nat) : Int)), (29, .bool (bif (!(validSet (Dep.From (List.getD fds i Dep.zero)) width)) then true else (!(validSet (Dep.To (List.getD fds i Dep.zero)) width))))], []⟩ [(0 ≤ ((i : Nat) : Int) ∧ ((i : Nat) : Int) < ((List.length fds : Nat) : Int)), (True), (((!(validSet (Dep.From (List.getD fds i Dep.zero)) width)) = false) → (((!(validSet (Dep.From (List.getD fds i Dep.zero)) width)) = false))), (((!(validSet (Dep.From (List.getD fds i Dep.zero)) width)) = false) → (((!(validSet (Dep.From (List.getD fds i Dep.zero)) width)) = false))), (((!(validSet (Dep.From (List.getD fds i Dep.zero)) width)) = false) → (0 ≤ ((i : Nat) : Int) ∧ ((i : Nat) : Int) < ((List.length fds : Nat) : Int))), (((!(validSet (Dep.From (List.getD fds i Dep.zero)) width)) = false) → (((!(validSet (Dep.From (List.getD fds i Dep.zero)) width)) = false))), (((!(validSet (Dep.From (List.getD fds i Dep.zero)) width)) = false) → (((!(validSet (Dep.From (List.getD fds i Dep.zero)) width)) = false))), (((!(validSet (Dep.From (List.getD fds i Dep.zero)) width)) = false) → (((!(validSet (Dep.From (List.getD fds i Dep.zero)) width)) = false))), (((!(validSet (Dep.From (List.getD fds i Dep.zero)) width)) = false) → (((!(validSet (Dep.From (List.getD fds i Dep.zero)) width)) = false))), (((!(validSet (Dep.From (List.getD fds i Dep.zero)) width)) = false) → (True)), (((!(validSet (Dep.From (List.getD fds i Dep.zero)) width)) = false) → (((!(validSet (Dep.From (List.getD fds i Dep.zero)) width)) = false))), (((!(validSet (Dep.From (List.getD fds i Dep.zero)) width)) = false) → (((!(validSet (Dep.From (List.getD fds i Dep.zero)) width)) = false)))] ?_ ?_))))
    ·
     refine ⟨?_, ?_, ?_, ?_, ?_, ?_, ?_, ?_, ?_, ?_, ?_, ?_, trivial⟩
     ·
      first | omega | (dsimp only; omega) | (simp only [lens] at *; omega)
     ·
      trivial
     ·
      intro g33
      have g33p0 : (validSet (Dep.From (List.getD fds i Dep.zero)) width) = true := (Go.Am.not_neg g33)
      first | assumption | exact ⟨by assumption, by assumption⟩
     ·
      intro g34
      have g34p0 : (validSet (Dep.From (List.getD fds i Dep.zero)) width) = true := (Go.Am.not_neg g34)
      first | assumption | exact ⟨by assumption, by assumption⟩
     ·
      intro g35
      have g35p0 : (validSet (Dep.From (List.getD fds i Dep.zero)) width) = true := (Go.Am.not_neg g35)
      first | omega | (dsimp only; omega) | (simp only [lens] at *; omega)
     ·
      intro g36
      have g36p0 : (validSet (Dep.From (List.getD fds i Dep.zero)) width) = true := (Go.Am.not_neg g36)
      first | assumption | exact ⟨by assumption, by assumption⟩
     ·
      intro g37
      have g37p0 : (validSet (Dep.From (List.getD fds i Dep.zero)) width) = true := (Go.Am.not_neg g37)
      first | assumption | exact ⟨by assumption, by assumption⟩
     ·
      intro g38
      have g38p0 : (validSet (Dep.From (List.getD fds i Dep.zero)) width) = true := (Go.Am.not_neg g38)
      first | assumption | exact ⟨by assumption, by assumption⟩
     ·
      intro g39
      have g39p0 : (validSet (Dep.From (List.getD fds i Dep.zero)) width) = true := (Go.Am.not_neg g39)
      first | assumption | exact ⟨by assumption, by assumption⟩
     ·
      intro g40
      have g40p0 : (validSet (Dep.From (List.getD fds i Dep.zero)) width) = true := (Go.Am.not_neg g40)
      trivial
     ·
      intro g41
      have g41p0 : (validSet (Dep.From (List.getD fds i Dep.zero)) width) = true := (Go.Am.not_neg g41)
      first | assumption | exact ⟨by assumption, by assumption⟩
     ·
      intro g42
      have g42p0 : (validSet (Dep.From (List.getD fds i Dep.zero)) width) = true := (Go.Am.not_neg g42)
      first | assumption | exact ⟨by assumption, by assumption⟩
    refine AW.cd (bif (!(validSet (Dep.From (List.getD fds i Dep.zero)) width)) then true else (!(validSet (Dep.To (List.getD fds i Dep.zero)) width))) ?_ ?_
    ·
     intro h43
     have h43q : ((validSet (Dep.From (List.getD fds i Dep.zero)) width) = false) ∨ ((validSet (Dep.To (List.getD fds i Dep.zero)) width) = false) := (Or.imp (fun h => (Go.Am.not_pos h)) (fun h => (Go.Am.not_pos h)) (Go.Am.or_pos h43))
     have e44 := e32.trans (Go.Am.bif_t h43)
     refine AW.seq (AW.r1 hC [4] [] ⟨[(4, .bool false)], []⟩ ?_)
     refine AW.ret ?_
     have e45 := e0.trans (Go.Am.elim_r e44)
     exact AW.retE (β := Bool) (fun v => [⟨.bool, v⟩]) (fun v => []) (v := false) e45 (by kernel_rfl) rfl rfl
    ·
     intro h46
     have h46q : ((validSet (Dep.From (List.getD fds i Dep.zero)) width) = true) ∧ ((validSet (Dep.To (List.getD fds i Dep.zero)) width) = true) := (And.imp (fun h => (Go.Am.not_neg h)) (fun h => (Go.Am.not_neg h)) (Go.Am.or_neg h46))
     have e47 := e32.trans (Go.Am.bif_f h46)
     refine AW.kp [0, 1, 5] [] ⟨[(0, .data (.slice (.named 0)) (fds : List Dep)), (1, .int .i64 width), (5, .int .i64 ((i : Nat) : Int))], []⟩ ?_
     refine AW.skip (AW.r0 hC [0, 1, 5] [] ⟨[(0, .data (.slice (.named 0)) (fds : List Dep)), (1, .int .i64 width), (5, .int .i64 ((i + 1 : Nat) : Int))], []⟩ [(-9223372036854775808 ≤ ((i + 1 : Nat) : Int) ∧ ((i + 1 : Nat) : Int) ≤ 9223372036854775807)] ?_ ?_)
     ·
      refine ⟨?_, trivial⟩
      ·
       first | omega | (dsimp only; omega) | (simp only [lens] at *; omega)
     refine AW.back (x := i) (i + 1) (by kernel_rfl) ⟨?_, k30q, ?_, e47⟩ ?_
     ·
      show True
      first | assumption | exact trivial | (refine ⟨?_, ?_⟩ <;> first | omega | (simp only [lens] at *; omega)) | omega | (simp only [lens] at *; omega)
     ·
      show (List.length fds) - (i + 1) < k30q
      first | omega | (simp only [lens]; omega)
     ·
      show (List.length fds) - (i + 1) < (List.length fds) - i
      first | omega | (simp only [lens]; omega)
   ·
    intro h48
    have h48q : ¬ (((i : Nat) : Int) < ((List.length fds : Nat) : Int)) := (of_decide_eq_false h48)
    have e49 := e29.trans (Go.Am.bif_f h48)
    refine AW.kp [0, 1] [] ⟨[(0, .data (.slice (.named 0)) (fds : List Dep)), (1, .int .i64 width)], []⟩ ?_
    refine AW.exit ?_
    refine AW.meet () (by kernel_rfl) ⟨?_, e49⟩
    show True
    first | assumption | exact trivial | omega
 ·
  intro x hR
  obtain ⟨hJ0, e50⟩ := hR
  replace hJ0 : True := hJ0
  have e51 := e0.trans (Go.Am.elim_l e50)
  refine AW.seq (AW.r0 hC [4] [] ⟨[(4, .bool (bif (inRange width 1 6) then (decide (((List.length fds : Nat) : Int) ≤ 8)) else false))], []⟩ [(True), (((inRange width 1 6) = true) → (((inRange width 1 6) = true))), (((inRange width 1 6) = true) → (((inRange width 1 6) = true))), (((inRange width 1 6) = true) → (((inRange width 1 6) = true)))] ?_ ?_)
  ·
   refine ⟨?_, ?_, ?_, ?_, trivial⟩
   ·
    trivial
   ·
    intro g52
    have g52p0 : (inRange width 1 6) = true := g52
    first | assumption | exact ⟨by assumption, by assumption⟩
   ·
    intro g53
    have g53p0 : (inRange width 1 6) = true := g53
    first | assumption | exact ⟨by assumption, by assumption⟩
   ·
    intro g54
    have g54p0 : (inRange width 1 6) = true := g54
    first | assumption | exact ⟨by assumption, by assumption⟩
  exact AW.ret (AW.retE (β := Bool) (fun v => [⟨.bool, v⟩]) (fun v => []) (v := (bif (inRange width 1 6) then (decide (((List.length fds : Nat) : Int) ≤ 8)) else false)) e51 (by kernel_rfl) rfl rfl)

theorem valid_eq (fds : List Dep) (w : Int) : validDependencies fds w = ValidDependencies fds w := by
 rw [Bool.eq_iff_iff, ValidDependencies_iff]
 unfold validDependencies
 rcases all_loop (validDependencies_l0 fds w) fds.length (fun i => bif (!(validSet (Dep.From (List.getD fds i Dep.zero)) w)) then true else (!(validSet (Dep.To (List.getD fds i Dep.zero)) w))) (fun k i => rfl) (fds.length - 0 + 1) 0 (by omega) with ⟨h1, h2⟩ | ⟨h1, j, h2, h3, h4⟩
 ·
  rw [h1]
  simp only [Sum.elim_inl]
  have h5 : ∀ f ∈ fds, validSet f.From w = true ∧ validSet f.To w = true := forall_getD.1 fun j hj => or_neg (h2 j (by omega) hj) |>.imp not_neg not_neg
  rw [← inRange_iff]
  cases hw : inRange w 1 6 with
  | false => simp
  | true =>
   simp only [cond_true, true_and, decide_eq_true_eq]
   constructor
   ·
    intro h8
    refine ⟨by omega, fun f hf => ?_⟩
    have := h5 f hf
    rw [depValid_iff, ← ivalidSet_iff, ← ivalidSet_iff]
    exact ⟨(validSet_iff.1 this.1).2, (validSet_iff.1 this.2).2⟩
   ·
    rintro ⟨h8, _⟩
    omega
 ·
  rw [h1]
  simp only [Sum.elim_inr, Bool.false_eq_true, false_iff]
  rintro ⟨hw, _, hf⟩
  have := depValid_iff.1 (hf _ (getD_mem fds j Dep.zero h3))
  rcases or_pos h4 with h | h
  ·
   have h := not_pos h
   have : validSet (fds.getD j Dep.zero).From w = true := validSet_iff.2 ⟨hw, ivalidSet_iff.2 this.1⟩
   rw [h] at this
   cases this
  ·
   have h := not_pos h
   have : validSet (fds.getD j Dep.zero).To w = true := validSet_iff.2 ⟨hw, ivalidSet_iff.2 this.2⟩
   rw [h] at this
   cases this

theorem sdeps64 {fds : List Dep} {w s : Int} (h : validDependencies fds w = true) (hs : validSet s w = true) :
  (0 ≤ s ∧ s < 64) ∧ ∀ f ∈ fds, (0 ≤ f.From ∧ f.From < 64) ∧ (0 ≤ f.To ∧ f.To < 64) := by
 rw [valid_eq] at h
 exact deps64 h (validSet_iff.1 hs).2

def closureOf_l1 (fds : List Dep) : Nat → Int → Bool → Nat → Int × Bool
 | 0, set_1, changed1, i => (set_1, changed1)
 | k + 1, set_1, changed1, i => (bif (decide (((i : Nat) : Int) < ((List.length fds : Nat) : Int))) then (bif (bif ((bits .and .i64 (Dep.From (List.getD fds i Dep.zero)) set_1) == (Dep.From (List.getD fds i Dep.zero))) then ((bits .and .i64 (Dep.To (List.getD fds i Dep.zero)) set_1) != (Dep.To (List.getD fds i Dep.zero))) else false) then (closureOf_l1 fds k (bits .or .i64 set_1 (Dep.To (List.getD fds i Dep.zero))) true (i + 1)) else (closureOf_l1 fds k set_1 changed1 (i + 1))) else (set_1, changed1))

def closureOf_l0 (fds : List Dep) : Nat → Int → Bool → Int
 | 0, set_, changed => set_
 | k + 1, set_, changed => (bif changed then (Go.Am.andThen (closureOf_l1 fds ((List.length fds) - 0 + 1) set_ false 0) (fun z => (fun (set_1 : Int) (changed1 : Bool) => (closureOf_l0 fds k set_1 changed1)) z.1 z.2)) else set_)

def closureOf (fds : List Dep) (s : Int) : Int := (Go.Am.andThen (closureOf_l0 fds (2 * Int.toNat (64 - s) + (bif true then 1 else 0) + 1) s true) (fun z => (fun (set_ : Int) => set_) z))

def closureOf_sp : FnSpec := mkSpec [.val (.slice (.named 0)), .val (.int .i64)] [.val (.int .i64)] (fun (fds : List Dep) (s : Int) => (0 ≤ s ∧ s < 64) ∧ ∀ f ∈ fds, (0 ≤ f.From ∧ f.From < 64) ∧ (0 ≤ f.To ∧ f.To < 64)) (fun (fds : List Dep) (s : Int) => [⟨(.int .i64), (closureOf fds s)⟩])

theorem closureOf_ok : FnOK Try.prog 110 closureOf_sp := by
 have hC : CtxOK Try.prog (mkCtx tyL []) := CtxOK.nil tyOK
 have hM : Try.prog.follows .mixedOrders = true := Try.checked.mixed
 refine FnOK.of_body Try.func110 (by kernel_rfl) rfl (C := (mkCtx tyL [])) hC.ty (by kernel_rfl) ?_
 intro (fds : List Dep) (s : Int) hwf hpre E
 have hpre : (0 ≤ s ∧ s < 64) ∧ ∀ f ∈ fds, (0 ≤ f.From ∧ f.From < 64) ∧ (0 ≤ f.To ∧ f.To < 64) := hpre
 have hw_fds : Wf ⟨(.slice (.named 0)), (fds : List Dep)⟩ := hwf _ (List.Mem.head _)
 have hl_fds : ((List.length fds : Nat) : Int) ≤ 9223372036854775807 := hw_fds.len
 have hw_s : Wf ⟨(.int .i64), (s : Int)⟩ := hwf _ (List.Mem.tail _ (List.Mem.head _))
 have hr_s : -9223372036854775808 ≤ s ∧ s ≤ 9223372036854775807 := hw_s.int_inv
 have e0 : closureOf fds s = closureOf fds s := rfl
 refine AW.seq (AW.r1 hC [0, 1] [] ⟨[(0, .data (.slice (.named 0)) (fds : List Dep)), (1, .int .i64 s)], []⟩ ?_)
 refine AW.seq (AW.seq (AW.r1 hC [0, 1, 5] [] ⟨[(0, .data (.slice (.named 0)) (fds : List Dep)), (1, .int .i64 s), (5, .bool true)], []⟩ ?_))
 refine AW.cutQ (α := Int) (fun x => ⟨[(1, .int .i64 x)], []⟩) (fun x => (0 ≤ x ∧ x < 64) ∧ (closureOf_l0 fds (2 * Int.toNat (64 - s) + (bif true then 1 else 0) + 1) s true) = x) ?_ ?_
 ·
  skip
  refine AW.block (AW.loop (α := Int × Bool) (fun x => ⟨[(0, .data (.slice (.named 0)) (fds : List Dep)), (1, .int .i64 x.1), (5, .bool x.2)], []⟩) (fun x => (0 ≤ x.1 ∧ x.1 < 64) ∧ ∃ k, 2 * Int.toNat (64 - x.1) + (bif x.2 then 1 else 0) < k ∧ (closureOf_l0 fds (2 * Int.toNat (64 - s) + (bif true then 1 else 0) + 1) s true) = closureOf_l0 fds k x.1 x.2) (fun x => 2 * Int.toNat (64 - x.1) + (bif x.2 then 1 else 0)) (s, true) (by kernel_rfl) ⟨?_, _, Nat.lt_succ_self _, rfl⟩ ?_)
  ·
   show 0 ≤ s ∧ s < 64
   exact hpre.1
  ·
   intro x hR
   obtain ⟨set_, changed⟩ := x
   obtain ⟨hI0, k122, hk120, e121⟩ := hR
   replace hI0 : 0 ≤ set_ ∧ set_ < 64 := hI0
   replace hk120 : 2 * Int.toNat (64 - set_) + (bif changed then 1 else 0) < k122 := hk120
   obtain ⟨k122q, rfl⟩ : ∃ k, k122 = k + 1 := ⟨k122 - 1, by omega⟩
   refine AW.seq (AW.seq (AW.r1 hC [0, 1, 7] [] ⟨[(0, .data (.slice (.named 0)) (fds : List Dep)), (1, .int .i64 set_), (7, .bool changed)], []⟩ ?_))
   refine AW.cd changed ?_ ?_
   ·
    intro h123
    have h123q : changed = true := h123
    have e124 := e121.trans (Go.Am.bif_t h123)
    refine AW.kp [0, 1] [] ⟨[(0, .data (.slice (.named 0)) (fds : List Dep)), (1, .int .i64 set_)], []⟩ ?_
    refine AW.skip (AW.block (AW.seq (AW.r1 hC [0, 1, 5] [] ⟨[(0, .data (.slice (.named 0)) (fds : List Dep)), (1, .int .i64 set_), (5, .bool false)], []⟩ ?_)))
    refine AW.seq (AW.r1 hC [0, 1, 5, 6] [] ⟨[(0, .data (.slice (.named 0)) (fds : List Dep)), (1, .int .i64 set_), (5, .bool false), (6, .int .i64 0)], []⟩ ?_)
    refine AW.cutQ (α := Int × Bool) (fun x => ⟨[(0, .data (.slice (.named 0)) (fds : List Dep)), (1, .int .i64 x.1), (5, .bool x.2)], []⟩) (fun x => ((0 ≤ x.1 ∧ x.1 < 64) ∧ set_ ≤ x.1 ∧ (x.2 = true → set_ < x.1)) ∧ (closureOf_l1 fds ((List.length fds) - 0 + 1) set_ false 0) = x) ?_ ?_
    ·
     skip
     refine AW.block (AW.loop (α := Int × Bool × Nat) (fun x => ⟨[(0, .data (.slice (.named 0)) (fds : List Dep)), (1, .int .i64 x.1), (5, .bool x.2.1), (6, .int .i64 ((x.2.2 : Nat) : Int))], []⟩) (fun x => ((0 ≤ x.1 ∧ x.1 < 64) ∧ set_ ≤ x.1 ∧ (x.2.1 = true → set_ < x.1)) ∧ ∃ k, (List.length fds) - x.2.2 < k ∧ (closureOf_l1 fds ((List.length fds) - 0 + 1) set_ false 0) = closureOf_l1 fds k x.1 x.2.1 x.2.2) (fun x => (List.length fds) - x.2.2) (set_, false, 0) (by kernel_rfl) ⟨?_, _, Nat.lt_succ_self _, rfl⟩ ?_)
     ·
      show (0 ≤ set_ ∧ set_ < 64) ∧ set_ ≤ set_ ∧ (false = true → set_ < set_)
      exact ⟨hI0, by omega, by simp⟩
     ·
      intro x hR
      obtain ⟨set_1, changed1, i⟩ := x
      obtain ⟨hI1, k151, hk149, e150⟩ := hR
      replace hI1 : (0 ≤ set_1 ∧ set_1 < 64) ∧ set_ ≤ set_1 ∧ (changed1 = true → set_ < set_1) := hI1
      replace hk149 : (List.length fds) - i < k151 := hk149
      obtain ⟨k151q, rfl⟩ : ∃ k, k151 = k + 1 := ⟨k151 - 1, by omega⟩
      have hf := fun (h : i < fds.length) => hpre.2 _ (getD_mem fds i Dep.zero h)
      refine AW.seq (AW.seq (AW.r1 hC [0, 1, 5, 6, 11] [] ⟨[(0, .data (.slice (.named 0)) (fds : List Dep)), (1, .int .i64 set_1), (5, .bool changed1), (6, .int .i64 ((i : Nat) : Int)), (11, .bool (decide (((i : Nat) : Int) < ((List.length fds : Nat) : Int))))], []⟩ ?_))
      refine AW.cd (decide (((i : Nat) : Int) < ((List.length fds : Nat) : Int))) ?_ ?_
      ·
       intro h152
       have h152q : ((i : Nat) : Int) < ((List.length fds : Nat) : Int) := (of_decide_eq_true h152)
       have e153 := e150.trans (Go.Am.bif_t h152)
       refine AW.kp [0, 1, 5, 6] [] ⟨[(0, .data (.slice (.named 0)) (fds : List Dep)), (1, .int .i64 set_1), (5, .bool changed1), (6, .int .i64 ((i : Nat) : Int))], []⟩ ?_
       refine AW.skip (AW.seq (AW.block (AW.seq (AW.d0 hC hM [0, 1, 5, 6, 41] [] ⟨[(0, .data (.slice (.named 0)) (fds : List Dep)), (1, .int .i64 set_1), (5, .bool changed1), (6, .int .i64 ((i : Nat) : Int)), (41, .bool (bif ((bits .and .i64 (Dep.From (List.getD fds i Dep.zero)) set_1) == (Dep.From (List.getD fds i Dep.zero))) then ((bits .and .i64 (Dep.To (List.getD fds i Dep.zero)) set_1) != (Dep.To (List.getD fds i Dep.zero))) else false))], []⟩ [(0 ≤ ((i : Nat) : Int) ∧ ((i : Nat) : Int) < ((List.length fds : Nat) : Int)), (0 ≤ ((i : Nat) : Int) ∧ ((i : Nat) : Int) < ((List.length fds : Nat) : Int)), ((((bits .and .i64 (Dep.From (List.getD fds i Dep.zero)) set_1) == (Dep.From (List.getD fds i Dep.zero))) = true) → ((((bits .and .i64 (Dep.From (List.getD fds i Dep.zero)) set_1) == (Dep.From (List.getD fds i Dep.zero))) = true))), ((((bits .and .i64 (Dep.From (List.getD fds i Dep.zero)) set_1) == (Dep.From (List.getD fds i Dep.zero))) = true) → ((((bits .and .i64 (Dep.From (List.getD fds i Dep.zero)) set_1) == (Dep.From (List.getD fds i Dep.zero))) = true))), ((((bits .and .i64 (Dep.From (List.getD fds i Dep.zero)) set_1) == (Dep.From (List.getD fds i Dep.zero))) = true) → (0 ≤ ((i : Nat) : Int) ∧ ((i : Nat) : Int) < ((List.length fds : Nat) : Int))), ((((bits .and .i64 (Dep.From (List.getD fds i Dep.zero)) set_1) == (Dep.From (List.getD fds i Dep.zero))) = true) → ((((bits .and .i64 (Dep.From (List.getD fds i Dep.zero)) set_1) == (Dep.From (List.getD fds i Dep.zero))) = true))), ((((bits .and .i64 (Dep.From (List.getD fds i Dep.zero)) set_1) == (Dep.From (List.getD fds i Dep.zero))) = true) → ((((bits .and .i64 (Dep.From (List.getD fds i Dep.zero)) set_1) == (Dep.From (List.getD fds i Dep.zero))) = true))), ((((bits .and .i64 (Dep.From (List.getD fds i Dep.zero)) set_1) == (Dep.From (List.getD fds i Dep.zero))) = true) → ((((bits .and .i64 (Dep.From (List.getD fds i Dep.zero)) set_1) == (Dep.From (List.getD fds i Dep.zero))) = true))), ((((bits .and .i64 (Dep.From (List.getD fds i Dep.zero)) set_1) == (Dep.From (List.getD fds i Dep.zero))) = true) → ((((bits .and .i64 (Dep.From (List.getD fds i Dep.zero)) set_1) == (Dep.From (List.getD fds i Dep.zero))) = true))), ((((bits .and .i64 (Dep.From (List.getD fds i Dep.zero)) set_1) == (Dep.From (List.getD fds i Dep.zero))) = true) → ((((bits .and .i64 (Dep.From (List.getD fds i Dep.zero)) set_1) == (Dep.From (List.getD fds i Dep.zero))) = true))), ((((bits .and .i64 (Dep.From (List.getD fds i Dep.zero)) set_1) == (Dep.From (List.getD fds i Dep.zero))) = true) → ((((bits .and .i64 (Dep.From (List.getD fds i Dep.zero)) set_1) == (Dep.From (List.getD fds i Dep.zero))) = true))), ((((bits .and .i64 (Dep.From (List.getD fds i Dep.zero)) set_1) == (Dep.From (List.getD fds i Dep.zero))) = true) → (0 ≤ ((i : Nat) : Int) ∧ ((i : Nat) : Int) < ((List.length fds : Nat) : Int))), ((((bits .and .i64 (Dep.From (List.getD fds i Dep.zero)) set_1) == (Dep.From (List.getD fds i Dep.zero))) = true) → ((((bits .and .i64 (Dep.From (List.getD fds i Dep.zero)) set_1) == (Dep.From (List.getD fds i Dep.zero))) = true))), ((((bits .and .i64 (Dep.From (List.getD fds i Dep.zero)) set_1) == (Dep.From (List.getD fds i Dep.zero))) = true) → ((((bits .and .i64 (Dep.From (List.getD fds i Dep.zero)) set_1) == (Dep.From (List.getD fds i Dep.zero))) = true))), ((((bits .and .i64 (Dep.From (List.getD fds i Dep.zero)) set_1) == (Dep.From (List.getD fds i Dep.zero))) = true) → ((((bits .and .i64 (Dep.From (List.getD fds i Dep.zero)) set_1) == (Dep.From (List.getD fds i Dep.zero))) = true))), ((((bits .and .i64 (Dep.From (List.getD fds i Dep.zero)) set_1) == (Dep.From (List.getD fds i Dep.zero))) = true) → ((((bits .and .i64 (Dep.From (List.getD fds i Dep.zero)) set_1) == (Dep.From (List.getD fds i Dep.zero))) = true))), ((((bits .and .i64 (Dep.From (List.getD fds i Dep.zero)) set_1) == (Dep.From (List.getD fds i Dep.zero))) = true) → ((((bits .and .i64 (Dep.From (List.getD fds i Dep.zero)) set_1) == (Dep.From (List.getD fds i Dep.zero))) = true)))] ?_ ?_))))
       ·
        refine ⟨?_, ?_, ?_, ?_, ?_, ?_, ?_, ?_, ?_, ?_, ?_, ?_, ?_, ?_, ?_, ?_, ?_, trivial⟩
        ·
         first | omega | (dsimp only; omega) | (simp only [lens] at *; omega)
        ·
         first | omega | (dsimp only; omega) | (simp only [lens] at *; omega)
        ·
         intro g154
         have g154p0 : (bits .and .i64 (Dep.From (List.getD fds i Dep.zero)) set_1) = (Dep.From (List.getD fds i Dep.zero)) := (Go.Am.beq_pos g154)
         first | assumption | exact ⟨by assumption, by assumption⟩
        ·
         intro g155
         have g155p0 : (bits .and .i64 (Dep.From (List.getD fds i Dep.zero)) set_1) = (Dep.From (List.getD fds i Dep.zero)) := (Go.Am.beq_pos g155)
         first | assumption | exact ⟨by assumption, by assumption⟩
        ·
         intro g156
         have g156p0 : (bits .and .i64 (Dep.From (List.getD fds i Dep.zero)) set_1) = (Dep.From (List.getD fds i Dep.zero)) := (Go.Am.beq_pos g156)
         first | omega | (dsimp only; omega) | (simp only [lens] at *; omega)
        ·
         intro g157
         have g157p0 : (bits .and .i64 (Dep.From (List.getD fds i Dep.zero)) set_1) = (Dep.From (List.getD fds i Dep.zero)) := (Go.Am.beq_pos g157)
         first | assumption | exact ⟨by assumption, by assumption⟩
        ·
         intro g158
         have g158p0 : (bits .and .i64 (Dep.From (List.getD fds i Dep.zero)) set_1) = (Dep.From (List.getD fds i Dep.zero)) := (Go.Am.beq_pos g158)
         first | assumption | exact ⟨by assumption, by assumption⟩
        ·
         intro g159
         have g159p0 : (bits .and .i64 (Dep.From (List.getD fds i Dep.zero)) set_1) = (Dep.From (List.getD fds i Dep.zero)) := (Go.Am.beq_pos g159)
         first | assumption | exact ⟨by assumption, by assumption⟩
        ·
         intro g160
         have g160p0 : (bits .and .i64 (Dep.From (List.getD fds i Dep.zero)) set_1) = (Dep.From (List.getD fds i Dep.zero)) := (Go.Am.beq_pos g160)
         first | assumption | exact ⟨by assumption, by assumption⟩
        ·
         intro g161
         have g161p0 : (bits .and .i64 (Dep.From (List.getD fds i Dep.zero)) set_1) = (Dep.From (List.getD fds i Dep.zero)) := (Go.Am.beq_pos g161)
         first | assumption | exact ⟨by assumption, by assumption⟩
        ·
         intro g162
         have g162p0 : (bits .and .i64 (Dep.From (List.getD fds i Dep.zero)) set_1) = (Dep.From (List.getD fds i Dep.zero)) := (Go.Am.beq_pos g162)
         first | assumption | exact ⟨by assumption, by assumption⟩
        ·
         intro g163
         have g163p0 : (bits .and .i64 (Dep.From (List.getD fds i Dep.zero)) set_1) = (Dep.From (List.getD fds i Dep.zero)) := (Go.Am.beq_pos g163)
         first | omega | (dsimp only; omega) | (simp only [lens] at *; omega)
        ·
         intro g164
         have g164p0 : (bits .and .i64 (Dep.From (List.getD fds i Dep.zero)) set_1) = (Dep.From (List.getD fds i Dep.zero)) := (Go.Am.beq_pos g164)
         first | assumption | exact ⟨by assumption, by assumption⟩
        ·
         intro g165
         have g165p0 : (bits .and .i64 (Dep.From (List.getD fds i Dep.zero)) set_1) = (Dep.From (List.getD fds i Dep.zero)) := (Go.Am.beq_pos g165)
         first | assumption | exact ⟨by assumption, by assumption⟩
        ·
         intro g166
         have g166p0 : (bits .and .i64 (Dep.From (List.getD fds i Dep.zero)) set_1) = (Dep.From (List.getD fds i Dep.zero)) := (Go.Am.beq_pos g166)
         first | assumption | exact ⟨by assumption, by assumption⟩
        ·
         intro g167
         have g167p0 : (bits .and .i64 (Dep.From (List.getD fds i Dep.zero)) set_1) = (Dep.From (List.getD fds i Dep.zero)) := (Go.Am.beq_pos g167)
         first | assumption | exact ⟨by assumption, by assumption⟩
        ·
         intro g168
         have g168p0 : (bits .and .i64 (Dep.From (List.getD fds i Dep.zero)) set_1) = (Dep.From (List.getD fds i Dep.zero)) := (Go.Am.beq_pos g168)
         first | assumption | exact ⟨by assumption, by assumption⟩
       refine AW.cd (bif ((bits .and .i64 (Dep.From (List.getD fds i Dep.zero)) set_1) == (Dep.From (List.getD fds i Dep.zero))) then ((bits .and .i64 (Dep.To (List.getD fds i Dep.zero)) set_1) != (Dep.To (List.getD fds i Dep.zero))) else false) ?_ ?_
       ·
        intro h169
        have h169q : ((bits .and .i64 (Dep.From (List.getD fds i Dep.zero)) set_1) = (Dep.From (List.getD fds i Dep.zero))) ∧ ((bits .and .i64 (Dep.To (List.getD fds i Dep.zero)) set_1) ≠ (Dep.To (List.getD fds i Dep.zero))) := (And.imp (fun h => (Go.Am.beq_pos h)) (fun h => (Go.Am.bne_pos h)) (Go.Am.and_pos h169))
        have e170 := e153.trans (Go.Am.bif_t h169)
        refine AW.seq (AW.r0 hC [0, 1, 6] [] ⟨[(0, .data (.slice (.named 0)) (fds : List Dep)), (1, .int .i64 (bits .or .i64 set_1 (Dep.To (List.getD fds i Dep.zero)))), (6, .int .i64 ((i : Nat) : Int))], []⟩ [(0 ≤ ((i : Nat) : Int) ∧ ((i : Nat) : Int) < ((List.length fds : Nat) : Int))] ?_ ?_)
        ·
         refine ⟨?_, trivial⟩
         ·
          first | omega | (dsimp only; omega) | (simp only [lens] at *; omega)
        refine AW.r1 hC [0, 1, 5, 6] [] ⟨[(0, .data (.slice (.named 0)) (fds : List Dep)), (1, .int .i64 (bits .or .i64 set_1 (Dep.To (List.getD fds i Dep.zero)))), (5, .bool true), (6, .int .i64 ((i : Nat) : Int))], []⟩ ?_
        refine AW.r0 hC [0, 1, 5, 6] [] ⟨[(0, .data (.slice (.named 0)) (fds : List Dep)), (1, .int .i64 (bits .or .i64 set_1 (Dep.To (List.getD fds i Dep.zero)))), (5, .bool true), (6, .int .i64 ((i + 1 : Nat) : Int))], []⟩ [(-9223372036854775808 ≤ ((i + 1 : Nat) : Int) ∧ ((i + 1 : Nat) : Int) ≤ 9223372036854775807)] ?_ ?_
        ·
         refine ⟨?_, trivial⟩
         ·
          first | omega | (dsimp only; omega) | (simp only [lens] at *; omega)
        refine AW.back (x := (set_1, changed1, i)) ((bits .or .i64 set_1 (Dep.To (List.getD fds i Dep.zero))), true, i + 1) (by kernel_rfl) ⟨?_, k151q, ?_, e170⟩ ?_
        ·
         show (0 ≤ (bits .or .i64 set_1 (Dep.To (List.getD fds i Dep.zero))) ∧ (bits .or .i64 set_1 (Dep.To (List.getD fds i Dep.zero))) < 64) ∧ set_ ≤ (bits .or .i64 set_1 (Dep.To (List.getD fds i Dep.zero))) ∧ (true = true → set_ < (bits .or .i64 set_1 (Dep.To (List.getD fds i Dep.zero))))
         have f := hf (by omega)
         have h1 := or64 hI1.1.1 hI1.1.2 f.2.1 f.2.2
         have h2 := or64More hI1.1.1 hI1.1.2 f.2.1 f.2.2 h169q.2
         exact ⟨⟨by omega, by omega⟩, by omega, fun _ => by omega⟩
        ·
         show (List.length fds) - (i + 1) < k151q
         first | omega | (simp only [lens]; omega)
        ·
         show (List.length fds) - (i + 1) < (List.length fds) - i
         first | omega | (simp only [lens]; omega)
       ·
        intro h171
        have h171q : ((bits .and .i64 (Dep.From (List.getD fds i Dep.zero)) set_1) ≠ (Dep.From (List.getD fds i Dep.zero))) ∨ ((bits .and .i64 (Dep.To (List.getD fds i Dep.zero)) set_1) = (Dep.To (List.getD fds i Dep.zero))) := (Or.imp (fun h => (Go.Am.beq_neg h)) (fun h => (Go.Am.bne_neg h)) (Go.Am.and_neg h171))
        have e172 := e153.trans (Go.Am.bif_f h171)
        refine AW.kp [0, 1, 5, 6] [] ⟨[(0, .data (.slice (.named 0)) (fds : List Dep)), (1, .int .i64 set_1), (5, .bool changed1), (6, .int .i64 ((i : Nat) : Int))], []⟩ ?_
        refine AW.skip (AW.r0 hC [0, 1, 5, 6] [] ⟨[(0, .data (.slice (.named 0)) (fds : List Dep)), (1, .int .i64 set_1), (5, .bool changed1), (6, .int .i64 ((i + 1 : Nat) : Int))], []⟩ [(-9223372036854775808 ≤ ((i + 1 : Nat) : Int) ∧ ((i + 1 : Nat) : Int) ≤ 9223372036854775807)] ?_ ?_)
        ·
         refine ⟨?_, trivial⟩
         ·
          first | omega | (dsimp only; omega) | (simp only [lens] at *; omega)
        refine AW.back (x := (set_1, changed1, i)) (set_1, changed1, i + 1) (by kernel_rfl) ⟨?_, k151q, ?_, e172⟩ ?_
        ·
         show (0 ≤ set_1 ∧ set_1 < 64) ∧ set_ ≤ set_1 ∧ (changed1 = true → set_ < set_1)
         first | assumption | exact trivial | (refine ⟨?_, ?_⟩ <;> first | omega | (simp only [lens] at *; omega)) | omega | (simp only [lens] at *; omega)
        ·
         show (List.length fds) - (i + 1) < k151q
         first | omega | (simp only [lens]; omega)
        ·
         show (List.length fds) - (i + 1) < (List.length fds) - i
         first | omega | (simp only [lens]; omega)
      ·
       intro h173
       have h173q : ¬ (((i : Nat) : Int) < ((List.length fds : Nat) : Int)) := (of_decide_eq_false h173)
       have e174 := e150.trans (Go.Am.bif_f h173)
       refine AW.kp [0, 1, 5] [] ⟨[(0, .data (.slice (.named 0)) (fds : List Dep)), (1, .int .i64 set_1), (5, .bool changed1)], []⟩ ?_
       refine AW.exit ?_
       refine AW.meet (set_1, changed1) (by kernel_rfl) ⟨?_, e174⟩
       show (0 ≤ set_1 ∧ set_1 < 64) ∧ set_ ≤ set_1 ∧ (changed1 = true → set_ < set_1)
       first | assumption | exact trivial | omega
    ·
     intro x hR
     obtain ⟨set_1, changed1⟩ := x
     obtain ⟨hJ1, e175⟩ := hR
     replace hJ1 : (0 ≤ set_1 ∧ set_1 < 64) ∧ set_ ≤ set_1 ∧ (changed1 = true → set_ < set_1) := hJ1
     have e176 := e124.trans (Go.Am.then_eq e175)
     refine AW.back (x := (set_, changed)) (set_1, changed1) (by kernel_rfl) ⟨?_, k122q, ?_, e176⟩ ?_
     ·
      show 0 ≤ set_1 ∧ set_1 < 64
      exact hJ1.1
     ·
      show 2 * Int.toNat (64 - set_1) + (bif changed1 then 1 else 0) < k122q
      have := hJ1.2
      subst h123q
      cases changed1 <;> simp only [cond_true, cond_false] at * <;> simp at this <;> omega
     ·
      show 2 * Int.toNat (64 - set_1) + (bif changed1 then 1 else 0) < 2 * Int.toNat (64 - set_) + (bif changed then 1 else 0)
      have := hJ1.2
      subst h123q
      cases changed1 <;> simp only [cond_true, cond_false] at * <;> simp at this <;> omega
   ·
    intro h177
    have h177q : changed = false := h177
    have e178 := e121.trans (Go.Am.bif_f h177)
    refine AW.kp [1] [] ⟨[(1, .int .i64 set_)], []⟩ ?_
    refine AW.exit ?_
    refine AW.meet set_ (by kernel_rfl) ⟨?_, e178⟩
    show 0 ≤ set_ ∧ set_ < 64
    first | assumption | exact trivial | omega
 ·
  intro set_ hR
  obtain ⟨hJ0, e179⟩ := hR
  replace hJ0 : 0 ≤ set_ ∧ set_ < 64 := hJ0
  have e180 := e0.trans (Go.Am.then_eq e179)
  refine AW.seq (AW.r1 hC [4] [] ⟨[(4, .int .i64 set_)], []⟩ ?_)
  exact AW.ret (AW.retE (β := Int) (fun v => [⟨(.int .i64), v⟩]) (fun v => []) (v := set_) e180 (by kernel_rfl) rfl rfl)

def iimplies (fds : List Dep) (f : Dep) : Bool := (contains (closure fds (Dep.From f)) (Dep.To f))

def iimplies_sp : FnSpec := mkSpec [.val (.slice (.named 0)), .val (.named 0)] [.val .bool] (fun (fds : List Dep) (f : Dep) => (0 ≤ f.From ∧ f.From < 64) ∧ ∀ h ∈ fds, (0 ≤ h.From ∧ h.From < 64) ∧ (0 ≤ h.To ∧ h.To < 64)) (fun (fds : List Dep) (f : Dep) => [⟨.bool, (iimplies fds f)⟩])

theorem iimplies_ok : FnOK Try.prog 64 iimplies_sp := by
 have hC : CtxOK Try.prog (mkCtx tyL [(108, contains_sp), (109, closure_sp)]) := CtxOK.cons contains_ok (CtxOK.cons closure_ok (CtxOK.nil tyOK))
 have hM : Try.prog.follows .mixedOrders = true := Try.checked.mixed
 refine FnOK.of_body Try.func64 (by kernel_rfl) rfl (C := (mkCtx tyL [(108, contains_sp), (109, closure_sp)])) hC.ty (by kernel_rfl) ?_
 intro (fds : List Dep) (f : Dep) hwf hpre E
 have hpre : (0 ≤ f.From ∧ f.From < 64) ∧ ∀ h ∈ fds, (0 ≤ h.From ∧ h.From < 64) ∧ (0 ≤ h.To ∧ h.To < 64) := hpre
 have hw_fds : Wf ⟨(.slice (.named 0)), (fds : List Dep)⟩ := hwf _ (List.Mem.head _)
 have hl_fds : ((List.length fds : Nat) : Int) ≤ 9223372036854775807 := hw_fds.len
 have hw_f : Wf ⟨(.named 0), (f : Dep)⟩ := hwf _ (List.Mem.tail _ (List.Mem.head _))
 have hr_f_From : -9223372036854775808 ≤ Dep.From f ∧ Dep.From f ≤ 9223372036854775807 := (hw_f.field (tv := ⟨(.int .i64), Dep.From f⟩) (List.Mem.head _)).int_inv
 have hr_f_To : -9223372036854775808 ≤ Dep.To f ∧ Dep.To f ≤ 9223372036854775807 := (hw_f.field (tv := ⟨(.int .i64), Dep.To f⟩) (List.Mem.tail _ (List.Mem.head _))).int_inv
 have e0 : iimplies fds f = iimplies fds f := rfl
 refine AW.seq (AW.r1 hC [0, 3] [12] ⟨[(0, .data (.slice (.named 0)) (fds : List Dep)), (3, .ref 12 1 0)], [(12, .box 1 [.int .i64 (Dep.From f), .int .i64 (Dep.To f)])]⟩ ?_)
 refine AW.seq (AW.d0 hC hM [4] [] ⟨[(4, .bool (contains (closure fds (Dep.From f)) (Dep.To f)))], []⟩ [((0 ≤ (Dep.From f) ∧ (Dep.From f) < 64) ∧ ∀ f ∈ fds, (0 ≤ f.From ∧ f.From < 64) ∧ (0 ≤ f.To ∧ f.To < 64)), (True)] ?_ ?_)
 ·
  refine ⟨?_, ?_, trivial⟩
  ·
   exact hpre
  ·
   trivial
 exact AW.ret (AW.retE (β := Bool) (fun v => [⟨.bool, v⟩]) (fun v => []) (v := (contains (closure fds (Dep.From f)) (Dep.To f))) e0 (by kernel_rfl) rfl rfl)

def implies (fds : List Dep) (f : Dep) : Bool := ((bits .and .i64 (closureOf fds (Dep.From f)) (Dep.To f)) == (Dep.To f))

def implies_sp : FnSpec := mkSpec [.val (.slice (.named 0)), .val (.named 0)] [.val .bool] (fun (fds : List Dep) (f : Dep) => (0 ≤ f.From ∧ f.From < 64) ∧ ∀ h ∈ fds, (0 ≤ h.From ∧ h.From < 64) ∧ (0 ≤ h.To ∧ h.To < 64)) (fun (fds : List Dep) (f : Dep) => [⟨.bool, (implies fds f)⟩])

theorem implies_ok : FnOK Try.prog 66 implies_sp := by
 have hC : CtxOK Try.prog (mkCtx tyL [(110, closureOf_sp)]) := CtxOK.cons closureOf_ok (CtxOK.nil tyOK)
 have hM : Try.prog.follows .mixedOrders = true := Try.checked.mixed
 refine FnOK.of_body Try.func66 (by kernel_rfl) rfl (C := (mkCtx tyL [(110, closureOf_sp)])) hC.ty (by kernel_rfl) ?_
 intro (fds : List Dep) (f : Dep) hwf hpre E
 have hpre : (0 ≤ f.From ∧ f.From < 64) ∧ ∀ h ∈ fds, (0 ≤ h.From ∧ h.From < 64) ∧ (0 ≤ h.To ∧ h.To < 64) := hpre
 have hw_fds : Wf ⟨(.slice (.named 0)), (fds : List Dep)⟩ := hwf _ (List.Mem.head _)
 have hl_fds : ((List.length fds : Nat) : Int) ≤ 9223372036854775807 := hw_fds.len
 have hw_f : Wf ⟨(.named 0), (f : Dep)⟩ := hwf _ (List.Mem.tail _ (List.Mem.head _))
 have hr_f_From : -9223372036854775808 ≤ Dep.From f ∧ Dep.From f ≤ 9223372036854775807 := (hw_f.field (tv := ⟨(.int .i64), Dep.From f⟩) (List.Mem.head _)).int_inv
 have hr_f_To : -9223372036854775808 ≤ Dep.To f ∧ Dep.To f ≤ 9223372036854775807 := (hw_f.field (tv := ⟨(.int .i64), Dep.To f⟩) (List.Mem.tail _ (List.Mem.head _))).int_inv
 have e0 : implies fds f = implies fds f := rfl
 refine AW.seq (AW.r1 hC [0, 3] [12] ⟨[(0, .data (.slice (.named 0)) (fds : List Dep)), (3, .ref 12 1 0)], [(12, .box 1 [.int .i64 (Dep.From f), .int .i64 (Dep.To f)])]⟩ ?_)
 refine AW.seq (AW.d0 hC hM [4] [] ⟨[(4, .bool ((bits .and .i64 (closureOf fds (Dep.From f)) (Dep.To f)) == (Dep.To f)))], []⟩ [((0 ≤ (Dep.From f) ∧ (Dep.From f) < 64) ∧ ∀ f ∈ fds, (0 ≤ f.From ∧ f.From < 64) ∧ (0 ≤ f.To ∧ f.To < 64))] ?_ ?_)
 ·
  refine ⟨?_, trivial⟩
  ·
   exact hpre
 exact AW.ret (AW.retE (β := Bool) (fun v => [⟨.bool, v⟩]) (fun v => []) (v := ((bits .and .i64 (closureOf fds (Dep.From f)) (Dep.To f)) == (Dep.To f))) e0 (by kernel_rfl) rfl rfl)

end
end Go.Proofs.Ytbhgdogogpihhaa
