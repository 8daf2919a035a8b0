/-
  A part of the proof of this claim (AvL): what functions of the program compute, and plain facts of that. No conditions.
-/
import Derived.Test.YtbcgmoaipneoeaaAvK
set_option linter.all false
namespace Go.Proofs.Ytbcgmoaipneoeaa
open Go Go.Am
noncomputable section

theorem size_fuel : ∀ (f g : Nat) (x : Pln), SizeOf.sizeOf x < f → SizeOf.sizeOf x < g → planSize_r f x = planSize_r g x := by
 intro f
 induction f with
 | zero => intro g x h; omega
 | succ f ih =>
  intro g x hf hg
  obtain ⟨g, rfl⟩ : ∃ g', g = g' + 1 := ⟨g - 1, by omega⟩
  unfold planSize_r Go.Am.andThen
  have key : ∀ (k i : Nat) (n : Int), planSize_l0 (planSize_r f) x k n i = planSize_l0 (planSize_r g) x k n i := by
   intro k
   induction k with
   | zero => intro i n; rfl
   | succ k ihk =>
    intro i n
    unfold planSize_l0
    by_cases hi : ((i : Nat) : Int) < ((List.length (Pln.Kids x) : Nat) : Int)
    ·
     have hk := pkid_lt (t := x) (i := i) (by omega)
     rw [decide_eq_true hi, cond_true, cond_true, ihk, ih g _ (by omega) (by omega)]
    ·
     rw [decide_eq_false hi, cond_false, cond_false]
  exact key _ _ _

theorem size_l (x : Pln) : planSize x = planSize_l0 planSize x (x.Kids.length - 0 + 1) 1 0 := by
 have key : ∀ (k i : Nat) (n : Int), planSize_l0 (planSize_r (SizeOf.sizeOf x)) x k n i = planSize_l0 planSize x k n i := by
  intro k
  induction k with
  | zero => intro i n; rfl
  | succ k ihk =>
   intro i n
   unfold planSize_l0
   by_cases hi : ((i : Nat) : Int) < ((List.length (Pln.Kids x) : Nat) : Int)
   ·
    have hk := pkid_lt (t := x) (i := i) (by omega)
    rw [decide_eq_true hi, cond_true, cond_true, ihk, show planSize_r (SizeOf.sizeOf x) (List.getD (Pln.Kids x) i Pln.zero) = planSize (List.getD (Pln.Kids x) i Pln.zero) from size_fuel _ _ _ hk (Nat.lt_succ_self _)]
   ·
    rw [decide_eq_false hi, cond_false, cond_false]
 exact key _ _ _

theorem size_flat {x : Pln} (h : x.Kids.length = 0) : planSize x = 1 := by
 rw [size_l, h]
 show planSize_l0 planSize x 1 1 0 = 1
 unfold planSize_l0
 rw [h]
 rfl

theorem size_in (x : Pln) : wq (planSize x) = planSize x := by
 have key : ∀ (k i : Nat) (n : Int), wq n = n → wq (planSize_l0 planSize x k n i) = planSize_l0 planSize x k n i := by
  intro k
  induction k with
  | zero => intro i n h; exact h
  | succ k ihk =>
   intro i n h
   unfold planSize_l0
   by_cases hi : ((i : Nat) : Int) < ((List.length (Pln.Kids x) : Nat) : Int)
   ·
    rw [decide_eq_true hi, cond_true]
    refine ihk _ _ ?_
    rw [← wq_eq]
    exact wq_in _ (wq_b _)
   ·
    rw [decide_eq_false hi, cond_false]
    exact h
 rw [size_l]
 exact key _ _ _ (wq_in 1 (by decide))

theorem lev {ws : List Int} {l : Nat} {x : Pln} (h : WL ws l x) {S : Nat → Nat → Int → Int} {C : Nat → Int → Int}
  (hS : ∀ k i n, S (k + 1) i n = bif decide (((i : Nat) : Int) < ((List.length (Pln.Kids x) : Nat) : Int)) then S k (i + 1) (C i n) else n)
  (hC : ∀ i n, i < x.Kids.length → C i n = wq (n + planSize (List.getD (Pln.Kids x) i Pln.zero))) (a : Int) : S (x.Kids.length - 0 + 1) 0 (wq (a + 1)) = wq (a + planSize x) := by
 have key : ∀ (k i : Nat) (m : Int), x.Kids.length - i < k → S k i (wq (a + m)) = wq (a + planSize_l0 planSize x k m i) := by
  intro k
  induction k with
  | zero => intro i m h; omega
  | succ k ih =>
   intro i m hk
   rw [hS]
   unfold planSize_l0
   by_cases hi : ((i : Nat) : Int) < ((List.length (Pln.Kids x) : Nat) : Int)
   ·
    rw [decide_eq_true hi, cond_true, cond_true, ← wq_eq (m + planSize (List.getD (Pln.Kids x) i Pln.zero)), hC i _ (by omega), wq_add, Int.add_assoc, ← wq_add2, ih _ _ (by omega)]
   ·
    rw [decide_eq_false hi, cond_false, cond_false]
 rw [key _ _ _ (by omega), ← size_l]

theorem ps7 (p : Pln) (ws : List Int) (a0 a1 a2 a3 a4 a5 a6 : Nat) (h : WL ws 1 (q7 p a0 a1 a2 a3 a4 a5 a6)) (n : Int) : iPlanSize_l7 p a0 a1 a2 a3 a4 a5 a6 (List.length (Pln.Kids (q7 p a0 a1 a2 a3 a4 a5 a6)) - 0 + 1) 0 (wq (n + 1)) = wq (n + planSize (q7 p a0 a1 a2 a3 a4 a5 a6)) :=
 lev h (S := fun k i n => iPlanSize_l7 p a0 a1 a2 a3 a4 a5 a6 k i n) (C := fun i n => wq (n + 1)) (fun _ _ _ => rfl) (fun i n hi => by rw [size_flat (h.kd hi).flat]) n

theorem ps6 (p : Pln) (ws : List Int) (a0 a1 a2 a3 a4 a5 : Nat) (h : WL ws 2 (q6 p a0 a1 a2 a3 a4 a5)) (n : Int) : iPlanSize_l6 p a0 a1 a2 a3 a4 a5 (List.length (Pln.Kids (q6 p a0 a1 a2 a3 a4 a5)) - 0 + 1) 0 (wq (n + 1)) = wq (n + planSize (q6 p a0 a1 a2 a3 a4 a5)) :=
 lev h (S := fun k i n => iPlanSize_l6 p a0 a1 a2 a3 a4 a5 k i n) (C := fun i n => iPlanSize_l7 p a0 a1 a2 a3 a4 a5 i (List.length (Pln.Kids (List.getD (Pln.Kids (q6 p a0 a1 a2 a3 a4 a5)) i Pln.zero)) - 0 + 1) 0 (wq (n + 1))) (fun _ _ _ => rfl) (fun i n hi => ps7 p ws a0 a1 a2 a3 a4 a5 i (h.kd hi) n) n

theorem ps5 (p : Pln) (ws : List Int) (a0 a1 a2 a3 a4 : Nat) (h : WL ws 3 (q5 p a0 a1 a2 a3 a4)) (n : Int) : iPlanSize_l5 p a0 a1 a2 a3 a4 (List.length (Pln.Kids (q5 p a0 a1 a2 a3 a4)) - 0 + 1) 0 (wq (n + 1)) = wq (n + planSize (q5 p a0 a1 a2 a3 a4)) :=
 lev h (S := fun k i n => iPlanSize_l5 p a0 a1 a2 a3 a4 k i n) (C := fun i n => iPlanSize_l6 p a0 a1 a2 a3 a4 i (List.length (Pln.Kids (List.getD (Pln.Kids (q5 p a0 a1 a2 a3 a4)) i Pln.zero)) - 0 + 1) 0 (wq (n + 1))) (fun _ _ _ => rfl) (fun i n hi => ps6 p ws a0 a1 a2 a3 a4 i (h.kd hi) n) n

theorem ps4 (p : Pln) (ws : List Int) (a0 a1 a2 a3 : Nat) (h : WL ws 4 (q4 p a0 a1 a2 a3)) (n : Int) : iPlanSize_l4 p a0 a1 a2 a3 (List.length (Pln.Kids (q4 p a0 a1 a2 a3)) - 0 + 1) 0 (wq (n + 1)) = wq (n + planSize (q4 p a0 a1 a2 a3)) :=
 lev h (S := fun k i n => iPlanSize_l4 p a0 a1 a2 a3 k i n) (C := fun i n => iPlanSize_l5 p a0 a1 a2 a3 i (List.length (Pln.Kids (List.getD (Pln.Kids (q4 p a0 a1 a2 a3)) i Pln.zero)) - 0 + 1) 0 (wq (n + 1))) (fun _ _ _ => rfl) (fun i n hi => ps5 p ws a0 a1 a2 a3 i (h.kd hi) n) n

theorem ps3 (p : Pln) (ws : List Int) (a0 a1 a2 : Nat) (h : WL ws 5 (q3 p a0 a1 a2)) (n : Int) : iPlanSize_l3 p a0 a1 a2 (List.length (Pln.Kids (q3 p a0 a1 a2)) - 0 + 1) 0 (wq (n + 1)) = wq (n + planSize (q3 p a0 a1 a2)) :=
 lev h (S := fun k i n => iPlanSize_l3 p a0 a1 a2 k i n) (C := fun i n => iPlanSize_l4 p a0 a1 a2 i (List.length (Pln.Kids (List.getD (Pln.Kids (q3 p a0 a1 a2)) i Pln.zero)) - 0 + 1) 0 (wq (n + 1))) (fun _ _ _ => rfl) (fun i n hi => ps4 p ws a0 a1 a2 i (h.kd hi) n) n

theorem ps2 (p : Pln) (ws : List Int) (a0 a1 : Nat) (h : WL ws 6 (q2 p a0 a1)) (n : Int) : iPlanSize_l2 p a0 a1 (List.length (Pln.Kids (q2 p a0 a1)) - 0 + 1) 0 (wq (n + 1)) = wq (n + planSize (q2 p a0 a1)) :=
 lev h (S := fun k i n => iPlanSize_l2 p a0 a1 k i n) (C := fun i n => iPlanSize_l3 p a0 a1 i (List.length (Pln.Kids (List.getD (Pln.Kids (q2 p a0 a1)) i Pln.zero)) - 0 + 1) 0 (wq (n + 1))) (fun _ _ _ => rfl) (fun i n hi => ps3 p ws a0 a1 i (h.kd hi) n) n

theorem ps1 (p : Pln) (ws : List Int) (a0 : Nat) (h : WL ws 7 (q1 p a0)) (n : Int) : iPlanSize_l1 p a0 (List.length (Pln.Kids (q1 p a0)) - 0 + 1) 0 (wq (n + 1)) = wq (n + planSize (q1 p a0)) :=
 lev h (S := fun k i n => iPlanSize_l1 p a0 k i n) (C := fun i n => iPlanSize_l2 p a0 i (List.length (Pln.Kids (List.getD (Pln.Kids (q1 p a0)) i Pln.zero)) - 0 + 1) 0 (wq (n + 1))) (fun _ _ _ => rfl) (fun i n hi => ps2 p ws a0 i (h.kd hi) n) n

theorem ps0 (p : Pln) (ws : List Int) (h : WL ws 8 p) (n : Int) : iPlanSize_l0 p  (List.length (Pln.Kids p) - 0 + 1) 0 (wq (n + 1)) = wq (n + planSize p) :=
 lev h (S := fun k i n => iPlanSize_l0 p  k i n) (C := fun i n => iPlanSize_l1 p  i (List.length (Pln.Kids (List.getD (Pln.Kids p) i Pln.zero)) - 0 + 1) 0 (wq (n + 1))) (fun _ _ _ => rfl) (fun i n hi => ps1 p ws  i (h.kd hi) n) n

theorem size_eq (p : Pln) (ws : List Int) : iPlanSize p ws = PlanSize p ws := by
 unfold iPlanSize PlanSize
 rw [← iPlanWidth_eq]
 cases h : (iPlanWidth (Pln.mk (Pln.Kind p) (Pln.Table p) (Pln.Exprs p) (Pln.Cols p) (Pln.Kids p)) ws == 0) with
 | true => rfl
 | false =>
  rw [cond_false, cond_false]
  have h8 := WL.mk' (p := p) (ws := ws) (by simpa using h)
  rw [Pln.eta]
  show iPlanSize_l0 p (List.length (Pln.Kids p) - 0 + 1) 0 (wq (0 + 1)) = planSize p
  rw [ps0 p ws h8, Int.zero_add, size_in]

theorem FnExactPlanSize_law (p : Pln) (ws : List Int) : FnExactPlanSize p ws = true := by
 unfold FnExactPlanSize
 rw [Pln.eta, Pln.eta, size_eq, eqPlan_self, eqIntS_self]
 simp

end
end Go.Proofs.Ytbcgmoaipneoeaa
