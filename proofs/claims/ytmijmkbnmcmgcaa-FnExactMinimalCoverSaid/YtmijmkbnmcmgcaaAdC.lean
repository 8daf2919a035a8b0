/-
  A part of the proof of this claim (AdC): what functions of the program compute, and plain facts of that. No conditions.
-/
import Derived.Test.YtmijmkbnmcmgcaaAdL
set_option linter.all false
namespace Go.Proofs.Ytmijmkbnmcmgcaa
open Go Go.Am

/-! ### Sets of columns, and closures -/

def S6 (a : Int) : Prop := 0 ≤ a ∧ a < 64
def Sub6 (a b : Int) : Prop := bits .and .i64 a b = a
def has6 (a : Int) (i : Nat) : Bool := a.toNat.testBit i
def Dep6 (f : Dep) : Prop := S6 f.From ∧ S6 f.To
def Deps6 (fds : List Dep) : Prop := ∀ f ∈ fds, Dep6 f

theorem sub6_iff {a b : Int} (ha : S6 a) (hb : S6 b) : Sub6 a b ↔ ∀ i, has6 a i = true → has6 b i = true := by
 unfold Sub6 has6
 rw [(bits64 ha.1 ha.2 hb.1 hb.2).1]
 have h0 := ha.1
 constructor
 ·
  intro h i hi
  have e : a.toNat &&& b.toNat = a.toNat := by omega
  have := congrArg (fun x => x.testBit i) e
  simp only [Nat.testBit_and] at this
  rw [hi] at this
  simpa using this
 ·
  intro h
  have e : a.toNat &&& b.toNat = a.toNat := by
   apply Nat.eq_of_testBit_eq
   intro i
   rw [Nat.testBit_and]
   cases hi : a.toNat.testBit i with
   | false => rfl
   | true => simp [h i hi]
  rw [e]
  omega

theorem or6 {a b : Int} (ha : S6 a) (hb : S6 b) : S6 (bits .or .i64 a b) := by
 have := or64 ha.1 ha.2 hb.1 hb.2
 exact ⟨by have := ha.1; omega, this.2⟩

theorem has6_or {a b : Int} (ha : S6 a) (hb : S6 b) (i : Nat) : has6 (bits .or .i64 a b) i = (has6 a i || has6 b i) := by
 unfold has6
 rw [(bits64 ha.1 ha.2 hb.1 hb.2).2]
 simp [Nat.testBit_or]

theorem Sub6.refl {a : Int} (ha : S6 a) : Sub6 a a := (sub6_iff ha ha).2 fun _ h => h

theorem Sub6.trans {a b c : Int} (ha : S6 a) (hb : S6 b) (hc : S6 c) (h1 : Sub6 a b) (h2 : Sub6 b c) : Sub6 a c :=
 (sub6_iff ha hc).2 fun i h => (sub6_iff hb hc).1 h2 i ((sub6_iff ha hb).1 h1 i h)

theorem Sub6.left {a b : Int} (ha : S6 a) (hb : S6 b) : Sub6 a (bits .or .i64 a b) :=
 (sub6_iff ha (or6 ha hb)).2 fun i h => by rw [has6_or ha hb, h]; rfl

theorem Sub6.right {a b : Int} (ha : S6 a) (hb : S6 b) : Sub6 b (bits .or .i64 a b) :=
 (sub6_iff hb (or6 ha hb)).2 fun i h => by rw [has6_or ha hb, h]; simp

theorem Sub6.or {a b c : Int} (ha : S6 a) (hb : S6 b) (hc : S6 c) (h1 : Sub6 a c) (h2 : Sub6 b c) : Sub6 (bits .or .i64 a b) c :=
 (sub6_iff (or6 ha hb) hc).2 fun i h => by
  rw [has6_or ha hb] at h
  rcases Bool.or_eq_true_iff.1 h with h | h
  ·
   exact (sub6_iff ha hc).1 h1 i h
  ·
   exact (sub6_iff hb hc).1 h2 i h

theorem Sub6.le {a b : Int} (ha : S6 a) (hb : S6 b) (h : Sub6 a b) : a ≤ b := by
 unfold Sub6 at h
 rw [(bits64 ha.1 ha.2 hb.1 hb.2).1] at h
 have : a.toNat &&& b.toNat ≤ b.toNat := Nat.and_le_right
 have := hb.1
 omega

def Closed (fds : List Dep) (c : Int) : Prop := ∀ f ∈ fds, Sub6 f.From c → Sub6 f.To c

theorem round_spec {fds : List Dep} (hf : Deps6 fds) : ∀ (k : Nat) (s : Int) (c : Bool) (i : Nat), S6 s → fds.length - i < k →
  S6 (closureOf_l1 fds k s c i).1 ∧ Sub6 s (closureOf_l1 fds k s c i).1 ∧ (∀ d, S6 d → Closed fds d → Sub6 s d → Sub6 (closureOf_l1 fds k s c i).1 d) ∧
  ((closureOf_l1 fds k s c i).2 = false → c = false ∧ (closureOf_l1 fds k s c i).1 = s ∧ ∀ j, i ≤ j → j < fds.length → Sub6 (fds.getD j Dep.zero).From s → Sub6 (fds.getD j Dep.zero).To s) ∧
  ((closureOf_l1 fds k s c i).2 = true → c = true ∨ s < (closureOf_l1 fds k s c i).1) := by
 intro k
 induction k with
 | zero => intro s c i _ h; omega
 | succ k ih =>
  intro s c i hs hk
  unfold closureOf_l1
  by_cases hi : i < fds.length
  ·
   rw [show decide (((i : Nat) : Int) < ((List.length fds : Nat) : Int)) = true by simp; exact hi, cond_true]
   have hfi := hf _ (getD_mem fds i Dep.zero hi)
   generalize hg : fds.getD i Dep.zero = f at *
   by_cases h1 : bits .and .i64 f.From s = f.From
   ·
    by_cases h2 : bits .and .i64 f.To s = f.To
    ·
     rw [show (bif (bits .and .i64 f.From s == f.From) then (bits .and .i64 f.To s != f.To) else false) = false by simp [h1, h2], cond_false]
     obtain ⟨a1, a2, a3, a4, a5⟩ := ih s c (i + 1) hs (by omega)
     refine ⟨a1, a2, a3, fun h => ?_, a5⟩
     obtain ⟨b1, b2, b3⟩ := a4 h
     refine ⟨b1, b2, fun j hj hl => ?_⟩
     rcases Nat.eq_or_lt_of_le hj with rfl | hj
     ·
      rw [hg]; exact fun _ => h2
     ·
      exact b3 j (by omega) hl
    ·
     rw [show (bif (bits .and .i64 f.From s == f.From) then (bits .and .i64 f.To s != f.To) else false) = true by simp [h1, h2], cond_true]
     have hS := or6 hs hfi.2
     obtain ⟨a1, a2, a3, a4, a5⟩ := ih (bits .or .i64 s f.To) true (i + 1) hS (by omega)
     have hlt := or64More hs.1 hs.2 hfi.2.1 hfi.2.2 h2
     refine ⟨a1, (Sub6.left hs hfi.2).trans hs hS a1 a2, fun d hd hc hsd => a3 d hd hc (Sub6.or hs hfi.2 hd hsd (hc f ?_ ?_)), fun h => ?_, fun _ => .inr ?_⟩
     ·
      rw [← hg]; exact getD_mem fds i Dep.zero hi
     ·
      exact Sub6.trans hfi.1 hs hd h1 hsd
     ·
      have := (a4 h).1; cases this
     ·
      have := Sub6.le hS a1 a2; omega
   ·
    rw [show (bif (bits .and .i64 f.From s == f.From) then (bits .and .i64 f.To s != f.To) else false) = false by simp [h1], cond_false]
    obtain ⟨a1, a2, a3, a4, a5⟩ := ih s c (i + 1) hs (by omega)
    refine ⟨a1, a2, a3, fun h => ?_, a5⟩
    obtain ⟨b1, b2, b3⟩ := a4 h
    refine ⟨b1, b2, fun j hj hl => ?_⟩
    rcases Nat.eq_or_lt_of_le hj with rfl | hj
    ·
     rw [hg]; exact fun h' => absurd h' h1
    ·
     exact b3 j (by omega) hl
  ·
   rw [show decide (((i : Nat) : Int) < ((List.length fds : Nat) : Int)) = false by simp; omega, cond_false]
   refine ⟨hs, Sub6.refl hs, fun d _ _ h => h, fun h => ⟨h, rfl, fun j hj hl => by omega⟩, fun h => .inl h⟩

theorem rounds_spec {fds : List Dep} (hf : Deps6 fds) : ∀ (k : Nat) (s : Int) (c : Bool), S6 s → 2 * Int.toNat (64 - s) + (bif c then 1 else 0) < k → (c = false → Closed fds s) →
  S6 (closureOf_l0 fds k s c) ∧ Sub6 s (closureOf_l0 fds k s c) ∧ Closed fds (closureOf_l0 fds k s c) ∧ ∀ d, S6 d → Closed fds d → Sub6 s d → Sub6 (closureOf_l0 fds k s c) d := by
 intro k
 induction k with
 | zero => intro s c _ h; omega
 | succ k ih =>
  intro s c hs hk hc
  unfold closureOf_l0
  cases c with
  | false => exact ⟨hs, Sub6.refl hs, hc rfl, fun d _ _ h => h⟩
  | true =>
   simp only [cond_true] at hk ⊢
   obtain ⟨a1, a2, a3, a4, a5⟩ := round_spec hf ((List.length fds) - 0 + 1) s false 0 hs (by omega)
   generalize hr : closureOf_l1 fds ((List.length fds) - 0 + 1) s false 0 = r at *
   obtain ⟨s', c'⟩ := r
   simp only at a1 a2 a3 a4 a5
   show S6 (closureOf_l0 fds k s' c') ∧ Sub6 s (closureOf_l0 fds k s' c') ∧ Closed fds (closureOf_l0 fds k s' c') ∧ ∀ d, S6 d → Closed fds d → Sub6 s d → Sub6 (closureOf_l0 fds k s' c') d
   have hle := Sub6.le hs a1 a2
   have hs2 := hs.2
   have ha2 := a1.2
   obtain ⟨b1, b2, b3, b4⟩ := ih s' c' a1 (by
    cases c' with
    | false => simp only [cond_false]; omega
    | true =>
     rcases a5 rfl with h | h
     ·
      cases h
     ·
      simp only [cond_true]; omega) (fun h => by
    obtain ⟨_, e, h3⟩ := a4 h
    subst e
    intro f hm
    obtain ⟨j, hj, rfl⟩ := List.mem_iff_getElem.1 hm
    have := h3 j (Nat.zero_le _) hj
    rw [List.getD_eq_getElem?_getD, List.getElem?_eq_getElem hj] at this
    exact this)
   exact ⟨b1, a2.trans hs a1 b1 b2, b3, fun d hd hcd hsd => b4 d hd hcd (a3 d hd hcd hsd)⟩

theorem closure_spec {fds : List Dep} {s : Int} (hf : Deps6 fds) (hs : S6 s) :
  S6 (closureOf fds s) ∧ Sub6 s (closureOf fds s) ∧ Closed fds (closureOf fds s) ∧ ∀ d, S6 d → Closed fds d → Sub6 s d → Sub6 (closureOf fds s) d :=
 rounds_spec hf _ s true hs (by omega) (fun h => by cases h)

/-! ### Widths -/

def full (w : Int) : Int := (1 : Int) * 2 ^ w.toNat - 1

theorem has_full {w : Int} (hw : 1 ≤ w ∧ w ≤ 6) (i : Nat) : has6 (full w) i = decide (i < w.toNat) := by
 have e : (full w).toNat = 2 ^ w.toNat - 1 := by
  unfold full
  have : ((2 : Int) ^ w.toNat) = ((2 ^ w.toNat : Nat) : Int) := by push_cast; rfl
  rw [this]
  omega
 unfold has6
 rw [e, Nat.testBit_two_pow_sub_one]

theorem full6 {w : Int} (hw : 1 ≤ w ∧ w ≤ 6) : S6 (full w) := by
 have := pow64 (w := w) hw.2 (by omega)
 unfold full S6
 omega

theorem sub_full {w s : Int} (hw : 1 ≤ w ∧ w ≤ 6) (hs : S6 s) : Sub6 s (full w) ↔ s < 2 ^ w.toNat := by
 have hp : ((2 : Int) ^ w.toNat) = ((2 ^ w.toNat : Nat) : Int) := by push_cast; rfl
 constructor
 ·
  intro h
  have := Sub6.le hs (full6 hw) h
  unfold full at this
  omega
 ·
  intro h
  rw [sub6_iff hs (full6 hw)]
  intro i hi
  rw [has_full hw, decide_eq_true_eq]
  refine Decidable.byContradiction fun hn => ?_
  have : s.toNat.testBit i = false := Nat.testBit_lt_two_pow (Nat.lt_of_lt_of_le (m := 2 ^ w.toNat) (by have := hs.1; omega) (Nat.pow_le_pow_right (by decide) (by omega)))
  unfold has6 at hi
  rw [this] at hi
  cases hi

end Go.Proofs.Ytmijmkbnmcmgcaa
