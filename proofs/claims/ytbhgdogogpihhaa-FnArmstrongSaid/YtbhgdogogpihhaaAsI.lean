/-
  A part of the proof of this claim (AsI): what functions of the program compute, and plain facts of that. No conditions.
-/
import Derived.Test.YtbhgdogogpihhaaAsH
set_option linter.all false
namespace Go.Proofs.Ytbhgdogogpihhaa
open Go Go.Am

theorem has_nat (n c : Nat) : has (n : Int) (c : Int) = n.testBit c := by
 unfold has
 rw [Nat.testBit_eq_decide_div_mod_eq, Int.toNat_natCast, show ((n : Nat) : Int) / 2 ^ c % 2 = ((n / 2 ^ c % 2 : Nat) : Int) by push_cast; rfl]
 by_cases h : n / 2 ^ c % 2 = 1
 ·
  rw [h]; rfl
 ·
  rw [decide_eq_false h, beq_eq_false_iff_ne]
  omega

def S64 (s : Int) : Prop := 0 ≤ s ∧ s < 64

theorem has_or {a b : Int} (ha : S64 a) (hb : S64 b) (c : Nat) : has (bits .or .i64 a b) (c : Int) = (has a (c : Int) || has b (c : Int)) := by
 rw [(bits64 ha.1 ha.2 hb.1 hb.2).2, has_nat, Nat.testBit_or]
 obtain ⟨n, rfl⟩ := Int.eq_ofNat_of_zero_le ha.1
 obtain ⟨m, rfl⟩ := Int.eq_ofNat_of_zero_le hb.1
 rw [has_nat, has_nat, Int.toNat_natCast, Int.toNat_natCast]

theorem has_and {a b : Int} (ha : S64 a) (hb : S64 b) (c : Nat) : has (bits .and .i64 a b) (c : Int) = (has a (c : Int) && has b (c : Int)) := by
 rw [(bits64 ha.1 ha.2 hb.1 hb.2).1, has_nat, Nat.testBit_and]
 obtain ⟨n, rfl⟩ := Int.eq_ofNat_of_zero_le ha.1
 obtain ⟨m, rfl⟩ := Int.eq_ofNat_of_zero_le hb.1
 rw [has_nat, has_nat, Int.toNat_natCast, Int.toNat_natCast]

/-- part & set = part: what the part has the set has -/
theorem sub_of_and {p s : Int} (hp : S64 p) (hs : S64 s) (h : bits .and .i64 p s = p) {c : Nat} (hc : has p (c : Int) = true) : has s (c : Int) = true := by
 have := has_and hp hs c
 rw [h, hc] at this
 simpa using this.symm

theorem agree_sub {a b : List Val} {p s : Int} (hp : S64 p) (hs : S64 s) (h : bits .and .i64 p s = p) (ha : agree a b s = true) : agree a b p = true := by
 rw [agree_iff] at ha ⊢
 exact fun c hc hh => ha c hc (sub_of_and hp hs h hh)

theorem agree_or {a b : List Val} {p s : Int} (hp : S64 p) (hs : S64 s) (h1 : agree a b s = true) (h2 : agree a b p = true) : agree a b (bits .or .i64 s p) = true := by
 rw [agree_iff] at *
 intro c hc hh
 rw [has_or hs hp] at hh
 rcases Bool.or_eq_true _ _ ▸ hh with h | h
 ·
  exact h1 c hc h
 ·
  exact h2 c hc h

theorem S64.or {s t : Int} (hs : S64 s) (ht : S64 t) : S64 (bits .or .i64 s t) := by
 have := or64 hs.1 hs.2 ht.1 ht.2
 exact ⟨by have := hs.1; omega, this.2⟩

section
variable {fds : List Dep} {a b : List Val} (hf : ∀ f ∈ fds, S64 f.From ∧ S64 f.To) (hH : ∀ f ∈ fds, agree a b f.From = true → agree a b f.To = true)
include hf hH

theorem round_agree : ∀ (k : Nat) (s : Int) (c : Bool) (i : Nat), S64 s → agree a b s = true → S64 (closureOf_l1 fds k s c i).1 ∧ agree a b (closureOf_l1 fds k s c i).1 = true := by
 intro k
 induction k with
 | zero => intro s c i hs h; exact ⟨hs, h⟩
 | succ k ih =>
  intro s c i hs h
  unfold closureOf_l1
  by_cases hi : ((i : Nat) : Int) < ((List.length fds : Nat) : Int)
  ·
   rw [decide_eq_true hi, cond_true]
   have hm := getD_mem fds i Dep.zero (by omega)
   obtain ⟨h1, h2⟩ := hf _ hm
   cases hc : (bif ((bits .and .i64 (Dep.From (List.getD fds i Dep.zero)) s) == (Dep.From (List.getD fds i Dep.zero))) then ((bits .and .i64 (Dep.To (List.getD fds i Dep.zero)) s) != (Dep.To (List.getD fds i Dep.zero))) else false) with
   | false => exact ih _ _ _ hs h
   | true =>
    have hx := (and_pos hc).1
    have ht := hH _ hm (agree_sub h1 hs (beq_iff_eq.1 hx) h)
    exact ih _ _ _ (hs.or h2) (agree_or h2 hs h ht)
  ·
   rw [decide_eq_false hi, cond_false]
   exact ⟨hs, h⟩

theorem rounds_agree : ∀ (k : Nat) (s : Int) (c : Bool), S64 s → agree a b s = true → S64 (closureOf_l0 fds k s c) ∧ agree a b (closureOf_l0 fds k s c) = true := by
 intro k
 induction k with
 | zero => intro s c hs h; exact ⟨hs, h⟩
 | succ k ih =>
  intro s c hs h
  unfold closureOf_l0
  cases c with
  | false => exact ⟨hs, h⟩
  | true =>
   have := round_agree hf hH ((List.length fds) - 0 + 1) s false 0 hs h
   exact ih _ _ this.1 this.2

theorem closure_agree {s : Int} (hs : S64 s) (h : agree a b s = true) : S64 (closureOf fds s) ∧ agree a b (closureOf fds s) = true :=
 rounds_agree hf hH _ s true hs h
end

theorem agree_nil (s : Int) : agree [] [] s = true := agree_iff.2 fun c hc _ => absurd hc (Nat.not_lt_zero _)

theorem implies_same {fds : List Dep} {w : Int} {f : Dep} (hV : ValidDependencies fds w = true) (hd : depValid f w = true) : iimplies fds f = implies fds f := by
 have h64 := dep64 hV hd
 have hw := (ValidDependencies_iff.1 hV).1
 have hd' := depValid_iff.1 hd
 have ht : S64 f.To := ⟨hd'.2.1, pow_le64 hw hd'.2.2⟩
 unfold iimplies implies
 rw [closure_eq (inR_of_valid hV), contains_eq (by have := ht.1; omega) (by have := ht.2; omega)]
 have hc : S64 (closureOf fds f.From) := (closure_agree (a := []) (b := []) (fun h hm => h64.2 h hm) (fun h _ _ => agree_nil _) h64.1 (agree_nil _)).1
 rw [(bits64 ht.1 ht.2 hc.1 hc.2).1, (bits64 hc.1 hc.2 ht.1 ht.2).1, Nat.and_comm]

theorem Implies_same (fds : List Dep) (w : Int) (f : Dep) : iImplies fds w f = Implies fds w f := by
 unfold iImplies Implies
 rw [valid_eq]
 cases hV : ValidDependencies fds w with
 | false => simp only [cond_false]
 | true =>
  have hw := (ValidDependencies_iff.1 hV).1
  simp only [cond_true]
  cases hd : depValid f w with
  | true =>
   have hd' := depValid_iff.1 hd
   rw [validSet_iff.2 ⟨hw, ivalidSet_iff.2 hd'.1⟩, validSet_iff.2 ⟨hw, ivalidSet_iff.2 hd'.2⟩, implies_same hV hd]
   simp only [cond_true]
  | false =>
   have : ¬ (validSet f.From w = true ∧ validSet f.To w = true) := fun h => by
    have := depValid_iff.2 ⟨ivalidSet_iff.1 (validSet_iff.1 h.1).2, ivalidSet_iff.1 (validSet_iff.1 h.2).2⟩
    rw [hd] at this
    cases this
   cases h1 : validSet f.From w with
   | false => simp only [cond_true, cond_false]
   | true =>
    cases h2 : validSet f.To w with
    | false => simp only [cond_true, cond_false]
    | true => exact absurd ⟨h1, h2⟩ this

theorem armstrong {fds : List Dep} {f : Dep} {t : Tab} (hI : Implies fds t.Width f = true) (hVT : VT t) (hH : ∀ g ∈ fds, HoldsIn g t = true) : HoldsIn f t = true := by
 unfold Implies at hI
 rw [valid_eq] at hI
 have h1 := and_pos hI
 have h2 := and_pos h1.1
 have h3 := and_pos h2.1
 have hV := h3.1
 have hw := (ValidDependencies_iff.1 hV).1
 have hd : depValid f t.Width = true := depValid_iff.2 ⟨ivalidSet_iff.1 (validSet_iff.1 h3.2).2, ivalidSet_iff.1 (validSet_iff.1 h2.2).2⟩
 have h64 := dep64 hV hd
 have hd' := depValid_iff.1 hd
 have ht : S64 f.To := ⟨hd'.2.1, pow_le64 hw hd'.2.2⟩
 refine hold_iff.2 ⟨⟨hVT, hd⟩, fun i hi k hk hag => ?_⟩
 obtain ⟨c1, c2⟩ := closure_agree (a := List.getD t.Rows i []) (b := List.getD t.Rows k []) (fun h hm => h64.2 h hm) (fun g hm => (hold_iff.1 (hH g hm)).2 i hi k hk) h64.1 hag
 refine agree_sub ht c1 ?_ c2
 have h4 := beq_iff_eq.1 h1.2
 rw [(bits64 c1.1 c1.2 ht.1 ht.2).1] at h4
 rw [(bits64 ht.1 ht.2 c1.1 c1.2).1, Nat.and_comm]
 exact h4

theorem arm_loop (code : List Int) : ∀ (k i : Nat), (DrawArmstrong code).1.length - i < k → (FnArmstrong_l0 code k i = .inl () ∧ ∀ j, i ≤ j → j < (DrawArmstrong code).1.length → HoldsIn (List.getD (DrawArmstrong code).1 j Dep.zero) (DrawArmstrong code).2.2 = true) ∨ FnArmstrong_l0 code k i = .inr true := by
 intro k
 induction k with
 | zero => intro i h; omega
 | succ k ih =>
  intro i h
  unfold FnArmstrong_l0
  by_cases hi : ((i : Nat) : Int) < ((List.length (DrawArmstrong code).1 : Nat) : Int)
  ·
   rw [decide_eq_true hi, cond_true]
   cases hh : HoldsIn (List.getD (DrawArmstrong code).1 i Dep.zero) (DrawArmstrong code).2.2 with
   | false => exact .inr rfl
   | true =>
    simp only [Bool.not_true, cond_false]
    rcases ih (i + 1) (by omega) with ⟨h1, h2⟩ | h1
    ·
     refine .inl ⟨h1, fun j hj hjl => ?_⟩
     by_cases e : j = i
     ·
      subst e; exact hh
     ·
      exact h2 j (by omega) hjl
    ·
     exact .inr h1
  ·
   rw [decide_eq_false hi, cond_false]
   exact .inl ⟨rfl, fun j hj hjl => by omega⟩

theorem FnArmstrong_law (code : List Int) : FnArmstrong code = true := by
 unfold FnArmstrong
 rw [Implies_same, ← hold_eq]
 simp only [bne_self_eq_false, cond_false, beq_self_eq_true, cond_true]
 cases decide (1048576 < ((List.length code : Nat) : Int)) with
 | true => rfl
 | false =>
  rw [cond_false]
  cases hc : (bif (bif (!(Implies (DrawArmstrong code).1 3 (DrawArmstrong code).2.1)) then true else (!(ValidTable (DrawArmstrong code).2.2))) then true else ((Tab.Width (DrawArmstrong code).2.2) != 3)) with
  | true => rfl
  | false =>
   rw [cond_false]
   have h2 := or_neg hc
   have h1 := or_neg h2.1
   rcases arm_loop code ((DrawArmstrong code).1.length - 0 + 1) 0 (by omega) with ⟨e, h⟩ | e
   ·
    rw [e]
    have hw := bne_neg h2.2
    exact armstrong (by rw [hw]; exact not_neg h1.1) (ValidTable_iff.1 (not_neg h1.2)) (forall_getD.1 fun j hj => h j (Nat.zero_le _) hj)
   ·
    rw [e]
    rfl

end Go.Proofs.Ytbhgdogogpihhaa
