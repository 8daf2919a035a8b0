/-
  A part of the proof of this claim (AdM): what functions of the program compute, and plain facts of that. No conditions.
-/
import Derived.Test.YtmijmkbnmcmgcaaAdC
import Derived.Test.YtmijmkbnmcmgcaaAd6
set_option linter.all false
namespace Go.Proofs.Ytmijmkbnmcmgcaa
open Go Go.Am

theorem set_or_mod {w s n : Int} (hw : 1 ≤ w ∧ w ≤ 6) (hs : 0 ≤ s) (hs' : s < (1 : Int) * 2 ^ w.toNat) (hn : 0 ≤ n) :
    S6 (bits .or .i64 s (n % ((1 : Int) * 2 ^ w.toNat))) ∧ Sub6 (bits .or .i64 s (n % ((1 : Int) * 2 ^ w.toNat))) (full w) ∧ Sub6 s (bits .or .i64 s (n % ((1 : Int) * 2 ^ w.toNat))) := by
  have hp := pow32 hw.2 (by omega)
  have hm := mod_ok (k := n) (L := (1 : Int) * 2 ^ w.toNat) (by omega)
  have h1 : S6 s := ⟨hs, by omega⟩
  have h2 : S6 (n % ((1 : Int) * 2 ^ w.toNat)) := ⟨hm.1, by omega⟩
  refine ⟨or6 h1 h2, Sub6.or h1 h2 (full6 hw) ((sub_full hw h1).2 (by omega)) ((sub_full hw h2).2 (by omega)), Sub6.left h1 h2⟩

theorem FnIsKey_law (code more : List Int) : FnIsKey code more = true := by
  unfold FnIsKey
  cases (bif (decide (1048576 < ((List.length code : Nat) : Int))) then true else (decide (1048576 < ((List.length more : Nat) : Int)))) with
  | true => rfl
  | false =>
    simp only [cond_false]
    generalize DrawIsKey code = d
    obtain ⟨fds, w, s⟩ := d
    simp only
    rw [isKey_eq]
    cases h : (bif (bif (bif (IsKey fds w s != IsKey fds w s) then true else (!(ValidDependencies fds w))) then true else (decide (s < 0))) then true else (decide (((1 : Int) * 2 ^ (Int.toNat w)) ≤ s))) with
    | true => simp
    | false =>
      simp only [cond_false]
      have h := or_neg h
      obtain ⟨⟨⟨_, hv⟩, h0⟩, h1⟩ : ((_ ∧ _) ∧ _) ∧ _ := ⟨(or_neg h.1).imp_left or_neg, h.2⟩
      have hv := not_neg hv
      have hw := (valid_deps hv).1
      rw [decide_eq_false_iff_not] at h0 h1
      rw [← isKey_eq fds w s]
      have hF : iIsKey fds w ((1 : Int) * 2 ^ w.toNat - 1) = true := key_full hv
      rw [hF, cond_true]
      cases hk : iIsKey fds w s with
      | false => rfl
      | true =>
        obtain ⟨a, b, c⟩ := set_or_mod (s := s) (n := ((List.length more : Nat) : Int)) hw (by omega) (by omega) (Int.natCast_nonneg _)
        exact key_mono hv hk a b c

theorem normal_want {fds : List Dep} {w : Int} (h : ValidDependencies fds w = true) (code : List Int) (hd : DrawIsNormalForm code = (fds, w)) : ∀ (k i : Nat) (want : Bool), fds.length - i < k →
    FnIsNormalForm_l0 code k want i = (want && Sum.elim (fun _ => true) (fun r => r) (iIsNormalForm_l0 fds w k i)) := by
  intro k
  induction k with
  | zero => intro i want hk; omega
  | succ k ih =>
    intro i want hk
    unfold FnIsNormalForm_l0 iIsNormalForm_l0
    rw [hd]
    simp only
    by_cases hi : i < fds.length
    · rw [show decide (((i : Nat) : Int) < ((List.length fds : Nat) : Int)) = true by simp; exact hi, cond_true, cond_true, contains_getD (inR_of_valid h)]
      rw [ih _ _ (by omega)]
      cases (bits .and .i64 (fds.getD i Dep.zero).To (fds.getD i Dep.zero).From == (fds.getD i Dep.zero).To) <;> cases iIsKey fds w (fds.getD i Dep.zero).From <;> cases want <;> simp
    · rw [show decide (((i : Nat) : Int) < ((List.length fds : Nat) : Int)) = false by simp; omega]
      simp

theorem FnIsNormalForm_law (code : List Int) : FnIsNormalForm code = true := by
  unfold FnIsNormalForm
  cases (decide (1048576 < ((List.length code : Nat) : Int))) with
  | true => rfl
  | false =>
    simp only [cond_false]
    generalize hd : DrawIsNormalForm code = d
    obtain ⟨fds, w⟩ := d
    simp only
    rw [normal_eq]
    cases h : (bif (IsNormalForm fds w != IsNormalForm fds w) then true else (!(ValidDependencies fds w))) with
    | true => simp
    | false =>
      have hv := not_neg (or_neg h).2
      simp only [cond_false, Go.Am.andThen]
      rw [normal_want hv code hd _ _ _ (by omega), ← normal_eq]
      have e : iIsNormalForm fds w = Sum.elim (fun _ => true) (fun r => r) (iIsNormalForm_l0 fds w (fds.length - 0 + 1) 0) := by
        unfold iIsNormalForm
        rw [hv]
        rfl
      rw [← e]
      have e2 : iIsNormalForm [] w = true := by
        unfold iIsNormalForm
        have : ValidDependencies [] w = true := ValidDependencies_iff.2 ⟨(valid_deps hv).1, by simp, by simp⟩
        rw [this]
        rfl
      rw [e2]
      simp

end Go.Proofs.Ytmijmkbnmcmgcaa
