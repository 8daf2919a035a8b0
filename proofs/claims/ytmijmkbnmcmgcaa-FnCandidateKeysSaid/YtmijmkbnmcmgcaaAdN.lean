/-
  A part of the proof of this claim (AdN): what functions of the program compute, and plain facts of that. No conditions.
-/
import Derived.Test.YtmijmkbnmcmgcaaAd8
set_option linter.all false
namespace Go.Proofs.Ytmijmkbnmcmgcaa
open Go Go.Am

/-- What the list of the minimal keys below 's' is. -/
structure Keys (fds : List Dep) (w : Int) (s : Int) (l : List Int) : Prop where
  mem : ∀ x ∈ l, S6 x ∧ x < s ∧ iIsKey fds w x = true
  apart : ∀ i j, i < l.length → j < l.length → i ≠ j → ¬ Sub6 (l.getD i 0) (l.getD j 0)
  part : ∀ t, 0 ≤ t → t < s → iIsKey fds w t = true → ∃ x ∈ l, Sub6 x t

theorem getD_app {l : List Int} {x : Int} (i : Nat) : (l ++ [x]).getD i 0 = if i < l.length then l.getD i 0 else if i = l.length then x else 0 := by
  simp only [List.getD_eq_getElem?_getD, List.getElem?_append]
  by_cases h : i < l.length
  · simp [h]
  · rw [if_neg h, if_neg h]
    by_cases e : i = l.length
    · subst e; simp
    · rw [if_neg e, List.getElem?_eq_none (by simp; omega)]
      rfl

theorem keys_inv {fds : List Dep} {w : Int} (h : ValidDependencies fds w = true) : ∀ (k s : Nat) (l : List Int), Int.toNat ((1 : Int) * 2 ^ w.toNat - ((s : Nat) : Int)) < k → Keys fds w ((s : Nat) : Int) l →
    ∃ s' : Nat, (1 : Int) * 2 ^ w.toNat ≤ s' ∧ Keys fds w ((s' : Nat) : Int) (iCandidateKeys_l0 fds w k s l) := by
  obtain ⟨hw, _⟩ := valid_deps h
  have hp := pow32 hw.2 (by omega)
  intro k
  induction k with
  | zero => intro s l hk; omega
  | succ k ih =>
    intro s l hk hK
    unfold iCandidateKeys_l0
    by_cases hs : ((s : Nat) : Int) < (1 : Int) * 2 ^ w.toNat
    · rw [decide_eq_true hs, cond_true]
      have h6 : S6 ((s : Nat) : Int) := ⟨Int.natCast_nonneg _, by omega⟩
      have hk' : Int.toNat ((1 : Int) * 2 ^ w.toNat - ((s + 1 : Nat) : Int)) < k := by omega
      have hcast : ((s + 1 : Nat) : Int) = ((s : Nat) : Int) + 1 := by omega
      -- nothing new
      have same : (iIsKey fds w ((s : Nat) : Int) = true → ∃ x ∈ l, Sub6 x ((s : Nat) : Int)) → Keys fds w ((s + 1 : Nat) : Int) l := fun hx =>
        { mem := fun x hm => by
            obtain ⟨a, b, c⟩ := hK.mem x hm
            exact ⟨a, by omega, c⟩
          apart := hK.apart
          part := fun t h0 ht hkt => by
            by_cases e : t = ((s : Nat) : Int)
            · subst e; exact hx hkt
            · exact hK.part t h0 (by omega) hkt }
      cases hkey : iIsKey fds w ((s : Nat) : Int) with
      | false =>
        simp only [Bool.not_false, cond_true]
        exact ih _ _ hk' (same fun e => by rw [hkey] at e; cases e)
      | true =>
        simp only [Bool.not_true, cond_false, Go.Am.andThen]
        have hl : ∀ x ∈ l, S6 x := fun x hm => (hK.mem x hm).1
        by_cases hn : noPart ((s : Nat) : Int) l
        · rw [decide_eq_false (fun e => (find_noPart hl).1 e hn)]
          refine ih _ _ hk' ⟨fun x hm => ?_, fun i j hi hj hij => ?_, fun t h0 ht hkt => ?_⟩
          · rcases List.mem_append.1 hm with hm | hm
            · obtain ⟨a, b, c⟩ := hK.mem x hm
              exact ⟨a, by omega, c⟩
            · rw [List.mem_singleton.1 hm]
              exact ⟨h6, by omega, hkey⟩
          · rw [List.length_append, List.length_singleton] at hi hj
            rw [getD_app, getD_app]
            by_cases hi' : i < l.length
            · by_cases hj' : j < l.length
              · rw [if_pos hi', if_pos hj']
                exact hK.apart i j hi' hj' hij
              · rw [if_pos hi', if_neg hj', if_pos (by omega)]
                exact hn i hi'
            · rw [if_neg hi', if_pos (show i = l.length by omega), if_pos (show j < l.length by omega)]
              intro hsub
              have hm := hK.mem _ (getD_mem l j 0 (by omega))
              have := Sub6.le h6 hm.1 hsub
              have := hm.2.1
              omega
          · by_cases e : t = ((s : Nat) : Int)
            · subst e; exact ⟨_, List.mem_append_right _ (List.mem_singleton.2 rfl), Sub6.refl h6⟩
            · obtain ⟨x, hx, hs⟩ := hK.part t h0 (by omega) hkt
              exact ⟨x, List.mem_append_left _ hx, hs⟩
        · rw [decide_eq_true ((find_noPart hl).2 hn)]
          refine ih _ _ hk' (same fun _ => ?_)
          unfold noPart at hn
          simp only [Classical.not_forall, not_imp, Classical.not_not] at hn
          obtain ⟨j, hj, hs⟩ := hn
          exact ⟨_, getD_mem l j 0 hj, hs⟩
    · rw [decide_eq_false hs]
      exact ⟨s, by omega, hK⟩

theorem keys_spec {fds : List Dep} {w : Int} (h : ValidDependencies fds w = true) : ∃ s' : Int, (1 : Int) * 2 ^ w.toNat ≤ s' ∧ Keys fds w s' (iCandidateKeys fds w) := by
  unfold iCandidateKeys
  rw [h]
  obtain ⟨s', h1, h2⟩ := keys_inv h (Int.toNat ((1 : Int) * 2 ^ w.toNat - ((0 : Nat) : Int)) + 1) 0 [] (by omega) ⟨by simp, by simp, fun t h0 ht => by omega⟩
  exact ⟨s', h1, h2⟩

open Classical in
theorem FnCandidateKeys_law (code more : List Int) : FnCandidateKeys code more = true := by
  unfold FnCandidateKeys
  cases (bif (decide (1048576 < ((List.length code : Nat) : Int))) then true else (decide (1048576 < ((List.length more : Nat) : Int)))) with
  | true => rfl
  | false =>
    simp only [cond_false]
    rw [← keys_eq, equalInts_self]
    cases hv : ValidDependencies (DrawCandidateKeys code).1 (DrawCandidateKeys code).2 with
    | false => rfl
    | true =>
      simp only [Bool.not_true, cond_false]
      obtain ⟨s', hs', hK⟩ := keys_spec hv
      have hw := (valid_deps hv).1
      have hp := pow32 hw.2 (by omega)
      -- the set that is drawn
      have hm := mod_ok (k := ((List.length more : Nat) : Int)) (L := (1 : Int) * 2 ^ Int.toNat (DrawCandidateKeys code).2) (by omega)
      generalize hset : ((List.length more : Nat) : Int) % ((1 : Int) * 2 ^ Int.toNat (DrawCandidateKeys code).2) = set_ at *
      have h6 : S6 set_ := ⟨hm.1, by omega⟩
      generalize hkl : iCandidateKeys (DrawCandidateKeys code).1 (DrawCandidateKeys code).2 = l at *
      have hin : ∀ i, FnCandidateKeys_l1 code i (l.length - 0 + 1) 0 = .inl () ∨ ¬ i < l.length := by
        intro i
        by_cases hi : i < l.length
        · left
          rcases all_loop (FnCandidateKeys_l1 code i) l.length (fun k1 => bif (((i : Nat) : Int) != ((k1 : Nat) : Int)) then ((bits .and .i64 (List.getD l i 0) (List.getD l k1 0)) == (List.getD l i 0)) else false) (fun k j => by rw [FnCandidateKeys_l1, hkl]) (l.length - 0 + 1) 0 (by omega) with ⟨h1, _⟩ | ⟨_, j, _, h3, h4⟩
          · exact h1
          · exfalso
            have h4 := and_pos h4
            have hne : i ≠ j := fun e => by subst e; simp at h4
            exact hK.apart i j hi h3 hne (beq_iff_eq.1 h4.2)
        · exact .inr hi
      -- the outer loop
      have out : ∀ k i is, l.length - i < k → FnCandidateKeys_l0 code more k is i = .inl (is || decide (∃ j, i ≤ j ∧ j < l.length ∧ Sub6 (l.getD j 0) set_)) := by
        intro k
        induction k with
        | zero => intro i is hk; omega
        | succ k ih =>
          intro i is hk
          unfold FnCandidateKeys_l0
          rw [hkl, hset]
          by_cases hi : i < l.length
          · rw [lt_dec hi, cond_true, (hin i).resolve_right (fun h => h hi)]
            simp only [Sum.elim_inl]
            rw [(hK.mem _ (getD_mem l i 0 hi)).2.2]
            simp only [Bool.not_true, cond_false]
            rw [ih _ _ (by omega)]
            congr 1
            rw [Bool.eq_iff_iff]
            simp only [Bool.or_eq_true, decide_eq_true_eq]
            constructor
            · rintro (h | ⟨j, h1, h2, h3⟩)
              · cases is with
                | true => exact .inl rfl
                | false => exact .inr ⟨i, Nat.le_refl _, hi, beq_iff_eq.1 h⟩
              · exact .inr ⟨j, by omega, h2, h3⟩
            · rintro (h | ⟨j, h1, h2, h3⟩)
              · subst h; exact .inl rfl
              · rcases Nat.eq_or_lt_of_le h1 with rfl | h1
                · refine .inl ?_
                  cases is with
                  | true => rfl
                  | false => exact beq_iff_eq.2 h3
                · exact .inr ⟨j, h1, h2, h3⟩
          · rw [ge_dec hi, cond_false]
            congr 1
            rw [decide_eq_false (by rintro ⟨j, h1, h2, _⟩; omega), Bool.or_false]
      rw [out _ _ _ (by omega)]
      simp only [Sum.elim_inl, Bool.false_or]
      have hkey : decide (∃ j, 0 ≤ j ∧ j < l.length ∧ Sub6 (l.getD j 0) set_) = iIsKey (DrawCandidateKeys code).1 (DrawCandidateKeys code).2 set_ := by
        rw [Bool.eq_iff_iff, decide_eq_true_eq]
        constructor
        · rintro ⟨j, _, hj, hs⟩
          exact key_mono hv (hK.mem _ (getD_mem l j 0 hj)).2.2 h6 ((sub_full hw h6).2 (by omega)) hs
        · intro hk
          obtain ⟨x, hx, hs⟩ := hK.part set_ hm.1 (by omega) hk
          obtain ⟨j, hj, rfl⟩ := List.mem_iff_getElem.1 hx
          exact ⟨j, Nat.zero_le _, hj, by rw [List.getD_eq_getElem?_getD, List.getElem?_eq_getElem hj]; exact hs⟩
      rw [hkey]
      obtain ⟨x, hx, _⟩ := hK.part (full (DrawCandidateKeys code).2) (full6 hw).1 (by unfold full; omega) (key_full hv)
      have : 0 < l.length := List.length_pos_of_mem hx
      rw [decide_eq_true (by omega)]
      simp

end Go.Proofs.Ytmijmkbnmcmgcaa
