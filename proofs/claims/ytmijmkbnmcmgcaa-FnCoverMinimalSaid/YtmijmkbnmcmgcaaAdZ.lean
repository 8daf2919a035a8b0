/-
  A part of the proof of this claim (AdZ): what functions of the program compute, and plain facts of that. No conditions.
-/
import Derived.Test.YtmijmkbnmcmgcaaAdY
set_option linter.all false
namespace Go.Proofs.Ytmijmkbnmcmgcaa
open Go Go.Am
noncomputable section

theorem equalDependencies_self (a : List Dep) : equalDependencies a a = true := by
 unfold equalDependencies
 simp only [bne_self_eq_false, cond_false]
 rcases all_loop (equalDependencies_l0 a a) a.length (fun i => !(bif (Dep.From (List.getD a i Dep.zero)) == (Dep.From (List.getD a i Dep.zero)) then (bif (Dep.To (List.getD a i Dep.zero)) == (Dep.To (List.getD a i Dep.zero)) then true else false) else false)) (fun k i => rfl) (a.length - 0 + 1) 0 (by omega) with ⟨h1, _⟩ | ⟨_, j, _, _, h⟩
 ·
  rw [h1]; rfl
 ·
  simp at h

theorem pow_lt {c : Nat} {w : Int} (h : ((c : Nat) : Int) < w) : (1 : Int) * 2 ^ c < 2 ^ w.toNat := by
 have h1 : 2 ^ c < 2 ^ w.toNat := Nat.pow_lt_pow_right (by decide) (by omega)
 have e1 : (1 : Int) * 2 ^ c = ((2 ^ c : Nat) : Int) := by push_cast; omega
 have e2 : (2 : Int) ^ w.toNat = ((2 ^ w.toNat : Nat) : Int) := by push_cast; rfl
 rw [e1, e2]
 omega

theorem Shape.valid {w : Int} (hw : 1 ≤ w ∧ w ≤ 6) {f : Dep} (h : Shape w f) : depValid f w = true := by
 obtain ⟨h1, h2, c, hc, hT, _⟩ := h
 refine depValid_iff.2 ⟨⟨h1.1.1, h2⟩, h1.2.1, ?_⟩
 rw [hT]
 exact pow_lt hc

theorem one_col {c : Nat} (hc : c < 6) : bits .and .i64 ((1 : Int) * 2 ^ c) ((1 : Int) * 2 ^ c - 1) = 0 :=
 fin64 (P := fun _ c => bits .and .i64 ((1 : Int) * 2 ^ c) ((1 : Int) * 2 ^ c - 1) = 0) (by decide) (a := 0) ⟨by decide, by decide⟩ hc

theorem col_out {a : Int} (ha : S6 a) {c : Nat} (hc : c < 6) (h : has6 a c = false) : bits .and .i64 ((1 : Int) * 2 ^ c) a = 0 :=
 fin64 (P := fun a c => has6 a c = false → bits .and .i64 ((1 : Int) * 2 ^ c) a = 0) (by unfold has6; decide) ha hc h

theorem Implies_iff {fds : List Dep} {w : Int} {f : Dep} (hv : ValidDependencies fds w = true) (hf : depValid f w = true) : Implies fds w f = true ↔ Imp fds f := by
 have hd := deps_ok hv
 have h6 := dep_in hd.1 hf
 unfold Implies
 rw [hv, cond_true]
 cases f with
 | mk F T =>
  simp only [hf, cond_true]
  rw [iimplies_eq hd.2.2 h6, implies_iff hd.2.2 h6]

theorem FnMinimalCover_law (code : List Int) : FnMinimalCover code = true := by
 unfold FnMinimalCover
 cases decide (1048576 < ((List.length code : Nat) : Int)) with
 | true => rfl
 | false =>
  rw [cond_false, ← cover_eq, equalDependencies_self]
  cases hv : ValidDependencies ((DrawMinimalCover code).1) ((DrawMinimalCover code).2) with
  | false => rfl
  | true =>
   cases hc : ValidDependencies (iMinimalCover ((DrawMinimalCover code).1) ((DrawMinimalCover code).2)) ((DrawMinimalCover code).2) with
   | false => rfl
   | true =>
    simp only [Bool.not_true, cond_false]
    obtain ⟨e, hC⟩ := cover_spec hv
    rw [← e] at hC
    obtain ⟨hw, _, hO⟩ := deps_ok hv
    have hcv := deps_ok hc
    have a0 : FnMinimalCover_l0 code ((List.length (iMinimalCover ((DrawMinimalCover code).1) ((DrawMinimalCover code).2))) - 0 + 1) 0 = .inl () := by
     rcases all_loop (FnMinimalCover_l0 code) (List.length (iMinimalCover ((DrawMinimalCover code).1) ((DrawMinimalCover code).2))) (fun i => (bif (bif (!(Implies ((DrawMinimalCover code).1) ((DrawMinimalCover code).2) (List.getD (iMinimalCover ((DrawMinimalCover code).1) ((DrawMinimalCover code).2)) i Dep.zero))) then true else ((bits .and .i64 (Dep.To (List.getD (iMinimalCover ((DrawMinimalCover code).1) ((DrawMinimalCover code).2)) i Dep.zero)) ((Dep.To (List.getD (iMinimalCover ((DrawMinimalCover code).1) ((DrawMinimalCover code).2)) i Dep.zero)) - 1)) != 0)) then true else ((bits .and .i64 (Dep.To (List.getD (iMinimalCover ((DrawMinimalCover code).1) ((DrawMinimalCover code).2)) i Dep.zero)) (Dep.From (List.getD (iMinimalCover ((DrawMinimalCover code).1) ((DrawMinimalCover code).2)) i Dep.zero))) != 0))) (fun k i => rfl) ((List.length (iMinimalCover ((DrawMinimalCover code).1) ((DrawMinimalCover code).2))) - 0 + 1) 0 (by omega) with ⟨h1, _⟩ | ⟨_, j, _, hj, h⟩
     ·
      exact h1
     ·
      exfalso
      have hm := getD_mem (iMinimalCover ((DrawMinimalCover code).1) ((DrawMinimalCover code).2)) j Dep.zero hj
      have hs := hC.shape _ hm
      rw [(Implies_iff hv (hs.valid hw)).2 ((hC.eqv.imp _).1 (Imp.mem hm))] at h
      obtain ⟨h6, _, c, hcw, hT, hF⟩ := hs
      rw [hT, one_col (by omega), col_out h6.1 (by omega) hF] at h
      cases h
    have a1 : FnMinimalCover_l1 code ((List.length ((DrawMinimalCover code).1)) - 0 + 1) 0 = .inl () := by
     rcases all_loop (FnMinimalCover_l1 code) (List.length ((DrawMinimalCover code).1)) (fun i => (!(Implies (iMinimalCover ((DrawMinimalCover code).1) ((DrawMinimalCover code).2)) ((DrawMinimalCover code).2) (List.getD ((DrawMinimalCover code).1) i Dep.zero)))) (fun k i => rfl) ((List.length ((DrawMinimalCover code).1)) - 0 + 1) 0 (by omega) with ⟨h1, _⟩ | ⟨_, j, _, hj, h⟩
     ·
      exact h1
     ·
      exfalso
      have hm := getD_mem ((DrawMinimalCover code).1) j Dep.zero hj
      rw [(Implies_iff hc ((ValidDependencies_iff.1 hv).2.2 _ hm)).2 ((hC.eqv.imp _).2 (Imp.mem hm))] at h
      cases h
    rw [a0, a1]
    rfl

/-! ### A cover's cover -/

theorem p1_id {l : List Dep} {w : Int} (hw : w ≤ 6) {i : Nat} (h6 : Dep6 (l.getD i Dep.zero)) {c0 : Nat} (hc0 : ((c0 : Nat) : Int) < w) (hT : (l.getD i Dep.zero).To = 1 * 2 ^ c0) (hF : has6 (l.getD i Dep.zero).From c0 = false) :
  ∀ (k c : Nat) (out : List Dep), Int.toNat (w - ((c : Nat) : Int)) < k → minimalCover_l1 l w i k c out = if c ≤ c0 then out ++ [l.getD i Dep.zero] else out := by
 have hTb : ∀ j, has6 (l.getD i Dep.zero).To j = decide (j = c0) := fun j => by rw [hT]; exact has6_bit (by omega) j
 intro k
 induction k with
 | zero => intro c out h; omega
 | succ k ih =>
  intro c out hk
  unfold minimalCover_l1
  by_cases hc : ((c : Nat) : Int) < w
  ·
   rw [decide_eq_true hc, cond_true, has_has6 h6.2, has_has6 h6.1]
   by_cases e : c = c0
   ·
    subst e
    rw [hTb c, hF]
    simp only [decide_true, cond_true, Bool.not_false]
    rw [ih _ _ (by omega), if_neg (by omega), if_pos (Nat.le_refl _), ← hT]
   ·
    rw [hTb c, decide_eq_false e]
    simp only [cond_false]
    rw [ih _ _ (by omega)]
    by_cases h : c ≤ c0
    ·
     rw [if_pos h, if_pos (by omega)]
    ·
     rw [if_neg h, if_neg (by omega)]
  ·
   rw [decide_eq_false hc, cond_false, if_neg (by omega)]

theorem p1_all_id {l : List Dep} {w : Int} (hw : w ≤ 6) (hs : ∀ f ∈ l, Shape w f) : ∀ (k i : Nat) (out : List Dep), l.length - i < k → minimalCover_l0 l w k i out = out ++ l.drop i := by
 intro k
 induction k with
 | zero => intro i out h; omega
 | succ k ih =>
  intro i out hk
  unfold minimalCover_l0
  by_cases hi : ((i : Nat) : Int) < ((List.length l : Nat) : Int)
  ·
   have hi' : i < l.length := by omega
   obtain ⟨h6, _, c0, hc0, hT, hF⟩ := hs _ (getD_mem l i Dep.zero hi')
   rw [decide_eq_true hi, cond_true, p1_id hw h6 hc0 hT hF _ _ _ (by omega), if_pos (Nat.zero_le _)]
   show minimalCover_l0 l w k (i + 1) (out ++ [l.getD i Dep.zero]) = _
   rw [ih _ _ (by omega), List.drop_eq_getElem_cons hi', List.append_assoc, List.getD_eq_getElem?_getD, List.getElem?_eq_getElem hi']
   rfl
  ·
   rw [decide_eq_false hi, cond_false, List.drop_of_length_le (by omega), List.append_nil]

theorem p2_id {fds : List Dep} {w : Int} (hw : w ≤ 6) {l : List Dep} (hC : Cover fds w l) {i : Nat} (hi : i < l.length) : ∀ (k c : Nat), minimalCover_l3 w i k c l = l := by
 have hO := Shape.ok hC.shape
 have hF := hO.at hi
 intro k
 induction k with
 | zero => intro c; rfl
 | succ k ih =>
  intro c
  unfold minimalCover_l3
  by_cases hc : ((c : Nat) : Int) < w
  ·
   have h6 : c < 6 := by omega
   rw [decide_eq_true hc, cond_true, has_has6 hF.1]
   cases hh : has6 (Dep.From (List.getD l i Dep.zero)) c with
   | false => rw [cond_false, cond_false]; exact ih _
   | true =>
    rw [cond_true]
    have hD : Dep6 ⟨Dep.From (List.getD l i Dep.zero) - 1 * 2 ^ c, Dep.To (List.getD l i Dep.zero)⟩ := ⟨has_sub hF.1 h6 (by rw [has_has6 hF.1]; exact hh), hF.2⟩
    have hn := hC.irr _ (getD_mem l i Dep.zero hi) c (Nat.zero_le _) hc hh
    cases ht : implies l ⟨Dep.From (List.getD l i Dep.zero) - 1 * 2 ^ c, Dep.To (List.getD l i Dep.zero)⟩ with
    | true => exact absurd ((hC.eqv.imp _).1 ((implies_iff hO hD).1 ht)) hn
    | false => rw [cond_false]; exact ih _
  ·
   rw [decide_eq_false hc, cond_false]

theorem p2_all_id {fds : List Dep} {w : Int} (hw : w ≤ 6) {l : List Dep} (hC : Cover fds w l) : ∀ (k i : Nat), minimalCover_l2 w k i l = l := by
 intro k
 induction k with
 | zero => intro i; rfl
 | succ k ih =>
  intro i
  unfold minimalCover_l2
  by_cases hi : ((i : Nat) : Int) < ((List.length l : Nat) : Int)
  ·
   rw [decide_eq_true hi, cond_true, p2_id hw hC (by omega)]
   exact ih _
  ·
   rw [decide_eq_false hi, cond_false]

theorem p3_all_id {fds : List Dep} {w : Int} {l : List Dep} (hC : Cover fds w l) : ∀ (k i : Nat), minimalCover_l4 k l i = l := by
 have hO := Shape.ok hC.shape
 intro k
 induction k with
 | zero => intro i; rfl
 | succ k ih =>
  intro i
  unfold minimalCover_l4
  by_cases hi : ((i : Nat) : Int) < ((List.length l : Nat) : Int)
  ·
   have hi' : i < l.length := by omega
   rw [decide_eq_true hi, cond_true, List.nil_append]
   show (bif implies (restOf l i) (l.getD i Dep.zero) then minimalCover_l4 k (restOf l i) i else minimalCover_l4 k l (i + 1)) = l
   cases ht : implies (restOf l i) (l.getD i Dep.zero) with
   | true => exact absurd ((implies_iff (hO.rest' i) (hO.at hi')).1 ht) (hC.all i hi')
   | false => rw [cond_false]; exact ih _
  ·
   rw [decide_eq_false hi, cond_false]

theorem cover_id {fds : List Dep} {w : Int} {l : List Dep} (hC : Cover fds w l) (hv : ValidDependencies l w = true) : iMinimalCover l w = l := by
 rw [(cover_spec hv).1]
 have hw := (deps_ok hv).1.2
 unfold minimalCover
 simp only [Go.Am.andThen]
 rw [p1_all_id hw hC.shape _ _ _ (by omega), List.drop_zero, List.nil_append, p2_all_id hw hC, p3_all_id hC]

theorem FnCoverMinimal_law (code more : List Int) : FnCoverMinimal code more = true := by
 unfold FnCoverMinimal
 cases (bif (decide (1048576 < ((List.length code : Nat) : Int))) then true else (decide (1048576 < ((List.length more : Nat) : Int)))) with
 | true => rfl
 | false =>
  rw [cond_false, ← cover_eq, equalDependencies_self]
  cases hv : ValidDependencies ((DrawMinimalCover code).1) ((DrawMinimalCover code).2) with
  | false =>
   have : iMinimalCover ((DrawMinimalCover code).1) ((DrawMinimalCover code).2) = [] := by unfold iMinimalCover; rw [hv]; rfl
   rw [this]
   cases ValidDependencies [] ((DrawMinimalCover code).2) <;> rfl
  | true =>
   obtain ⟨e, hC⟩ := cover_spec hv
   rw [← e] at hC
   generalize hL : iMinimalCover ((DrawMinimalCover code).1) ((DrawMinimalCover code).2) = L at *
   generalize (DrawMinimalCover code).2 = w at *
   cases hc : ValidDependencies L w with
   | false => rfl
   | true =>
    cases h0 : (((List.length L : Nat) : Int) == 0) with
    | true => rfl
    | false =>
     have hn : ((List.length L : Nat) : Int) ≠ 0 := by simpa using h0
     simp only [Bool.not_true, cond_false]
     have m1 := Int.emod_nonneg ((List.length more : Nat) : Int) hn
     have m2 := Int.emod_lt_of_pos ((List.length more : Nat) : Int) (show (0 : Int) < ((List.length L : Nat) : Int) by omega)
     obtain ⟨k, hk⟩ := Int.eq_ofNat_of_zero_le m1
     rw [hk] at m2 ⊢
     have hk' : k < L.length := by omega
     rw [List.nil_append, Int.toNat_natCast, show Int.toNat (((k : Nat) : Int) + 1) = k + 1 by omega]
     have hr : ValidDependencies (restOf L k) w = true := by
      obtain ⟨v1, v2, v3⟩ := ValidDependencies_iff.1 hc
      exact ValidDependencies_iff.2 ⟨v1, by rw [restOf_len hk']; omega, fun f hf => v3 f (restOf_mem hf)⟩
     have hi : Implies (L.take k ++ L.drop (k + 1)) w (L.getD k Dep.zero) = false := by
      cases h : Implies (restOf L k) w (L.getD k Dep.zero) with
      | false => exact h
      | true => exact absurd ((Implies_iff hr ((ValidDependencies_iff.1 hc).2.2 _ (getD_mem L k Dep.zero hk'))).1 h) (hC.all k hk')
     rw [hi, cover_id hC hc, equalDependencies_self]
     rfl

end
end Go.Proofs.Ytmijmkbnmcmgcaa
