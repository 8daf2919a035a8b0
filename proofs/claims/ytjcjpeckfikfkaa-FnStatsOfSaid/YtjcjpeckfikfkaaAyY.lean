/-
  A part of the proof of this claim (AyY): what functions of the program compute, and plain facts of that. No conditions.
-/
import Derived.Test.YtjcjpeckfikfkaaAyX
set_option linter.all false
namespace Go.Proofs.Ytjcjpeckfikfkaa
open Go Go.Am
open List (length getD)
noncomputable section

theorem nodup_len {α : Type} : ∀ {a b : List α}, a.Nodup → (∀ x, x ∈ a → x ∈ b) → a.length ≤ b.length := by
 classical
 intro a
 induction a with
 | nil => intro b _ _; exact Nat.zero_le _
 | cons x a ih =>
  intro b hn hs; obtain ⟨h1, h2⟩ := List.nodup_cons.1 hn; have hx := hs x (List.Mem.head _); have := ih (b := b.erase x) h2 fun y hy => (List.mem_erase_of_ne (by rintro rfl; exact h1 hy)).2 (hs y (List.mem_cons_of_mem _ hy))
  rw [List.length_erase_of_mem hx] at this
  have : 0 < b.length := List.length_pos_of_mem hx; simp only [List.length_cons]; omega

theorem nodup_same {α : Type} {a b : List α} (ha : a.Nodup) (hb : b.Nodup) (h : ∀ x, x ∈ a ↔ x ∈ b) : a.length = b.length :=
 Nat.le_antisymm (nodup_len ha fun x => (h x).1) (nodup_len hb fun x => (h x).2)

theorem fold_mem (l : List Val) : ∀ (s : List Int) (x : Int), x ∈ l.foldl dadd s ↔ x ∈ s ∨ ∃ v ∈ l, v.Null = false ∧ v.N = x := by
 induction l with
 | nil => intro s x; simp
 | cons v l ih =>
  intro s x; rw [List.foldl_cons, ih]
  have hd : x ∈ dadd s v ↔ x ∈ s ∨ (v.Null = false ∧ v.N = x) := by
   unfold dadd
   cases hn : v.Null with
   | true => simp
   | false =>
    simp only [cond_false, true_and]; split
    · rename_i hm; exact ⟨.inl, fun h => h.elim id fun e => e ▸ hm⟩
    · rw [List.mem_append, List.mem_singleton]; exact ⟨fun h => h.imp id Eq.symm, fun h => h.imp id Eq.symm⟩
  rw [hd]; simp only [List.mem_cons]; constructor
  ·
   rintro ((h | h) | ⟨w, hw, h⟩)
   · exact .inl h
   · exact .inr ⟨v, .inl rfl, h⟩
   · exact .inr ⟨w, .inr hw, h⟩
  ·
   rintro (h | ⟨w, rfl | hw, h⟩)
   · exact .inl (.inl h)
   · exact .inl (.inr h)
   · exact .inr ⟨w, hw, h⟩

theorem fold_nodup (l : List Val) : ∀ s : List Int, s.Nodup → (l.foldl dadd s).Nodup := by
 induction l with
 | nil => intro s h; exact h
 | cons v l ih =>
  intro s h; rw [List.foldl_cons]; refine ih _ ?_; unfold dadd
  cases v.Null with
  | true => exact h
  | false =>
   simp only [cond_false]; split
   · exact h
   · rename_i hm; refine List.nodup_append.2 ⟨h, by simp, fun a ha b hb => ?_⟩; rw [List.mem_singleton.1 hb]; rintro rfl; exact hm ha

theorem dnum_mem {l : List Val} {x : Int} : x ∈ dnum l ↔ ∃ v ∈ l, v.Null = false ∧ v.N = x := by
 unfold dnum; rw [fold_mem]; simp

theorem fold_room (l : List Val) : ∀ s : List Int, (l.foldl dadd s).length + nnul l ≤ s.length + l.length := by
 induction l with
 | nil => intro s; simp [nnul]
 | cons v l ih =>
  intro s; rw [List.foldl_cons]; have h := ih (dadd s v)
  cases hn : v.Null with
  | true =>
   (have e1 : dadd s v = s := by simp [dadd, hn]); (have e2 : nnul (v :: l) = nnul l + 1 := by simp [nnul, hn]); rw [e1] at h ⊢; rw [e2]; simp only [List.length_cons]; omega
  | false =>
   have e2 : nnul (v :: l) = nnul l := by simp [nnul, hn]
   have e1 : (dadd s v).length ≤ s.length + 1 := by
    unfold dadd; rw [hn, cond_false]; split <;> simp
   rw [e2]; simp only [List.length_cons]; omega

theorem nnul_pos {l : List Val} : 0 < nnul l ↔ ∃ v ∈ l, v.Null = true := by
 unfold nnul; rw [List.countP_pos_iff]

def ones1 (l : List Val) : List (List Val) := l.map fun v => [v]

theorem law_l1 (code : List Int) (c : Nat) : ∀ (k i : Nat) (rows : List (List Val)), (DrawStatsOf code).Rows.length - i < k →
  FnStatsOf_l1 code c k i rows = rows ++ ones1 ((col (DrawStatsOf code).Rows c).drop i) := by
 intro k
 induction k with
 | zero => intro i rows h; omega
 | succ k ih =>
  intro i rows hk; unfold FnStatsOf_l1; by_cases h : i < (DrawStatsOf code).Rows.length
  · rw [decide_eq_true (by omega : (i : Int) < ((length (DrawStatsOf code).Rows : Nat) : Int)), cond_true, ih _ _ (by omega), col_drop h]; simp [ones1]
  · rw [decide_eq_false (by omega : ¬ (i : Int) < ((length (DrawStatsOf code).Rows : Nat) : Int)), cond_false, List.drop_eq_nil_of_le (by rw [col_len]; omega)]; simp [ones1]

theorem col_vv {t : Tab} (h : VT t) {c : Nat} (hc : c < Int.toNat t.Width) : ∀ v ∈ col t.Rows c, VV v := by
 intro v hv; obtain ⟨r, hr, rfl⟩ := List.mem_map.1 hv; obtain ⟨h1, h2⟩ := h.rowsW r hr; exact h1.mem _ (getD_mem r c Val.zero (by omega))

theorem ones_fit {t : Tab} (h : VT t) {c : Nat} (hc : c < Int.toNat t.Width) : Fits 1 (ones1 (col t.Rows c)) where
 w1 := Int.le_refl _
 w6 := by decide
 n4 := by unfold ones1; rw [List.length_map, col_len]; exact h.n4
 rows := by
  intro r hr; obtain ⟨v, hv, rfl⟩ := List.mem_map.1 hr; refine ⟨?_, rfl⟩; have := col_vv h hc v hv; refine ⟨by simp, by simp, fun i hi => ?_⟩; have : i = 0 := by simpa using hi
  subst this
  assumption

theorem null_is {v : Val} (h : VV v) (hn : v.Null = true) : v = ⟨true, 0⟩ := by
 obtain ⟨b, n⟩ := v; simp only at hn; subst hn; (have : n = 0 := by simpa [VV] using h); rw [this]

theorem diff_len {l : List Val} (hv : ∀ v ∈ l, VV v) {d : List (List Val)} (hd : d.Nodup) (hm : ∀ x, x ∈ d ↔ x ∈ ones1 l) :
  d.length = (dnum l).length + (if 0 < nnul l then 1 else 0) := by
 have hL : ((dnum l).map mkN ++ (if 0 < nnul l then [[Val.mk true 0]] else [])).Nodup := by
  refine List.nodup_append.2 ⟨?_, ?_, ?_⟩
  · refine List.Pairwise.map _ (fun a b hab => ?_) (fold_nodup l [] List.nodup_nil); simp only [mkN, ne_eq, List.cons.injEq, Val.mk.injEq, true_and, and_true]; exact hab
  · split <;> simp
  ·
   intro a ha b hb; obtain ⟨x, _, rfl⟩ := List.mem_map.1 ha; split at hb
   · rw [List.mem_singleton.1 hb]; simp [mkN]
   · cases hb
 rw [nodup_same hd hL fun x => ?_]
 · rw [List.length_append, List.length_map]; split <;> simp
 ·
  rw [hm, List.mem_append, List.mem_map]; constructor
  ·
   intro hx; obtain ⟨v, hvl, rfl⟩ := List.mem_map.1 hx
   cases hn : v.Null with
   | true =>
    right; rw [if_pos (nnul_pos.2 ⟨v, hvl, hn⟩), null_is (hv v hvl) hn]; exact List.Mem.head _
   | false =>
    left; refine ⟨v.N, dnum_mem.2 ⟨v, hvl, hn, rfl⟩, ?_⟩; obtain ⟨b, n⟩ := v; simp only at hn; subst hn; rfl
  ·
   rintro (⟨x, hx, rfl⟩ | hx)
   · obtain ⟨v, hvl, hn, rfl⟩ := dnum_mem.1 hx; refine List.mem_map.2 ⟨v, hvl, ?_⟩; obtain ⟨b, n⟩ := v; simp only at hn; subst hn; rfl
   ·
    split at hx
    · rename_i hp; obtain ⟨v, hvl, hn⟩ := nnul_pos.1 hp; rw [List.mem_singleton.1 hx]; exact List.mem_map.2 ⟨v, hvl, by rw [null_is (hv v hvl) hn]⟩
    · cases hx

theorem cnt_null (l : List Val) (hv : ∀ v ∈ l, VV v) : cnt (ones1 l) [⟨true, 0⟩] = nnul l := by
 induction l with
 | nil => rfl
 | cons v l ih =>
  have h := ih fun w hw => hv w (List.mem_cons_of_mem _ hw); show cnt ([v] :: ones1 l) _ = _
  cases hn : v.Null with
  | true =>
   rw [cnt_yes (by rw [null_is (hv v (List.Mem.head _)) hn]), h]; simp [nnul, hn]
  | false =>
   rw [cnt_no (by intro e; simp at e; rw [e] at hn; cases hn), h]; simp [nnul, hn]

theorem stat_at {t : Tab} (h : VT t) {c : Nat} (hc : c < Int.toNat t.Width) :
  getD (iStatsOf t).Distinct c 0 = ((dnum (col t.Rows c)).length : Int) ∧ getD (iStatsOf t).Nulls c 0 = (nnul (col t.Rows c) : Int) := by
 rw [iStatsOf_yes h]; simp [statistics, dcols, ncols, List.getD_eq_getElem?_getD, hc]

theorem eqInts_self (a : List Int) : eqInts a a = true := by
 unfold eqInts; rw [bne_self_eq_false, cond_false]; rcases stop_loop false a.length (fun i => getD a i 0 != getD a i 0) (eqInts_l0 a a) (fun k i => rfl) (a.length - 0 + 1) 0 (by omega) with ⟨h, _⟩ | ⟨_, j, _, _, h⟩
 · rw [h]; rfl
 · simp at h

theorem valid_stats {t : Tab} (h : VT t) : iValidStats (iStatsOf t) t.Width = true := by
 have hw := h.w1; have hw6 := h.w6; have hn := h.n4; have hsf := stat_facts h; (have hR : (iStatsOf t).Rows = (t.Rows.length : Int) := by rw [iStatsOf_yes h]; rfl); unfold iValidStats; rw [validWidth_iff.2 ⟨hw, hw6⟩, hR]; simp only [Bool.not_true, cond_false]; rw [decide_eq_false (by omega : ¬ (t.Rows.length : Int) < 0), cond_false, decide_eq_false (by omega : ¬ (400 : Int) < (t.Rows.length : Int)), cond_false, hsf.1.1, hsf.1.2]; (have e : (((Int.toNat t.Width : Nat) : Int) != t.Width) = false := by rw [bne_eq_false_iff_eq]; omega); rw [e, cond_false, cond_false]
 rcases stop_loop false (Int.toNat t.Width) (fun i => bif (bif (decide ((getD (Sta.Nulls (iStatsOf t)) i 0) < 0)) then true else (decide ((Sta.Rows (iStatsOf t)) < (getD (Sta.Nulls (iStatsOf t)) i 0)))) then true else (bif (decide ((getD (Sta.Distinct (iStatsOf t)) i 0) < 0)) then true else (decide (((Sta.Rows (iStatsOf t)) - (getD (Sta.Nulls (iStatsOf t)) i 0)) < (getD (Sta.Distinct (iStatsOf t)) i 0)))))
   (iValidStats_l0 (iStatsOf t) t.Width) (fun k i => by
    rw [iValidStats_l0, show decide ((i : Int) < t.Width) = decide ((i : Int) < ((Int.toNat t.Width : Nat) : Int)) by congr 1; apply propext; omega]
    cases (bif (decide ((getD (Sta.Nulls (iStatsOf t)) i 0) < 0)) then true else (decide ((Sta.Rows (iStatsOf t)) < (getD (Sta.Nulls (iStatsOf t)) i 0)))) <;> rfl) (Int.toNat (t.Width - ((0 : Nat) : Int)) + 1) 0 (by omega) with ⟨h1, _⟩ | ⟨_, j, _, hj, hb⟩
 · rw [h1]; rfl
 ·
  obtain ⟨e1, e2⟩ := stat_at h hj; have := fold_room (col t.Rows j) []
  rw [col_len] at this
  simp only [List.length_nil, Nat.zero_add] at this
  have hd : (dnum (col t.Rows j)).length + nnul (col t.Rows j) ≤ t.Rows.length := this
  rw [e1, e2, hR, decide_eq_false (by omega), cond_false, decide_eq_false (by omega), cond_false, decide_eq_false (by omega), cond_false, decide_eq_false (by omega)] at hb; cases hb

theorem law_l0 (code : List Int) (h : VT (DrawStatsOf code)) : ∀ (k c : Nat), FnStatsOf_l0 code k c = .inl () := by
 intro k
 induction k with
 | zero => intro c; rfl
 | succ k ih =>
  intro c; unfold FnStatsOf_l0
  cases hd : decide ((c : Int) < Tab.Width (DrawStatsOf code)) with
  | false => rfl
  | true =>
   (have hc : c < Int.toNat (DrawStatsOf code).Width := by have := of_decide_eq_true hd; omega); rw [cond_true]; unfold andThen; rw [law_l1 code c _ 0 [] (by omega), List.drop_zero, List.nil_append]; simp only; obtain ⟨e1, e2⟩ := stat_at h hc; have hf := ones_fit h hc; have hvt := vt_srt hf; have hvv := col_vv h hc; have hD := iDistinctRows_yes hvt
   have hlen : (diffRows (srtRows (ones1 (col (DrawStatsOf code).Rows c)))).length = (dnum (col (DrawStatsOf code).Rows c)).length + (if 0 < nnul (col (DrawStatsOf code).Rows c) then 1 else 0) := by
    refine diff_len hvv ?_ fun x => ?_
    ·
     refine (diffRows_strict hvt.rowsW hvt.rsorted).imp fun {a b} hab => ?_; rintro rfl
     have : rlt a a = false := by
      unfold rlt; rw [lexI_self]; rfl
     rw [this] at hab; cases hab
    · rw [diffRows_mem hvt.rowsW, srtRows_mem]
   have hcnt : iCountRow ⟨1, srtRows (ones1 (col (DrawStatsOf code).Rows c))⟩ [⟨true, 0⟩] = (nnul (col (DrawStatsOf code).Rows c) : Int) := by
    rw [iCountRow_eq hvt, cnt_perm (srtRows_perm _), cnt_null _ hvv]
   rw [iTableOf_yes hf]; simp only; rw [hD, e1, e2, hcnt]; simp only [Bool.not_true, cond_false, hlen]; by_cases hp : 0 < nnul (col (DrawStatsOf code).Rows c)
   · rw [decide_eq_true (by omega : (0 : Int) < (nnul (col (DrawStatsOf code).Rows c) : Int)), cond_true, if_pos hp]; simp [ih]
   · rw [decide_eq_false (by omega : ¬ (0 : Int) < (nnul (col (DrawStatsOf code).Rows c) : Int)), cond_false, if_neg hp]; simp [ih]

theorem FnStatsOf_law (code : List Int) : FnStatsOf code = true := by
 unfold FnStatsOf; rw [← stats_same]
 cases (decide (1048576 < (length code : Int))) with
 | true => rfl
 | false =>
  rw [cond_false, bne_self_eq_false, cond_false, eqInts_self, eqInts_self]; by_cases h : VT (DrawStatsOf code)
  · rw [ValidTable_iff.2 h, law_l0 code h]; (have hR : (iStatsOf (DrawStatsOf code)).Rows = ((DrawStatsOf code).Rows.length : Int) := by rw [iStatsOf_yes h]; rfl); simp only [Bool.not_true, cond_false, Sum.elim_inl]; rw [valid_stats h, hR]; simp
  ·
   have : ValidTable (DrawStatsOf code) = false := by
    cases e : ValidTable (DrawStatsOf code) with
    | true => exact absurd (ValidTable_iff.1 e) h
    | false => rfl
   rw [this]; simp

end
end Go.Proofs.Ytjcjpeckfikfkaa
