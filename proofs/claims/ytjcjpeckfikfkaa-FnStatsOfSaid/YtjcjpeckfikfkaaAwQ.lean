/-
  A part of the proof of this claim (AwQ): what functions of the program compute, and plain facts of that. No conditions.
-/
import Derived.Test.YtjcjpeckfikfkaaAwO
import Derived.Test.YtjcjpeckfikfkaaAwJ
set_option linter.all false
namespace Go.Proofs.Ytjcjpeckfikfkaa
open Go Go.Am
open List (length getD drop)
noncomputable section

/-! ### Equal rows, counted -/

theorem getD_row {rows : List (List Val)} {i : Nat} (h : i < rows.length) : rows.getD i [] = rows[i] := by
 rw [List.getD_eq_getElem?_getD, List.getElem?_eq_getElem h]; rfl

theorem getD_val {r : List Val} {i : Nat} (h : i < r.length) : r.getD i Val.zero = r[i] := by
 rw [List.getD_eq_getElem?_getD, List.getElem?_eq_getElem h]; rfl

theorem eqVal_iff {v w : Val} : (bif v.Null == w.Null then (bif v.N == w.N then true else false) else false) = true ↔ v = w := by
 constructor
 ·
  intro h
  have h1 : v.Null = w.Null := by
   cases e : v.Null == w.Null with
   | true => exact eq_of_beq e
   | false => rw [e] at h; cases h
  have h2 : v.N = w.N := by
   cases e : v.N == w.N with
   | true => exact eq_of_beq e
   | false => rw [e, h1, beq_self_eq_true] at h; cases h
  exact Val.ext' h1 h2
 · rintro rfl; exact eqV_self v

theorem equalRows_iff {a b : List Val} : equalRows a b = true ↔ a = b := by
 constructor
 ·
  intro h; unfold equalRows at h; by_cases hl : a.length = b.length
  ·
   rw [bne_eq_false_iff_eq.2 (by omega), cond_false] at h; rcases stop_loop false a.length (fun i => !(bif ((Val.Null (getD a i Val.zero)) == (Val.Null (getD b i Val.zero))) then (bif ((Val.N (getD a i Val.zero)) == (Val.N (getD b i Val.zero))) then true else false) else false)) (equalRows_l0 a b) (fun k i => rfl) (a.length - 0 + 1) 0 (by omega) with ⟨_, h2⟩ | ⟨h2, _⟩
   ·
    apply List.ext_getElem hl; intro i hi hi'; have := eqVal_iff.1 (not_neg (h2 i (Nat.zero_le _) hi))
    rwa [getD_val hi, getD_val hi'] at this
   · rw [h2] at h; cases h
  ·
   have : ((length a : Int) != (length b : Int)) = true := by
    simp only [bne_iff_ne, ne_eq]; omega
   rw [this] at h; cases h
 · rintro rfl; exact equalRows_self a

theorem cmpVal_zero {v w : Val} : compareValues v w = 0 ↔ v = w := by
 unfold compareValues; constructor
 ·
  intro h
  cases e : (bif v.Null == w.Null then (bif v.N == w.N then true else false) else false) with
  | true => exact eqVal_iff.1 e
  | false =>
   rw [e, cond_false] at h
   cases q : (bif v.Null then true else (bif (!(Val.Null w)) then (decide (v.N < w.N)) else false)) with
   | true => rw [q] at h; cases h
   | false => rw [q] at h; cases h
 · rintro rfl; rw [eqV_self, cond_true]

theorem compareRows_l0_zero (a b : List Val) : ∀ (k i : Nat), a.length - i < k → i ≤ a.length → i ≤ b.length →
  (Sum.elim (fun _ => ((length a : Int) - (length b : Int))) (fun r => r) (compareRows_l0 a b k i) = 0 ↔ a.drop i = b.drop i) := by
 intro k
 induction k with
 | zero => intro i h; omega
 | succ k ih =>
  intro i hk hia hib; unfold compareRows_l0; by_cases hi : i < a.length ∧ i < b.length
  ·
   obtain ⟨h1, h2⟩ := hi; simp only [decide_eq_true (by omega : (i : Int) < (length a : Int)), decide_eq_true (by omega : (i : Int) < (length b : Int)), cond_true]; rw [List.drop_eq_getElem_cons h1, List.drop_eq_getElem_cons h2, List.cons.injEq, getD_val h1, getD_val h2]; by_cases hc : compareValues a[i] b[i] = 0
   · rw [hc, bne_self_eq_false, cond_false, ih (i + 1) (by omega) (by omega) (by omega)]; exact ⟨fun h => ⟨cmpVal_zero.1 hc, h⟩, fun h => h.2⟩
   · rw [bne_iff_ne.2 hc, cond_true, Sum.elim_inr]; exact ⟨fun h => absurd h hc, fun h => absurd (cmpVal_zero.2 h.1) hc⟩
  ·
   have e : (bif (decide ((i : Int) < (length a : Int))) then (decide ((i : Int) < (length b : Int))) else false) = false := by
    by_cases h1 : i < a.length
    · rw [decide_eq_true (by omega), cond_true]; exact decide_eq_false (by omega)
    · rw [decide_eq_false (by omega), cond_false]
   rw [e, cond_false, Sum.elim_inl]; constructor
   · intro h; rw [List.drop_of_length_le (by omega), List.drop_of_length_le (by omega)]
   ·
    intro h; have := congrArg length h
    simp only [List.length_drop] at this
    omega

theorem compareRows_zero {a b : List Val} : compareRows a b = 0 ↔ a = b := by
 have := compareRows_l0_zero a b (a.length - 0 + 1) 0 (by omega) (Nat.zero_le _) (Nat.zero_le _)
 rw [List.drop_zero, List.drop_zero] at this
 exact this

def cnt (rows : List (List Val)) (r : List Val) : Nat := rows.countP fun x => equalRows x r

theorem cnt_perm {a b : List (List Val)} (h : a.Perm b) (r : List Val) : cnt a r = cnt b r := h.countP_eq _
theorem cnt_append (a b : List (List Val)) (r : List Val) : cnt (a ++ b) r = cnt a r + cnt b r := List.countP_append
theorem cnt_pos {rows : List (List Val)} {r : List Val} : 0 < cnt rows r ↔ r ∈ rows := by
 unfold cnt; rw [List.countP_pos_iff]; constructor
 · rintro ⟨x, hx, h⟩; rw [← equalRows_iff.1 h]; exact hx
 · intro h; exact ⟨r, h, equalRows_self r⟩

theorem cnt_yes {x r : List Val} (h : x = r) (l : List (List Val)) : cnt (x :: l) r = cnt l r + 1 :=
 List.countP_cons_of_pos (p := fun x => equalRows x r) (equalRows_iff.2 h)
theorem cnt_no {x r : List Val} (h : x ≠ r) (l : List (List Val)) : cnt (x :: l) r = cnt l r :=
 List.countP_cons_of_neg (p := fun x => equalRows x r) fun e => h (equalRows_iff.1 e)

theorem countRow_l0_eq (rows : List (List Val)) (row : List Val) : ∀ (k n i : Nat), rows.length - i < k → countRow_l0 rows row k n i = n + cnt (rows.drop i) row := by
 intro k
 induction k with
 | zero => intro n i h; omega
 | succ k ih =>
  intro n i hk; unfold countRow_l0; by_cases hi : i < rows.length
  ·
   rw [decide_eq_true (by omega : (i : Int) < (length rows : Int)), cond_true, List.drop_eq_getElem_cons hi, getD_row hi]; by_cases hc : rows[i] = row
   · rw [beq_iff_eq.2 (compareRows_zero.2 hc), cond_true, ih _ _ (by omega), cnt_yes hc]; omega
   · rw [beq_eq_false_iff_ne.2 (fun h => hc (compareRows_zero.1 h)), cond_false, ih _ _ (by omega), cnt_no hc]
  · rw [decide_eq_false (by omega), cond_false, List.drop_of_length_le (by omega)]; rfl

theorem countRow_eq (rows : List (List Val)) (row : List Val) : countRow rows row = ((cnt rows row : Nat) : Int) := by
 have := countRow_l0_eq rows row (rows.length - 0 + 1) 0 0 (by omega)
 rw [List.drop_zero, Nat.zero_add] at this
 rw [← this]; rfl

theorem VT.rowsW {t : Tab} (h : VT t) : RowsW t.Width.toNat t.Rows := RowsW.of_getD fun j hj => by
 have := h.rows j hj; refine ⟨this.1, ?_⟩; have h2 : (((t.Rows.getD j []).length : Nat) : Int) = t.Width := this.2; omega

theorem VT.rsorted {t : Tab} (h : VT t) : RSorted t.Rows := by
 have hw := h.rowsW
 -- neighbours are in order, so all are
 have nb : ∀ i (hi : i + 1 < t.Rows.length), rlt t.Rows[i + 1] t.Rows[i] = false := fun i hi => by
  have := h.sorted (i + 1) hi (by omega)
  rw [show i + 1 - 1 = i by omega] at this
  have h1 : compareRows (t.Rows.getD i []) (t.Rows.getD (i + 1) []) ≤ 0 := this
  rw [getD_row hi, getD_row (by omega)] at h1; exact (cmp_le (hw _ (List.getElem_mem _)) (hw _ (List.getElem_mem _))).1 h1
 unfold RSorted; rw [List.pairwise_iff_getElem]
 have key : ∀ d i (hi : i + d + 1 < t.Rows.length), rlt t.Rows[i + d + 1] t.Rows[i] = false := by
  intro d
  induction d with
  | zero => intro i hi; exact nb i hi
  | succ d ih =>
   intro i hi; have h1 := ih i (by omega); have h2 := nb (i + d + 1) (by omega); exact rle_trans h1 h2
 intro i j hi hj hij; have := key (j - i - 1) i (by omega); have e : i + (j - i - 1) + 1 = j := by omega
 simp only [e] at this
 exact this

theorem iCountRow_l0_spec {wd : Nat} {t : Tab} {row : List Val} (h : RowsW wd t.Rows) (hr : VR row ∧ row.length = wd) (hs : RSorted t.Rows) : ∀ (k : Nat) (low high : Int), 0 ≤ low → low ≤ high → high ≤ t.Rows.length → high - low < k →
  (∀ i : Nat, (i : Int) < low → i < t.Rows.length → rlt (t.Rows.getD i []) row = true) → (∀ i : Nat, high ≤ (i : Int) → i < t.Rows.length → rlt (t.Rows.getD i []) row = false) →
  0 ≤ iCountRow_l0 t row k low high ∧ iCountRow_l0 t row k low high ≤ t.Rows.length ∧ (∀ i : Nat, (i : Int) < iCountRow_l0 t row k low high → i < t.Rows.length → rlt (t.Rows.getD i []) row = true) ∧ (∀ i : Nat, iCountRow_l0 t row k low high ≤ (i : Int) → i < t.Rows.length → rlt (t.Rows.getD i []) row = false) := by
 have hgw : ∀ i : Nat, i < t.Rows.length → VR (t.Rows.getD i []) ∧ (t.Rows.getD i []).length = wd := fun i hi => h _ (by rw [getD_row hi]; exact List.getElem_mem hi)
 have hord : ∀ i j : Nat, i < j → j < t.Rows.length → rlt (t.Rows.getD j []) (t.Rows.getD i []) = false := fun i j hij hj => by
  rw [getD_row hj, getD_row (by omega)]; exact List.pairwise_iff_getElem.1 hs i j (by omega) hj hij
 have tr : ∀ {a b c : List Val}, rlt b a = false → rlt b c = true → rlt a c = true := fun {a b c} h1 h2 => by
  cases q : rlt a c with
  | true => rfl
  | false =>
   have := rle_trans q h1; rw [this] at h2; cases h2
 intro k
 induction k with
 | zero => intro low high h1 h2 h3 h4; omega
 | succ k ih =>
  intro low high h1 h2 h3 h4 h5 h6; unfold iCountRow_l0; by_cases hlt : low < high
  ·
   have e2 : (low + high) / 2 ^ 1 = (low + high) / 2 := rfl; rw [decide_eq_true hlt, cond_true, e2]; (have hm : (low + high) / 2 < high := by omega); (have hm0 : low ≤ (low + high) / 2 := by omega); (have hmn : Int.toNat ((low + high) / 2) < t.Rows.length := by omega); have hq := hgw _ hmn; by_cases hc : icompareRows (t.Rows.getD (Int.toNat ((low + high) / 2)) []) row < 0
   ·
    rw [decide_eq_true hc, cond_true]
    have hc : rlt (t.Rows.getD (Int.toNat ((low + high) / 2)) []) row = true := by
     rw [iRows_lex hq.1 hr.1 (by omega)] at hc; exact decide_eq_true hc
    refine ih _ _ (by omega) (by omega) h3 (by omega) (fun i hi hil => ?_) h6; by_cases e : i = Int.toNat ((low + high) / 2)
    · rw [e]; exact hc
    · exact tr (hord i _ (by omega) hmn) hc
   ·
    rw [decide_eq_false hc, cond_false]
    have hc : rlt (t.Rows.getD (Int.toNat ((low + high) / 2)) []) row = false := by
     rw [iRows_lex hq.1 hr.1 (by omega)] at hc; exact decide_eq_false hc
    refine ih _ _ h1 (by omega) (by omega) (by omega) h5 (fun i hi hil => ?_); by_cases e : i = Int.toNat ((low + high) / 2)
    · rw [e]; exact hc
    ·
     cases q : rlt (t.Rows.getD i []) row with
     | false => rfl
     | true =>
      have := tr (hord _ i (by omega : Int.toNat ((low + high) / 2) < i) hil) q; rw [this] at hc; cases hc
  · rw [decide_eq_false hlt, cond_false]; exact ⟨h1, by omega, h5, fun i hi => h6 i (by omega)⟩

theorem cmp_zero {wd : Nat} {a b : List Val} (ha : VR a ∧ a.length = wd) (hb : VR b ∧ b.length = wd) : icompareRows a b = 0 ↔ a = b := by
 rw [cmpRows ha.1 hb.1 (by omega)]; exact compareRows_zero

theorem iCountRow_l1_eq {wd : Nat} {t : Tab} {row : List Val} {lo : Int} (hw : RowsW wd (t.Rows.drop lo.toNat)) (hr : VR row ∧ row.length = wd) (hs : RSorted (t.Rows.drop lo.toNat)) (hge : ∀ x ∈ t.Rows.drop lo.toNat, rlt x row = false) : ∀ (k n i : Nat), (t.Rows.drop lo.toNat).length - i < k →
  iCountRow_l1 t row lo k n i = n + cnt ((t.Rows.drop lo.toNat).drop i) row := by
 intro k
 induction k with
 | zero => intro n i h; omega
 | succ k ih =>
  intro n i hk; unfold iCountRow_l1; by_cases hi : i < (t.Rows.drop lo.toNat).length
  ·
   rw [decide_eq_true (by omega : (i : Int) < (length (t.Rows.drop lo.toNat) : Int)), cond_true, getD_row hi, List.drop_eq_getElem_cons hi]; have hx := hw _ (List.getElem_mem hi); by_cases hc : (t.Rows.drop lo.toNat)[i] = row
   · rw [bne_eq_false_iff_eq.2 ((cmp_zero hx hr).2 hc), cond_false, ih _ _ (by omega)]; rw [cnt_yes hc]; omega
   ·
    have hn : icompareRows (t.Rows.drop lo.toNat)[i] row ≠ 0 := fun h => hc ((cmp_zero hx hr).1 h); rw [bne_iff_ne.2 hn, cond_true]
    have h0 : cnt ((t.Rows.drop lo.toNat)[i] :: (t.Rows.drop lo.toNat).drop (i + 1)) row = 0 := by
     unfold cnt; rw [List.countP_eq_zero]; intro y hy h; have hy' := equalRows_iff.1 h; rcases List.mem_cons.1 hy with rfl | hy
     · exact hc hy'
     · have h1 := hge _ (List.getElem_mem hi); obtain ⟨j, hj, rfl⟩ := List.mem_iff_getElem.1 hy; rw [List.length_drop] at hj; rw [List.getElem_drop] at hy'; have h2 := List.pairwise_iff_getElem.1 hs i (i + 1 + j) hi (by omega) (by omega); rw [hy'] at h2; simp only [rlt, decide_eq_false_iff_not] at h1 h2; have e := lexI_neg (rkey row) (rkey (t.Rows.drop lo.toNat)[i]); exact hc (rkey_inj hx.1.mem hr.1.mem (lexI_zero (by omega)))
    rw [h0]; rfl
  · rw [decide_eq_false (by omega), cond_false, List.drop_of_length_le (by omega)]; rfl

theorem iCountRow_yes {t : Tab} (ht : VT t) {row : List Val} (hr : VR row ∧ row.length = t.Width.toNat) : iCountRow t row = ((cnt t.Rows row : Nat) : Int) := by
 unfold iCountRow; rw [ValidTable_iff.2 ht, Bool.not_true, cond_false, ivalidRow_iff.2 hr.1, bne_eq_false_iff_eq.2 (by have := ht.w1; omega)]; simp only [Bool.not_true, cond_false]; obtain ⟨p1, p2, p3, p4⟩ := iCountRow_l0_spec ht.rowsW hr ht.rsorted (Int.toNat ((length (Tab.Rows t) : Int) - 0) + 1) 0 (length (Tab.Rows t) : Int) (Int.le_refl _) (by omega) (Int.le_refl _) (by omega) (fun i hi => by omega) (fun i hi => by omega); dsimp only [andThen]; generalize iCountRow_l0 t row (Int.toNat ((length (Tab.Rows t) : Int) - 0) + 1) 0 (length (Tab.Rows t) : Int) = lo at *; have hdm : ∀ x, x ∈ t.Rows.drop lo.toNat → x ∈ t.Rows := fun x hx => List.mem_of_mem_drop hx
 have := iCountRow_l1_eq (lo := lo) (ht.rowsW.sub hdm) hr (List.Pairwise.sublist (List.drop_sublist _ _) ht.rsorted) (fun x hx => by
  obtain ⟨j, hj, rfl⟩ := List.mem_iff_getElem.1 hx; rw [List.length_drop] at hj; rw [List.getElem_drop]; have := p4 (lo.toNat + j) (by omega) (by omega)
  rwa [getD_row (by omega)] at this) ((length (drop (Int.toNat lo) (Tab.Rows t))) - 0 + 1) 0 0 (by omega)
 rw [this, List.drop_zero, Nat.zero_add]; have e : cnt t.Rows row = cnt (t.Rows.take lo.toNat) row + cnt (t.Rows.drop lo.toNat) row := by rw [← cnt_append, List.take_append_drop]
 have h0 : cnt (t.Rows.take lo.toNat) row = 0 := by
  unfold cnt; rw [List.countP_eq_zero]; intro y hy h; have hy' := equalRows_iff.1 h; obtain ⟨j, hj, rfl⟩ := List.mem_iff_getElem.1 hy; rw [List.length_take] at hj; rw [List.getElem_take] at hy'; have := p3 j (by omega) (by omega)
  rw [getD_row (by omega), hy', rlt, lexI_self] at this
  cases this
 rw [e, h0, Nat.zero_add]

theorem iCountRow_bad {t : Tab} (ht : VT t) {row : List Val} (hr : ¬ (VR row ∧ row.length = t.Width.toNat)) : iCountRow t row = 0 := by
 unfold iCountRow; rw [ValidTable_iff.2 ht, Bool.not_true, cond_false]
 cases e : (bif ((length row : Int) != (Tab.Width t)) then true else (!(ivalidRow row))) with
 | true => rfl
 | false =>
  have e := or_neg e; have h1 := e.1; simp only [bne_eq_false_iff_eq] at h1; exact absurd ⟨ivalidRow_iff.1 (not_neg e.2), by omega⟩ hr

theorem cnt_bad {t : Tab} (ht : VT t) {row : List Val} (hr : ¬ (VR row ∧ row.length = t.Width.toNat)) : cnt t.Rows row = 0 := by
 cases e : cnt t.Rows row with
 | zero => rfl
 | succ n => exact absurd (ht.rowsW _ (cnt_pos.1 (by omega))) hr

theorem iCountRow_eq {t : Tab} (ht : VT t) (row : List Val) : iCountRow t row = ((cnt t.Rows row : Nat) : Int) := by
 by_cases hr : VR row ∧ row.length = t.Width.toNat
 · exact iCountRow_yes ht hr
 · rw [iCountRow_bad ht hr, cnt_bad ht hr]; rfl

end
end Go.Proofs.Ytjcjpeckfikfkaa
