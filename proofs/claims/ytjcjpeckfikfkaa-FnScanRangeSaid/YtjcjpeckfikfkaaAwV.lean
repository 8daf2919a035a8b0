/-
  A part of the proof of this claim (AwV): what functions of the program compute, and plain facts of that. No conditions.
-/
import Derived.Test.YtjcjpeckfikfkaaAwQ
set_option linter.all false
namespace Go.Proofs.Ytjcjpeckfikfkaa
open Go Go.Am
noncomputable section

/-! ### Rows, each once -/

theorem collectD_l0_eq (width : Int) : ∀ (l ar : List (List Val)), ar.length + l.length ≤ 400 → collectD_l0 width l ar = .inl (ar ++ l) := by
 intro l
 induction l with
 | nil => intro ar h; simp [collectD_l0]
 | cons r l ih =>
  intro ar h
  simp only [List.length_cons] at h
  unfold collectD_l0
  rw [beq_eq_false_iff_ne.2 (by omega), cond_false, icopied_eq, ih _ (by simp only [List.length_append, List.length_cons, List.length_nil]; omega)]
  simp

theorem diffP_sublist {α : Type} {same : α → α → Bool} : ∀ (l : List α) (p : Option α), (diffP same p l).Sublist l := by
 intro l
 induction l with
 | nil => intro p; exact List.Sublist.slnil
 | cons y l ih =>
  intro p
  simp only [diffP]
  cases likeP same p y with
  | true => rw [cond_true]; exact (ih _).cons _
  | false => rw [cond_false]; exact (ih _).cons_cons _

theorem diffRows_sublist (rows : List (List Val)) : (diffRows rows).Sublist rows := diffP_sublist _ _

theorem srt_self {wd : Nat} {rows : List (List Val)} (h : RowsW wd rows) (hs : RSorted rows) : srtRows rows = rows := (srtRows_eq h (List.Perm.refl _) hs).symm

theorem collectD_eq {wd : Nat} (width : Int) {rows : List (List Val)} (h : RowsW wd rows) (hs : RSorted rows) (hn : rows.length ≤ 400) : collectD width rows = ⟨width, diffRows rows⟩ := by
 have hd := (diffRows_sublist rows).length_le
 unfold collectD
 rw [collectD_l0_eq _ _ _ (by simp only [List.length_nil]; omega), Sum.elim_inl, List.nil_append]
 show (⟨width, srtRows (diffRows rows)⟩ : Tab) = _
 rw [srt_self (h.sub fun r hr => (diffRows_sublist rows).mem hr) (List.Pairwise.sublist (diffRows_sublist rows) hs)]

theorem iDistinctRows_yes {t : Tab} (h : VT t) : iDistinctRows t = (⟨t.Width, diffRows t.Rows⟩, true) := by
 unfold iDistinctRows
 rw [ValidTable_iff.2 h, Bool.not_true, cond_false, show differentRowsF t.Rows = t.Rows from rfl, collectD_eq t.Width h.rowsW h.rsorted h.n4]

theorem iDistinctRows_no {t : Tab} (h : ¬ VT t) : iDistinctRows t = (⟨0, []⟩, false) := by
 unfold iDistinctRows
 cases e : ValidTable t with
 | true => exact absurd (ValidTable_iff.1 e) h
 | false => rfl

theorem distinctRows_l0_eq {wd : Nat} {t : Tab} (h : RowsW wd t.Rows) : ∀ (k i : Nat) (ar : List (List Val)), t.Rows.length - i < k → i ≤ t.Rows.length → distinctRows_l0 t k i ar = ar ++ diffP (fun x y => icompareRows x y == 0) (prevAt t.Rows i) (t.Rows.drop i) := by
 intro k
 induction k with
 | zero => intro i ar hk; omega
 | succ k ih =>
  intro i ar hk hi
  unfold distinctRows_l0
  by_cases hlt : i < t.Rows.length
  ·
   rw [decide_eq_true (by omega : ((i : Nat) : Int) < ((List.length t.Rows : Nat) : Int)), cond_true, List.drop_eq_getElem_cons hlt, getD_row hlt, copyRow_eq]
   have hpi : prevAt t.Rows (i + 1) = some t.Rows[i] := List.getElem?_eq_getElem hlt
   have e : (bif (((i : Nat) : Int) == 0) then true else ((compareRows (List.getD t.Rows (Int.toNat (((i : Nat) : Int) - 1)) []) t.Rows[i]) != 0)) = !(likeP (fun x y => icompareRows x y == 0) (prevAt t.Rows i) t.Rows[i]) := by
    cases i with
    | zero => rfl
    | succ i =>
     have hi' : i < t.Rows.length := by omega
     have hp : prevAt t.Rows (i + 1) = some t.Rows[i] := List.getElem?_eq_getElem hi'
     rw [hp, beq_eq_false_iff_ne.2 (by omega), cond_false, toNat_pred, Nat.add_sub_cancel, getD_row hi']
     have := cmpRows (h _ (List.getElem_mem hi')).1 (h _ (List.getElem_mem hlt)).1 (by rw [(h _ (List.getElem_mem hi')).2, (h _ (List.getElem_mem hlt)).2])
     show _ = !(icompareRows _ _ == 0)
     rw [this]
     rfl
   rw [e]
   simp only [diffP]
   cases likeP (fun x y => icompareRows x y == 0) (prevAt t.Rows i) t.Rows[i] with
   | true =>
    simp only [Bool.not_true, cond_false, cond_true]
    rw [ih _ _ (by omega) (by omega), hpi]
   | false =>
    simp only [Bool.not_false, cond_false, cond_true]
    rw [ih _ _ (by omega) (by omega), hpi, List.append_assoc]
    rfl
  ·
   rw [decide_eq_false (by omega), cond_false, List.drop_of_length_le (by omega)]
   simp [diffP]

theorem distinct_same (t : Tab) : iDistinctRows t = sDistinctRows t := by
 unfold sDistinctRows
 rw [vt_eq]
 by_cases h : VT t
 ·
  rw [iDistinctRows_yes h, ValidTable_iff.2 h, Bool.not_true, cond_false]
  have := distinctRows_l0_eq h.rowsW (t.Rows.length - 0 + 1) 0 [] (by omega) (Nat.zero_le _)
  rw [List.drop_zero, List.nil_append] at this
  unfold distinctRows
  dsimp only [Go.Am.andThen]
  rw [this]
  rfl
 ·
  rw [iDistinctRows_no h]
  cases e : ValidTable t with
  | true => exact absurd (ValidTable_iff.1 e) h
  | false => rfl

theorem iDistinctRows_len (t : Tab) : (iDistinctRows t).1.Rows.length ≤ 400 := by
 by_cases h : VT t
 ·
  rw [iDistinctRows_yes h]
  have := (diffRows_sublist t.Rows).length_le
  have := h.n4
  show (diffRows t.Rows).length ≤ 400
  omega
 ·
  rw [iDistinctRows_no h]
  exact Nat.zero_le _

theorem diffP_strict {wd : Nat} : ∀ (l : List (List Val)) (p : Option (List Val)), RowsW wd l → RSorted l → (∀ q, p = some q → (VR q ∧ q.length = wd) ∧ ∀ x ∈ l, rlt x q = false) →
  (diffP (fun x y => icompareRows x y == 0) p l).Pairwise (fun x y => rlt x y = true) ∧ ∀ q, p = some q → ∀ x ∈ diffP (fun x y => icompareRows x y == 0) p l, rlt q x = true := by
 intro l
 induction l with
 | nil => intro p _ _ _; exact ⟨List.Pairwise.nil, fun q _ x hx => by cases hx⟩
 | cons y l ih =>
  intro p hw hs hp
  have hy := hw y List.mem_cons_self
  obtain ⟨s1, s2⟩ := List.pairwise_cons.1 hs
  have ih' := ih (some y) (hw.sub fun r hr => List.mem_cons_of_mem _ hr) s2 (fun q e => by
   obtain rfl := Option.some.inj e
   exact ⟨hy, s1⟩)
  have strict : ∀ {a b : List Val}, (VR a ∧ a.length = wd) → (VR b ∧ b.length = wd) → rlt b a = false → icompareRows a b ≠ 0 → rlt a b = true := by
   intro a b ha hb h1 h2
   have h3 : a ≠ b := fun e => h2 ((cmp_zero ha hb).2 e)
   simp only [rlt, decide_eq_false_iff_not, decide_eq_true_eq] at *
   have e := lexI_neg (rkey a) (rkey b)
   rcases Int.lt_trichotomy (lexI (rkey a) (rkey b)) 0 with q | q | q
   ·
    exact q
   ·
    exact absurd (rkey_inj ha.1.mem hb.1.mem (lexI_zero q)) h3
   ·
    omega
  simp only [diffP]
  cases p with
  | none =>
   simp only [likeP, cond_false]
   exact ⟨List.pairwise_cons.2 ⟨fun x hx => ih'.2 y rfl x hx, ih'.1⟩, fun q e => by cases e⟩
  | some q =>
   obtain ⟨hq, hql⟩ := hp q rfl
   simp only [likeP]
   cases e : (icompareRows q y == 0) with
   | true =>
    simp only [cond_true]
    obtain rfl := (cmp_zero hq hy).1 (eq_of_beq e)
    exact ⟨ih'.1, fun q' e => by obtain rfl := Option.some.inj e; exact ih'.2 q rfl⟩
   | false =>
    simp only [cond_false]
    have hqy := strict hq hy (hql y List.mem_cons_self) (fun h => by rw [h] at e; cases e)
    refine ⟨List.pairwise_cons.2 ⟨fun x hx => ih'.2 y rfl x hx, ih'.1⟩, fun q' e' x hx => ?_⟩
    obtain rfl := Option.some.inj e'
    rcases List.mem_cons.1 hx with rfl | hx
    ·
     exact hqy
    ·
     have := ih'.2 y rfl x hx
     simp only [rlt, decide_eq_true_eq] at *
     exact lexI_trans hqy this

theorem diffRows_strict {wd : Nat} {rows : List (List Val)} (h : RowsW wd rows) (hs : RSorted rows) : (diffRows rows).Pairwise fun x y => rlt x y = true :=
 (diffP_strict rows none h hs (fun q e => by cases e)).1

theorem diffP_id {wd : Nat} : ∀ (l : List (List Val)) (p : Option (List Val)), RowsW wd l → l.Pairwise (fun x y => rlt x y = true) → (∀ q, p = some q → (VR q ∧ q.length = wd) ∧ ∀ x ∈ l, rlt q x = true) → diffP (fun x y => icompareRows x y == 0) p l = l := by
 intro l
 induction l with
 | nil => intro p _ _ _; rfl
 | cons y l ih =>
  intro p hw hs hp
  obtain ⟨s1, s2⟩ := List.pairwise_cons.1 hs
  have hy := hw y List.mem_cons_self
  have ih' := ih (some y) (hw.sub fun r hr => List.mem_cons_of_mem _ hr) s2 (fun q e => by
   obtain rfl := Option.some.inj e
   exact ⟨hy, s1⟩)
  simp only [diffP]
  have e : likeP (fun x y => icompareRows x y == 0) p y = false := by
   cases p with
   | none => rfl
   | some q =>
    obtain ⟨hq, hql⟩ := hp q rfl
    have h1 := hql y List.mem_cons_self
    refine beq_eq_false_iff_ne.2 fun h => ?_
    rw [(cmp_zero hq hy).1 h, rlt, lexI_self] at h1
    cases h1
  rw [e, cond_false, ih']

theorem diffRows_id {wd : Nat} {rows : List (List Val)} (h : RowsW wd rows) (hs : RSorted rows) : diffRows (diffRows rows) = diffRows rows :=
 diffP_id _ none (h.sub fun r hr => (diffRows_sublist rows).mem hr) (diffRows_strict h hs) (fun q e => by cases e)

theorem diffP_cover {wd : Nat} : ∀ (l : List (List Val)) (p : Option (List Val)), RowsW wd l → (∀ q, p = some q → VR q ∧ q.length = wd) → ∀ x ∈ l, x ∈ diffP (fun x y => icompareRows x y == 0) p l ∨ p = some x := by
 intro l
 induction l with
 | nil => intro p _ _ x hx; cases hx
 | cons y l ih =>
  intro p hw hp x hx
  have hy := hw y List.mem_cons_self
  have ih' := ih (some y) (hw.sub fun r hr => List.mem_cons_of_mem _ hr) (fun q e => by obtain rfl := Option.some.inj e; exact hy)
  simp only [diffP]
  cases e : likeP (fun x y => icompareRows x y == 0) p y with
  | true =>
   rw [cond_true]
   cases p with
   | none => cases e
   | some q =>
    obtain rfl := (cmp_zero (hp q rfl) hy).1 (eq_of_beq e)
    rcases List.mem_cons.1 hx with rfl | hx
    ·
     exact .inr rfl
    ·
     exact ih' x hx
  | false =>
   rw [cond_false]
   rcases List.mem_cons.1 hx with rfl | hx
   ·
    exact .inl List.mem_cons_self
   ·
    rcases ih' x hx with h | h
    ·
     exact .inl (List.mem_cons_of_mem _ h)
    ·
     obtain rfl := Option.some.inj h
     exact .inl List.mem_cons_self

theorem diffRows_mem {wd : Nat} {rows : List (List Val)} (h : RowsW wd rows) {x : List Val} : x ∈ diffRows rows ↔ x ∈ rows := by
 constructor
 ·
  exact fun hx => (diffRows_sublist rows).mem hx
 ·
  intro hx
  rcases diffP_cover rows none h (fun q e => by cases e) x hx with h | h
  ·
   exact h
  ·
   cases h

theorem cnt_strict : ∀ {l : List (List Val)}, l.Pairwise (fun x y => rlt x y = true) → ∀ {x : List Val}, x ∈ l → cnt l x = 1 := by
 intro l
 induction l with
 | nil => intro _ x hx; cases hx
 | cons y l ih =>
  intro hs x hx
  obtain ⟨s1, s2⟩ := List.pairwise_cons.1 hs
  have irr : ∀ z, rlt z z ≠ true := fun z h => by rw [rlt, lexI_self] at h; cases h
  by_cases e : y = x
  ·
   subst e
   rw [cnt_yes rfl]
   have : cnt l y = 0 := by
    cases q : cnt l y with
    | zero => rfl
    | succ n => exact absurd (s1 y (cnt_pos.1 (by omega))) (irr y)
   omega
  ·
   rcases List.mem_cons.1 hx with rfl | hx
   ·
    exact absurd rfl e
   ·
    rw [cnt_no e]
    exact ih s2 hx

theorem vt_distinct {t : Tab} (h : VT t) : VT ⟨t.Width, diffRows t.Rows⟩ := by
 have hf : Fits t.Width (diffRows t.Rows) := ⟨h.w1, h.w6, Nat.le_trans (diffRows_sublist t.Rows).length_le h.n4, h.rowsW.sub fun r hr => (diffRows_sublist t.Rows).mem hr⟩
 have := vt_srt hf
 rw [srt_self hf.rows (List.Pairwise.sublist (diffRows_sublist t.Rows) h.rsorted)] at this
 exact this

/-! ### Both tables' rows -/

theorem iUnionAll_yes {a b : Tab} (ha : VT a) (hb : VT b) (hw : a.Width = b.Width) : iUnionAll a b = (if a.Rows.length + b.Rows.length ≤ 400 then ⟨a.Width, srtRows (a.Rows ++ b.Rows)⟩ else ⟨a.Width, []⟩, true) := by
 unfold iUnionAll
 rw [ValidTable_iff.2 ha, ValidTable_iff.2 hb, bne_eq_false_iff_eq.2 hw, Bool.not_true, cond_false, cond_false, cond_false, show ∀ l, valuesF l = l from fun _ => rfl, concat_pair, collect_eq, List.length_append]

theorem iUnionAll_no {a b : Tab} (h : ¬ (VT a ∧ VT b ∧ a.Width = b.Width)) : iUnionAll a b = (⟨0, []⟩, false) := by
 unfold iUnionAll
 cases e : (bif (bif (!(ValidTable a)) then true else (!(ValidTable b))) then true else ((Tab.Width a) != (Tab.Width b))) with
 | true => rfl
 | false =>
  have e1 := or_neg e
  have e2 := or_neg e1.1
  exact absurd ⟨ValidTable_iff.1 (not_neg e2.1), ValidTable_iff.1 (not_neg e2.2), by simpa using e1.2⟩ h

theorem union_same (a b : Tab) : iUnionAll a b = sUnionAll a b := by
 by_cases h : VT a ∧ VT b ∧ a.Width = b.Width
 ·
  obtain ⟨ha, hb, hw⟩ := h
  rw [iUnionAll_yes ha hb hw]
  unfold sUnionAll unionAll
  rw [vt_eq, vt_eq, ValidTable_iff.2 ha, ValidTable_iff.2 hb, bne_eq_false_iff_eq.2 hw, Bool.not_true, cond_false, cond_false, cond_false, List.nil_append,
   tableOf_eq (wd := a.Width.toNat) a.Width (fun r hr => ?_), List.length_append]
  rcases List.mem_append.1 hr with hr | hr
  ·
   exact ha.rowsW r hr
  ·
   rw [hw]; exact hb.rowsW r hr
 ·
  rw [iUnionAll_no h]
  unfold sUnionAll
  rw [vt_eq, vt_eq]
  cases e : (bif (bif (!(ValidTable a)) then true else (!(ValidTable b))) then true else ((Tab.Width a) != (Tab.Width b))) with
  | true => rfl
  | false =>
   have e1 := or_neg e
   have e2 := or_neg e1.1
   exact absurd ⟨ValidTable_iff.1 (not_neg e2.1), ValidTable_iff.1 (not_neg e2.2), by simpa using e1.2⟩ h

theorem iUnionAll_len (a b : Tab) : (iUnionAll a b).1.Rows.length ≤ 400 := by
 by_cases h : VT a ∧ VT b ∧ a.Width = b.Width
 ·
  obtain ⟨ha, hb, hw⟩ := h
  rw [iUnionAll_yes ha hb hw]
  by_cases q : a.Rows.length + b.Rows.length ≤ 400
  ·
   rw [if_pos q]
   show (srtRows (a.Rows ++ b.Rows)).length ≤ 400
   rw [srtRows_len, List.length_append]
   exact q
  ·
   rw [if_neg q]
   exact Nat.zero_le _
 ·
  rw [iUnionAll_no h]
  exact Nat.zero_le _

theorem DrawDistinctRows_drawn (code : List Int) : Drawn (DrawDistinctRows code) := by
 have h0 := newReader_p code
 have hw := pick_ok (n := 2) (newReader code).b (newReader code).p (by decide)
 exact (anyTable_p (Rdr.mk (newReader code).b ((newReader code).p + 1)) (width := 1 + pick (newReader code).b (newReader code).p 2) (most := 9) (by omega) (by decide)).2

theorem twoTables_drawn (r : Rdr) : Drawn (twoTables r).1 ∧ Drawn (twoTables r).2.1 := by
 have hw := pick_ok (n := 2) r.b r.p (by decide)
 have h1 := (anyTable_p (Rdr.mk r.b (r.p + 1)) (width := 1 + pick r.b r.p 2) (most := 6) (by omega) (by decide)).2
 have h2 := fun r' => (anyTable_p r' (width := 1 + pick r.b r.p 2) (most := 6) (by omega) (by decide)).2
 have h3 := fun r' => (anyTable_p r' (width := 3) (most := 6) (by decide) (by decide)).2
 unfold twoTables
 cases (pick ((anyTable (Rdr.mk r.b (r.p + 1)) (1 + pick r.b r.p 2) 6).2).b ((anyTable (Rdr.mk r.b (r.p + 1)) (1 + pick r.b r.p 2) 6).2).p 12 == 0) with
 | true => exact ⟨h1, h3 _⟩
 | false => exact ⟨h1, h2 _⟩

theorem DrawUnionAll_drawn (code : List Int) : Drawn (DrawUnionAll code).1 ∧ Drawn (DrawUnionAll code).2 := twoTables_drawn (newReader code)

end
end Go.Proofs.Ytjcjpeckfikfkaa
