/-
  A part of the proof of this claim (AwX): what functions of the program compute, and plain facts of that. No conditions.
-/
import Derived.Test.YtjcjpeckfikfkaaAwW
set_option linter.all false
namespace Go.Proofs.Ytjcjpeckfikfkaa
open Go Go.Am
noncomputable section

theorem FnDistinctRows_law (code : List Int) : FnDistinctRows code = true := by
 unfold FnDistinctRows
 cases decide (1048576 < ((List.length code : Nat) : Int)) with
 | true => rfl
 | false =>
  rw [cond_false, distinct_same, bne_self_eq_false, beq_self_eq_true, equalTables_self]
  simp only [Bool.not_true, cond_false, cond_true]
  have hs := distinct_same (DrawDistinctRows code)
  by_cases h : VT (DrawDistinctRows code)
  ·
   rw [← hs, iDistinctRows_yes h]
   simp only [Bool.not_true, cond_false]
   have hd := vt_distinct h
   rcases stop_loop false (DrawDistinctRows code).Rows.length (fun i => ((iCountRow ((iDistinctRows (DrawDistinctRows code)).1) (List.getD (Tab.Rows (DrawDistinctRows code)) i [])) != 1)) (FnDistinctRows_l0 code) (fun k i => rfl) ((DrawDistinctRows code).Rows.length - 0 + 1) 0 (by omega) with ⟨h1, _⟩ | ⟨_, j, _, hj, hb⟩
   ·
    rw [h1, Sum.elim_inl, iDistinctRows_yes hd]
    show (bif (bif (bif true then equalTables ⟨(DrawDistinctRows code).Width, diffRows (diffRows (DrawDistinctRows code).Rows)⟩ ⟨(DrawDistinctRows code).Width, diffRows (DrawDistinctRows code).Rows⟩ else false) then ValidTable ⟨(DrawDistinctRows code).Width, diffRows (DrawDistinctRows code).Rows⟩ else false) then decide (((List.length (diffRows (DrawDistinctRows code).Rows) : Nat) : Int) ≤ ((List.length (DrawDistinctRows code).Rows : Nat) : Int)) else false) = true
    rw [diffRows_id h.rowsW h.rsorted, equalTables_self, ValidTable_iff.2 hd]
    have := (diffRows_sublist (DrawDistinctRows code).Rows).length_le
    simp only [cond_true]
    exact decide_eq_true (by omega)
   ·
    rw [iDistinctRows_yes h, iCountRow_eq hd] at hb
    have : cnt (diffRows (DrawDistinctRows code).Rows) ((DrawDistinctRows code).Rows.getD j []) = 1 :=
     cnt_strict (diffRows_strict h.rowsW h.rsorted) ((diffRows_mem h.rowsW).2 (getD_mem _ j [] hj))
    rw [show (⟨(DrawDistinctRows code).Width, diffRows (DrawDistinctRows code).Rows⟩ : Tab).Rows = diffRows (DrawDistinctRows code).Rows from rfl, this] at hb
    cases hb
  ·
   rw [← hs, iDistinctRows_no h]
   rfl

theorem cnt_total : ∀ (rows d : List (List Val)), d.Pairwise (fun x y => rlt x y = true) → (∀ r ∈ rows, r ∈ d) → ((d.map fun x => cnt rows x).sum) = rows.length := by
 intro rows
 induction rows with
 | nil =>
  intro d _ _
  induction d with
  | nil => rfl
  | cons x d ih =>
   rename_i h1 h2
   simp only [List.map_cons, List.sum_cons]
   rw [ih (List.pairwise_cons.1 h1).2 (fun r hr => by cases hr)]
   rfl
 | cons r rows ih =>
  intro d hd hm
  have h1 := ih d hd fun x hx => hm x (List.mem_cons_of_mem _ hx)
  have key : ∀ l : List (List Val), ((l.map fun x => cnt (r :: rows) x).sum) = ((l.map fun x => cnt rows x).sum) + cnt l r := by
   intro l
   induction l with
   | nil => rfl
   | cons x l ihl =>
    simp only [List.map_cons, List.sum_cons]
    rw [ihl]
    by_cases e : r = x
    ·
     rw [cnt_yes e, cnt_yes e.symm]; omega
    ·
     rw [cnt_no e, cnt_no (Ne.symm e)]; omega
  rw [key, h1, cnt_strict hd (hm r List.mem_cons_self)]
  rfl

theorem count_loop (code : List Int) (h : VT (DrawCountRow code).1) : ∀ (k : Nat) (total : Int) (is : Bool) (i : Nat), (diffRows (DrawCountRow code).1.Rows).length - i < k →
  FnCountRow_l0 code k total is i = (total + ((((diffRows (DrawCountRow code).1.Rows).drop i).map fun x => cnt (DrawCountRow code).1.Rows x).sum : Nat), is || ((diffRows (DrawCountRow code).1.Rows).drop i).any fun x => equalRows x (DrawCountRow code).2) := by
 intro k
 induction k with
 | zero => intro total is i h; omega
 | succ k ih =>
  intro total is i hk
  unfold FnCountRow_l0
  rw [iDistinctRows_yes h]
  by_cases hi : i < (diffRows (DrawCountRow code).1.Rows).length
  ·
   rw [decide_eq_true (by show ((i : Nat) : Int) < ((List.length (diffRows (DrawCountRow code).1.Rows) : Nat) : Int); omega), cond_true, ih _ _ _ (by omega), List.drop_eq_getElem_cons hi]
   have g : List.getD (Tab.Rows ((⟨(DrawCountRow code).1.Width, diffRows (DrawCountRow code).1.Rows⟩ : Tab), true).1) i [] = (diffRows (DrawCountRow code).1.Rows)[i] := getD_row hi
   rw [g, iCountRow_eq h]
   simp only [List.map_cons, List.sum_cons, List.any_cons]
   generalize equalRows (diffRows (DrawCountRow code).1.Rows)[i] (DrawCountRow code).2 = e1
   generalize (List.drop (i + 1) (diffRows (DrawCountRow code).1.Rows)).any _ = e2
   rw [Prod.mk.injEq]
   refine ⟨by omega, ?_⟩
   cases is <;> rfl
  ·
   rw [decide_eq_false (by show ¬ ((i : Nat) : Int) < ((List.length (diffRows (DrawCountRow code).1.Rows) : Nat) : Int); omega), cond_false, List.drop_of_length_le (by omega)]
   simp

theorem FnCountRow_law (code : List Int) : FnCountRow code = true := by
 unfold FnCountRow
 cases decide (1048576 < ((List.length code : Nat) : Int)) with
 | true => rfl
 | false =>
  rw [cond_false, countRow_same, bne_self_eq_false, beq_self_eq_true]
  simp only [cond_false]
  have hs := countRow_same (DrawCountRow code).1 (DrawCountRow code).2
  by_cases h : VT (DrawCountRow code).1
  ·
   rw [← hs, iCountRow_eq h, decide_eq_false (by omega), cond_false]
   have hl := count_loop code h ((List.length (Tab.Rows ((iDistinctRows ((DrawCountRow code).1)).1))) - 0 + 1) 0 false 0 (by rw [iDistinctRows_yes h]; show (diffRows (DrawCountRow code).1.Rows).length - 0 < (diffRows (DrawCountRow code).1.Rows).length - 0 + 1; omega)
   rw [hl, iDistinctRows_yes h, List.drop_zero, Int.zero_add]
   dsimp only [Go.Am.andThen]
   rw [cnt_total _ _ (diffRows_strict h.rowsW h.rsorted) (fun r hr => (diffRows_mem h.rowsW).2 hr), beq_self_eq_true]
   simp only [cond_true, Bool.false_or]
   rw [beq_iff_eq, Bool.eq_iff_iff, List.any_eq_true, decide_eq_true_eq]
   constructor
   ·
    rintro ⟨x, hx, he⟩
    obtain rfl := equalRows_iff.1 he
    have := cnt_pos.2 ((diffRows_mem h.rowsW).1 hx)
    omega
   ·
    intro hp
    have := cnt_pos.1 (by omega : 0 < cnt (DrawCountRow code).1.Rows (DrawCountRow code).2)
    exact ⟨_, (diffRows_mem h.rowsW).2 this, equalRows_self _⟩
  ·
   rw [← hs, iCountRow_no h]
   rfl

theorem FnUnionAll_law (code : List Int) : FnUnionAll code = true := by
 unfold FnUnionAll
 cases decide (1048576 < ((List.length code : Nat) : Int)) with
 | true => rfl
 | false =>
  rw [cond_false, union_same, bne_self_eq_false, beq_self_eq_true, equalTables_self]
  simp only [Bool.not_true, cond_false, cond_true]
  have hs := union_same (DrawUnionAll code).1 (DrawUnionAll code).2
  have hd := DrawUnionAll_drawn code
  by_cases h : VT (DrawUnionAll code).1 ∧ VT (DrawUnionAll code).2 ∧ (DrawUnionAll code).1.Width = (DrawUnionAll code).2.Width
  ·
   obtain ⟨ha, hb, hw⟩ := h
   have hy := iUnionAll_yes ha hb hw
   have hn : (DrawUnionAll code).1.Rows.length + (DrawUnionAll code).2.Rows.length ≤ 400 := by have := hd.1.len; have := hd.2.len; omega
   rw [if_pos hn] at hy
   have hy2 := iUnionAll_yes hb ha hw.symm
   rw [if_pos (by omega)] at hy2
   have hf : Fits (DrawUnionAll code).1.Width ((DrawUnionAll code).1.Rows ++ (DrawUnionAll code).2.Rows) := ⟨ha.w1, ha.w6, by rw [List.length_append]; exact hn, fun r hr => by
    rcases List.mem_append.1 hr with hr | hr
    ·
     exact ha.rowsW r hr
    ·
     rw [hw]; exact hb.rowsW r hr⟩
   have hv := vt_srt hf
   rw [← hs, hy, hy2]
   simp only [Bool.not_true, cond_false]
   rcases stop_loop false (srtRows ((DrawUnionAll code).1.Rows ++ (DrawUnionAll code).2.Rows)).length (fun i => ((iCountRow ((iUnionAll ((DrawUnionAll code).1) ((DrawUnionAll code).2)).1) (List.getD (Tab.Rows ((iUnionAll ((DrawUnionAll code).1) ((DrawUnionAll code).2)).1)) i [])) != ((iCountRow ((DrawUnionAll code).1) (List.getD (Tab.Rows ((iUnionAll ((DrawUnionAll code).1) ((DrawUnionAll code).2)).1)) i [])) + (iCountRow ((DrawUnionAll code).2) (List.getD (Tab.Rows ((iUnionAll ((DrawUnionAll code).1) ((DrawUnionAll code).2)).1)) i []))))) (FnUnionAll_l0 code) (fun k i => by
     have : ∀ n : Nat, n = (Tab.Rows ((iUnionAll ((DrawUnionAll code).1) ((DrawUnionAll code).2)).1)).length → FnUnionAll_l0 code (k + 1) i = bif decide (((i : Nat) : Int) < ((n : Nat) : Int)) then (bif ((iCountRow ((iUnionAll ((DrawUnionAll code).1) ((DrawUnionAll code).2)).1) (List.getD (Tab.Rows ((iUnionAll ((DrawUnionAll code).1) ((DrawUnionAll code).2)).1)) i [])) != ((iCountRow ((DrawUnionAll code).1) (List.getD (Tab.Rows ((iUnionAll ((DrawUnionAll code).1) ((DrawUnionAll code).2)).1)) i [])) + (iCountRow ((DrawUnionAll code).2) (List.getD (Tab.Rows ((iUnionAll ((DrawUnionAll code).1) ((DrawUnionAll code).2)).1)) i [])))) then (.inr false) else FnUnionAll_l0 code k (i + 1)) else .inl () := by rintro n rfl; rfl
     exact this _ (by rw [hy])) ((srtRows ((DrawUnionAll code).1.Rows ++ (DrawUnionAll code).2.Rows)).length - 0 + 1) 0 (by omega) with ⟨h1, _⟩ | ⟨_, j, _, hj, hb'⟩
   ·
    show Sum.elim _ _ (FnUnionAll_l0 code ((srtRows ((DrawUnionAll code).1.Rows ++ (DrawUnionAll code).2.Rows)).length - 0 + 1) 0) = true
    rw [h1, Sum.elim_inl]
    show (bif (bif (bif true then equalTables ⟨(DrawUnionAll code).2.Width, srtRows ((DrawUnionAll code).2.Rows ++ (DrawUnionAll code).1.Rows)⟩ ⟨(DrawUnionAll code).1.Width, srtRows ((DrawUnionAll code).1.Rows ++ (DrawUnionAll code).2.Rows)⟩ else false) then (((List.length (srtRows ((DrawUnionAll code).1.Rows ++ (DrawUnionAll code).2.Rows)) : Nat) : Int) == (((List.length (DrawUnionAll code).1.Rows) + (List.length (DrawUnionAll code).2.Rows) : Nat) : Int)) else false) then ValidTable ⟨(DrawUnionAll code).1.Width, srtRows ((DrawUnionAll code).1.Rows ++ (DrawUnionAll code).2.Rows)⟩ else false) = true
    rw [srtRows_congr hf.rows (List.perm_append_comm : ((DrawUnionAll code).2.Rows ++ (DrawUnionAll code).1.Rows).Perm _), hw.symm, equalTables_self, ValidTable_iff.2 hv, srtRows_len, List.length_append, beq_self_eq_true]
    rfl
   ·
    rw [hy] at hb'
    simp only at hb'
    rw [iCountRow_eq hv, iCountRow_eq ha, iCountRow_eq hb] at hb'
    refine absurd ?_ (bne_iff_ne.1 hb')
    have := cnt_perm (srtRows_perm ((DrawUnionAll code).1.Rows ++ (DrawUnionAll code).2.Rows)) (List.getD (srtRows ((DrawUnionAll code).1.Rows ++ (DrawUnionAll code).2.Rows)) j [])
    rw [cnt_append] at this
    show ((cnt (srtRows ((DrawUnionAll code).1.Rows ++ (DrawUnionAll code).2.Rows)) (List.getD (srtRows ((DrawUnionAll code).1.Rows ++ (DrawUnionAll code).2.Rows)) j []) : Nat) : Int) = _
    rw [this]
    push_cast
    rfl
  ·
   rw [← hs, iUnionAll_no h]
   rfl

end
end Go.Proofs.Ytjcjpeckfikfkaa
