/-
  A part of the proof of this claim (AwJ): what functions of the program compute, and plain facts of that. No conditions.
-/
import Derived.Test.YtjcjpeckfikfkaaAwE
set_option linter.all false
namespace Go.Proofs.Ytjcjpeckfikfkaa
open Go Go.Am
noncomputable section

/-! ### Sorted lists of rows -/

def RSorted (l : List (List Val)) : Prop := l.Pairwise fun x y => rlt y x = false

theorem rows_unique {wd : Nat} {a b : List (List Val)} (h : RowsW wd a) (hp : b.Perm a) (ha : RSorted a) (hb : RSorted b) : b = a := by
 refine sorted_unique hp hb ha fun x hx y hy h1 h2 => ?_
 have q1 := h x (hp.mem_iff.1 hx)
 have q2 := h y (hp.mem_iff.1 hy)
 simp only [rlt, decide_eq_false_iff_not] at h1 h2
 have e := lexI_neg (rkey x) (rkey y)
 exact rkey_inj q1.1.mem q2.1.mem (lexI_zero (by omega))

theorem srtRows_eq {wd : Nat} {a b : List (List Val)} (h : RowsW wd a) (hp : b.Perm a) (hb : RSorted b) : b = srtRows a :=
 rows_unique (h.sub fun _ hr => srtRows_mem.1 hr) (hp.trans (srtRows_perm a).symm) (srtRows_sorted a) hb

theorem rle_trans {a b c : List Val} (h1 : rlt b a = false) (h2 : rlt c b = false) : rlt c a = false := by
 simp only [rlt, decide_eq_false_iff_not] at *
 exact lexI_ntrans h2 h1

theorem rle_of_lt {a b : List Val} (h : rlt a b = true) : rlt b a = false := by
 simp only [rlt, decide_eq_false_iff_not, decide_eq_true_eq] at *
 have := lexI_neg (rkey a) (rkey b)
 omega

theorem rlt_of_nle {a b : List Val} (h : ¬ rlt b a = false) : rlt b a = true := by
 cases e : rlt b a with
 | true => rfl
 | false => exact absurd e h

theorem cmp_le {wd : Nat} {a b : List Val} (ha : VR a ∧ a.length = wd) (hb : VR b ∧ b.length = wd) : compareRows a b ≤ 0 ↔ rlt b a = false := by
 rw [sRows_lex ha.1 hb.1 (by omega)]
 simp only [rlt, decide_eq_false_iff_not]
 have := lexI_neg (rkey a) (rkey b)
 omega

theorem insertRow_l0_spec {wd : Nat} {rows : List (List Val)} {row : List Val} (h : RowsW wd rows) (hr : VR row ∧ row.length = wd) (hs : RSorted rows) : ∀ (k : Nat) (low high : Int), 0 ≤ low → low ≤ high → high ≤ rows.length → high - low < k →
  (∀ i : Nat, (i : Int) < low → i < rows.length → rlt row (rows.getD i []) = false) → (∀ i : Nat, high ≤ (i : Int) → i < rows.length → rlt row (rows.getD i []) = true) →
  0 ≤ insertRow_l0 rows row k low high ∧ insertRow_l0 rows row k low high ≤ rows.length ∧ (∀ i : Nat, (i : Int) < insertRow_l0 rows row k low high → i < rows.length → rlt row (rows.getD i []) = false) ∧ (∀ i : Nat, insertRow_l0 rows row k low high ≤ (i : Int) → i < rows.length → rlt row (rows.getD i []) = true) := by
 have hgw : ∀ i : Nat, i < rows.length → VR (rows.getD i []) ∧ (rows.getD i []).length = wd := fun i hi => h _ (by
  rw [List.getD_eq_getElem?_getD, List.getElem?_eq_getElem hi]; exact List.getElem_mem hi)
 have hord : ∀ i j : Nat, i < j → j < rows.length → rlt (rows.getD j []) (rows.getD i []) = false := fun i j hij hj => by
  have := List.pairwise_iff_getElem.1 hs i j (by omega) hj hij
  have g : ∀ k (hk : k < rows.length), rows.getD k [] = rows[k] := fun k hk => by rw [List.getD_eq_getElem?_getD, List.getElem?_eq_getElem hk]; rfl
  rw [g j hj, g i (by omega)]
  exact this
 intro k
 induction k with
 | zero => intro low high h1 h2 h3 h4; omega
 | succ k ih =>
  intro low high h1 h2 h3 h4 h5 h6
  unfold insertRow_l0
  by_cases hlt : low < high
  ·
   rw [decide_eq_true hlt, cond_true]
   have hm : (low + high) / 2 < high := by omega
   have hm0 : low ≤ (low + high) / 2 := by omega
   have hmn : Int.toNat ((low + high) / 2) < rows.length := by omega
   by_cases hc : compareRows (rows.getD (Int.toNat ((low + high) / 2)) []) row ≤ 0
   ·
    rw [decide_eq_true hc, cond_true]
    have hc := (cmp_le (hgw _ hmn) hr).1 hc
    refine ih _ _ (by omega) (by omega) h3 (by omega) (fun i hi hil => ?_) h6
    by_cases e : i = Int.toNat ((low + high) / 2)
    ·
     rw [e]; exact hc
    ·
     exact rle_trans (hord i _ (by omega) hmn) hc
   ·
    rw [decide_eq_false hc, cond_false]
    have hc := rlt_of_nle fun e => hc ((cmp_le (hgw _ hmn) hr).2 e)
    refine ih _ _ h1 (by omega) (by omega) (by omega) h5 (fun i hi hil => ?_)
    by_cases e : i = Int.toNat ((low + high) / 2)
    ·
     rw [e]; exact hc
    ·
     cases q : rlt row (rows.getD i []) with
     | true => rfl
     | false =>
      have := rle_trans (hord _ i (by omega : Int.toNat ((low + high) / 2) < i) hil) q
      rw [this] at hc
      cases hc
  ·
   rw [decide_eq_false hlt, cond_false]
   exact ⟨h1, by omega, h5, fun i hi => h6 i (by omega)⟩

theorem insertRow_spec {wd : Nat} {rows : List (List Val)} {row : List Val} (h : RowsW wd rows) (hr : VR row ∧ row.length = wd) (hs : RSorted rows) : RSorted (insertRow rows row) ∧ (insertRow rows row).Perm (row :: rows) := by
 obtain ⟨p1, p2, p3, p4⟩ := insertRow_l0_spec h hr hs (Int.toNat (((List.length rows : Nat) : Int) - 0) + 1) 0 ((List.length rows : Nat) : Int) (Int.le_refl _) (by omega) (Int.le_refl _) (by omega) (fun i hi => by omega) (fun i hi => by omega)
 unfold insertRow
 dsimp only [Go.Am.andThen]
 generalize insertRow_l0 rows row (Int.toNat (((List.length rows : Nat) : Int) - 0) + 1) 0 ((List.length rows : Nat) : Int) = low at *
 rw [copyRow_eq, List.nil_append]
 obtain ⟨n, rfl⟩ := Int.eq_ofNat_of_zero_le p1
 rw [Int.toNat_natCast]
 have gt : ∀ i (hi : i < rows.length), rows.getD i [] = rows[i] := fun i hi => by rw [List.getD_eq_getElem?_getD, List.getElem?_eq_getElem hi]; rfl
 have ht : ∀ x ∈ rows.take n, rlt row x = false := fun x hx => by
  obtain ⟨i, hi, rfl⟩ := List.mem_iff_getElem.1 hx
  rw [List.length_take] at hi
  have := p3 i (by omega) (by omega)
  rw [gt i (by omega)] at this
  rwa [List.getElem_take]
 have hd : ∀ x ∈ rows.drop n, rlt x row = false := fun x hx => by
  obtain ⟨i, hi, rfl⟩ := List.mem_iff_getElem.1 hx
  rw [List.length_drop] at hi
  have := p4 (n + i) (by omega) (by omega)
  rw [gt (n + i) (by omega)] at this
  rw [List.getElem_drop]
  exact rle_of_lt this
 have e : rows = rows.take n ++ rows.drop n := (List.take_append_drop n rows).symm
 constructor
 ·
  unfold RSorted at hs ⊢
  rw [e] at hs
  obtain ⟨s1, s2, s3⟩ := List.pairwise_append.1 hs
  rw [List.append_assoc, List.pairwise_append]
  refine ⟨s1, ?_, fun a ha b hb => ?_⟩
  ·
   rw [List.singleton_append, List.pairwise_cons]
   exact ⟨hd, s2⟩
  ·
   rcases List.mem_append.1 hb with hb | hb
   ·
    rw [List.mem_singleton.1 hb]; exact ht a ha
   ·
    exact s3 a ha b hb
 ·
  rw [List.append_assoc]
  refine List.perm_middle.trans (List.Perm.cons _ ?_)
  show (rows.take n ++ rows.drop n).Perm rows
  rw [← e]

theorem tableOf_l0_spec {wd : Nat} {rows : List (List Val)} (h : RowsW wd rows) : ∀ (k i : Nat) (ar : List (List Val)), rows.length - i < k → i ≤ rows.length → RSorted ar → ar.Perm (rows.take i) → RSorted (tableOf_l0 rows k i ar) ∧ (tableOf_l0 rows k i ar).Perm rows := by
 intro k
 induction k with
 | zero => intro i ar hk; omega
 | succ k ih =>
  intro i ar hk hi hs hp
  unfold tableOf_l0
  by_cases hlt : i < rows.length
  ·
   rw [decide_eq_true (by omega : ((i : Nat) : Int) < ((List.length rows : Nat) : Int)), cond_true]
   have hg : rows.getD i [] = rows[i] := by rw [List.getD_eq_getElem?_getD, List.getElem?_eq_getElem hlt]; rfl
   have ha : RowsW wd ar := h.sub fun r hr => List.mem_of_mem_take (hp.mem_iff.1 hr)
   have := insertRow_spec ha (h _ (List.getElem_mem hlt)) hs
   rw [hg]
   refine ih (i + 1) _ (by omega) (by omega) this.1 (this.2.trans ?_)
   rw [List.take_succ_eq_append_getElem hlt]
   exact (List.Perm.cons _ hp).trans (List.perm_append_singleton _ _).symm
  ·
   rw [decide_eq_false (by omega), cond_false]
   rw [List.take_of_length_le (by omega)] at hp
   exact ⟨hs, hp⟩

theorem tableOf_eq {wd : Nat} (width : Int) {rows : List (List Val)} (h : RowsW wd rows) : tableOf width rows = if rows.length ≤ 400 then ⟨width, srtRows rows⟩ else ⟨width, []⟩ := by
 unfold tableOf
 by_cases hn : rows.length ≤ 400
 ·
  rw [decide_eq_false (by omega), cond_false, if_pos hn]
  have := tableOf_l0_spec h (rows.length - 0 + 1) 0 [] (by omega) (Nat.zero_le _) List.Pairwise.nil (List.Perm.refl _)
  dsimp only [Go.Am.andThen]
  rw [srtRows_eq h this.2 this.1]
 ·
  rw [decide_eq_true (by omega), cond_true, if_neg hn]

structure Fits (width : Int) (rows : List (List Val)) : Prop where
 w1 : 1 ≤ width
 w6 : width ≤ 6
 n4 : rows.length ≤ 400
 rows : RowsW width.toNat rows

end
end Go.Proofs.Ytjcjpeckfikfkaa
