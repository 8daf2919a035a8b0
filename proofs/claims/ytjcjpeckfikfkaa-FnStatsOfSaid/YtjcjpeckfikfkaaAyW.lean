/-
  A part of the proof of this claim (AyW): what functions of the program compute, and plain facts of that. No conditions.
-/
import Derived.Test.YtjcjpeckfikfkaaAyV
import Derived.Test.YtjcjpeckfikfkaaAwQ
import Derived.Test.YtjcjpeckfikfkaaAnT
set_option linter.all false
namespace Go.Proofs.Ytjcjpeckfikfkaa
open Go Go.Am
open List (length)
noncomputable section

def col (rows : List (List Val)) (c : Nat) : List Val := rows.map fun r => r.getD c Val.zero

theorem col_drop {rows : List (List Val)} {c i : Nat} (h : i < rows.length) : (col rows c).drop i = (rows.getD i []).getD c Val.zero :: (col rows c).drop (i + 1) := by
 (have hl : i < (col rows c).length := by simpa [col] using h); rw [List.drop_eq_getElem_cons hl]; congr 1; simp [col, List.getD_eq_getElem?_getD, h]

theorem col_len (rows : List (List Val)) (c : Nat) : (col rows c).length = rows.length := by simp [col]

def dadd (s : List Int) (v : Val) : List Int := bif v.Null then s else if v.N ∈ s then s else s ++ [v.N]
def dnum (l : List Val) : List Int := l.foldl dadd []
def nnul (l : List Val) : Nat := l.countP fun v => v.Null

theorem mput_keys (m : List (Int × Int)) (k v : Int) : (mput m k v).map Prod.fst = if k ∈ m.map Prod.fst then m.map Prod.fst else m.map Prod.fst ++ [k] := by
 induction m with
 | nil => simp [mput]
 | cons p m ih =>
  obtain ⟨a, b⟩ := p; simp only [mput]; by_cases hak : a = k
  · subst hak; simp
  ·
   rw [if_neg hak, List.map_cons, ih]
   have : (k ∈ List.map Prod.fst ((a, b) :: m)) ↔ k ∈ List.map Prod.fst m := by
    simp only [List.map_cons, List.mem_cons]; exact ⟨fun h => h.resolve_left fun e => hak e.symm, .inr⟩
   by_cases hm : k ∈ List.map Prod.fst m
   · rw [if_pos hm, if_pos (this.2 hm)]; rfl
   · rw [if_neg hm, if_neg (fun h => hm (this.1 h))]; rfl

theorem il1 (t : Tab) (c : Nat) : ∀ (k i : Nat) (a : List Int) (m : List (Int × Int)), t.Rows.length - i < k → i ≤ t.Rows.length → c < a.length →
  (iStatsOf_l1 t c k i a m).1 = a.set c (a.getD c 0 + (nnul ((col t.Rows c).drop i) : Int)) ∧ (iStatsOf_l1 t c k i a m).2.map Prod.fst = ((col t.Rows c).drop i).foldl dadd (m.map Prod.fst) := by
 intro k
 induction k with
 | zero => intro i a m h; omega
 | succ k ih =>
  intro i a m hk hi hc; unfold iStatsOf_l1; by_cases h : i < t.Rows.length
  ·
   rw [decide_eq_true (by omega : (i : Int) < (length t.Rows : Int)), cond_true, col_drop h]; generalize hv : (t.Rows.getD i []).getD c Val.zero = v
   cases hn : v.Null with
   | true =>
    rw [cond_true]; obtain ⟨e1, e2⟩ := ih (i + 1) (a.set c (a.getD c 0 + 1)) m (by omega) (by omega) (by rw [List.length_set]; exact hc); rw [e1, e2]; refine ⟨?_, by simp [dadd, hn]⟩; rw [List.set_set, lgetD_set_eq hc, nnul, nnul, List.countP_cons_of_pos (by simpa using hn)]; congr 1; omega
   | false =>
    rw [cond_false]; obtain ⟨e1, e2⟩ := ih (i + 1) a (mput m v.N (mget m v.N + 1)) (by omega) (by omega) hc; rw [e1, e2]; refine ⟨?_, ?_⟩
    · rw [nnul, nnul, List.countP_cons_of_neg (by simp [hn])]
    · rw [mput_keys, List.foldl_cons]; simp [dadd, hn]
  ·
   rw [decide_eq_false (by omega : ¬ (i : Int) < (length t.Rows : Int)), cond_false, List.drop_eq_nil_of_le (by rw [col_len]; omega)]; refine ⟨?_, rfl⟩; simp only [nnul, List.countP_nil]; apply List.ext_getElem
   · simp
   ·
    intro j h1 h2; rw [List.getElem_set]; split
    · rename_i e; subst e; simp [List.getD_eq_getElem?_getD, h1]
    · rfl

def dcols (t : Tab) (c n : Nat) : List Int := (List.range' c n).map fun j => ((dnum (col t.Rows j)).length : Int)
def ncols (t : Tab) (c n : Nat) : List Int := (List.range' c n).map fun j => (nnul (col t.Rows j) : Int)

theorem il0 (t : Tab) : ∀ (k c : Nat) (d a : List Int), Int.toNat t.Width - c < k → c ≤ Int.toNat t.Width → 0 ≤ t.Width → d.length = Int.toNat t.Width → a.length = Int.toNat t.Width → (∀ j, c ≤ j → a.getD j 0 = 0) →
  iStatsOf_l0 t k c d a = (d.take c ++ dcols t c (Int.toNat t.Width - c), a.take c ++ ncols t c (Int.toNat t.Width - c)) := by
 intro k
 induction k with
 | zero => intro c d a h; omega
 | succ k ih =>
  intro c d a hk hc hw hd ha hz; unfold iStatsOf_l0; by_cases h : c < Int.toNat t.Width
  ·
   rw [decide_eq_true (by omega : (c : Int) < t.Width), cond_true]; obtain ⟨e1, e2⟩ := il1 t c (t.Rows.length - 0 + 1) 0 a [] (by omega) (by omega) (by omega); unfold andThen; generalize iStatsOf_l1 t c (t.Rows.length - 0 + 1) 0 a [] = z at e1 e2; obtain ⟨a', m'⟩ := z; simp only at e1 e2 ⊢; rw [hz c (Nat.le_refl _), Int.zero_add, List.drop_zero] at e1; rw [List.drop_zero, List.map_nil] at e2
   have hm : (m'.length : Int) = ((dnum (col t.Rows c)).length : Int) := by
    have := congrArg length e2
    rw [List.length_map] at this
    rw [this]; rfl
   rw [hm, e1, ih (c + 1) _ _ (by omega) (by omega) hw (by rw [List.length_set]; exact hd) (by rw [List.length_set]; exact ha) (fun j hj => by rw [lgetD_set_ne (by omega)]; exact hz j (by omega))]; (have hn : Int.toNat t.Width - c = (Int.toNat t.Width - (c + 1)) + 1 := by omega); rw [hn]; unfold dcols ncols; rw [List.range'_succ, List.map_cons, List.map_cons]
   have ts : ∀ (x : Int) (l : List Int), c < l.length → (l.set c x).take (c + 1) = l.take c ++ [x] := by
    intro x l hl; rw [List.take_succ, List.take_set_of_le (Nat.le_refl _)]; simp [hl]
   rw [ts _ d (by omega), ts _ a (by omega)]; simp
  · rw [decide_eq_false (by omega : ¬ (c : Int) < t.Width), cond_false]; (have e : Int.toNat t.Width - c = 0 := by omega); rw [e, List.take_of_length_le (by omega), List.take_of_length_le (by omega)]; simp [dcols, ncols]

def statistics (t : Tab) : Sta := ⟨(t.Rows.length : Int), dcols t 0 (Int.toNat t.Width), ncols t 0 (Int.toNat t.Width)⟩

theorem iStatsOf_yes {t : Tab} (h : VT t) : iStatsOf t = statistics t := by
 unfold iStatsOf; rw [ValidTable_iff.2 h]; simp only [Bool.not_true, cond_false]; unfold andThen; have hw := h.w1; rw [il0 t _ 0 _ _ (by omega) (by omega) (by omega) (by simp) (by simp) (fun j _ => by rw [List.getD_eq_getElem?_getD, List.getElem?_replicate]; split <;> rfl)]; simp [statistics]

theorem iStatsOf_no {t : Tab} (h : ¬ VT t) : iStatsOf t = ⟨0, [], []⟩ := by
 unfold iStatsOf
 have : ValidTable t = false := by
  cases e : ValidTable t with
  | true => exact absurd (ValidTable_iff.1 e) h
  | false => rfl
 rw [this]; rfl

def mkN (x : Int) : List Val := [⟨false, x⟩]

theorem mkN_mem {s : List Int} {v : Val} (hn : v.Null = false) : [v] ∈ s.map mkN ↔ v.N ∈ s := by
 obtain ⟨b, n⟩ := v; simp only at hn; subst hn; simp only [List.mem_map, mkN, List.cons.injEq, Val.mk.injEq, true_and, and_true]; exact ⟨fun ⟨x, h, e⟩ => e ▸ h, fun h => ⟨_, h, rfl⟩⟩

theorem sl1 (t : Tab) (c : Nat) : ∀ (k n i : Nat) (s : List Int), t.Rows.length - i < k → i ≤ t.Rows.length →
  statsOf_l1 t c k n i (s.map mkN) = (n + nnul ((col t.Rows c).drop i), (((col t.Rows c).drop i).foldl dadd s).map mkN) := by
 intro k
 induction k with
 | zero => intro n i s h; omega
 | succ k ih =>
  intro n i s hk hi; unfold statsOf_l1; by_cases h : i < t.Rows.length
  ·
   rw [decide_eq_true (by omega : (i : Int) < (length t.Rows : Int)), cond_true, col_drop h]; generalize hv : (t.Rows.getD i []).getD c Val.zero = v
   cases hn : v.Null with
   | true =>
    rw [cond_true, ih _ _ _ (by omega) (by omega), nnul, nnul, List.countP_cons_of_pos (by simpa using hn), List.foldl_cons]; (have e : dadd s v = s := by simp [dadd, hn]); rw [e]; congr 1; omega
   | false =>
    (have e0 : nnul (v :: (col t.Rows c).drop (i + 1)) = nnul ((col t.Rows c).drop (i + 1)) := by simp [nnul, hn]); rw [cond_false, countRow_eq, e0, List.foldl_cons]; by_cases hm : v.N ∈ s
    · have hp : 0 < cnt (s.map mkN) [v] := cnt_pos.2 ((mkN_mem hn).2 hm); (have e : (((cnt (s.map mkN) [v] : Nat) : Int) == 0) = false := by rw [beq_eq_false_iff_ne]; omega); (have e2 : dadd s v = s := by simp [dadd, hn, hm]); rw [e, cond_false, ih _ _ _ (by omega) (by omega), e2]
    ·
     have hp : ¬ 0 < cnt (s.map mkN) [v] := fun h => hm ((mkN_mem hn).1 (cnt_pos.1 h)); (have e : (((cnt (s.map mkN) [v] : Nat) : Int) == 0) = true := by rw [beq_iff_eq]; omega); have e2 : dadd s v = s ++ [v.N] := by simp [dadd, hn, hm]
     have e3 : s.map mkN ++ [[v]] = (s ++ [v.N]).map mkN := by
      obtain ⟨b, n⟩ := v; simp only at hn; subst hn; simp [mkN]
     rw [e, cond_true, e3, ih _ _ _ (by omega) (by omega), e2]
  · rw [decide_eq_false (by omega : ¬ (i : Int) < (length t.Rows : Int)), cond_false, List.drop_eq_nil_of_le (by rw [col_len]; omega)]; simp [nnul]

theorem sl0 (t : Tab) : ∀ (k c : Nat) (d a : List Int), Int.toNat t.Width - c < k → c ≤ Int.toNat t.Width → 0 ≤ t.Width →
  statsOf_l0 t k c d a = (d ++ dcols t c (Int.toNat t.Width - c), a ++ ncols t c (Int.toNat t.Width - c)) := by
 intro k
 induction k with
 | zero => intro c d a h; omega
 | succ k ih =>
  intro c d a hk hc hw; unfold statsOf_l0; by_cases h : c < Int.toNat t.Width
  · rw [decide_eq_true (by omega : (c : Int) < t.Width), cond_true]; have e := sl1 t c (t.Rows.length - 0 + 1) 0 0 [] (by omega) (by omega); rw [List.map_nil] at e; unfold andThen; rw [e]; simp only [List.drop_zero, Nat.zero_add, List.length_map]; rw [ih (c + 1) _ _ (by omega) (by omega) hw]; (have hn : Int.toNat t.Width - c = (Int.toNat t.Width - (c + 1)) + 1 := by omega); rw [hn]; unfold dcols ncols; rw [List.range'_succ, List.map_cons, List.map_cons, List.append_assoc, List.append_assoc]; rfl
  · rw [decide_eq_false (by omega : ¬ (c : Int) < t.Width), cond_false]; (have e : Int.toNat t.Width - c = 0 := by omega); rw [e]; simp [dcols, ncols]

theorem stats_same (t : Tab) : iStatsOf t = sStatsOf t := by
 unfold sStatsOf; by_cases h : VT t
 · rw [validTable_iff.2 h, iStatsOf_yes h]; simp only [Bool.not_true, cond_false]; unfold statsOf andThen; have hw := h.w1; rw [sl0 t _ 0 [] [] (by omega) (by omega) (by omega)]; simp [statistics]
 ·
  have : validTable t = false := by
   cases e : validTable t with
   | true => exact absurd (validTable_iff.1 e) h
   | false => rfl
  rw [this, iStatsOf_no h]; rfl

end
end Go.Proofs.Ytjcjpeckfikfkaa
