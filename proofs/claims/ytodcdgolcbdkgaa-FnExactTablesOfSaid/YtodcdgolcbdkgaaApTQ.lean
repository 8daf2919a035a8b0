/-
  A part of the proof of this claim (ApTQ): what functions of the program compute, and plain facts of that. No conditions.
-/
import Derived.Test.YtodcdgolcbdkgaaApTO
import Derived.Test.YtodcdgolcbdkgaaApT8
import Derived.Test.YtodcdgolcbdkgaaApTM
set_option linter.all false
namespace Go.Proofs.Ytodcdgolcbdkgaa
open Go Go.Am
open Go.Am.AW (seq r1U ret kpU cdE r0U r1 meet block rS bk exit lpB r0)
open List (length getD take drop)
noncomputable section

def addNumber_l0 (list : List Int) (n : Int) : Nat → Nat → Nat
 | 0, k1 => k1
 | k + 1, k1 => (bif (bif (decide ((k1 : Int) < (length list : Int))) then (decide ((getD list k1 0) < n)) else false) then (addNumber_l0 list n k (k1 + 1)) else k1)

def addNumber (list : List Int) (n : Int) : (List Int) := (andThen (addNumber_l0 list n (length list - 0 + 1) 0) (fun z => (fun (k1 : Nat) => (bif (bif (decide ((k1 : Int) < (length list : Int))) then ((getD list k1 0) == n) else false) then list else (((([] : List Int) ++ (take k1 list)) ++ ([n] : List Int)) ++ (drop k1 list)))) z))

def addNumber_sp : FnSpec := mkSpec [.val (.slice (.int .i64)), .val (.int .i64)] [.val (.slice (.int .i64))] (fun (list : List Int) (n : Int) => length list ≤ 1000) (fun (list : List Int) (n : Int) => [⟨(.slice (.int .i64)), (addNumber list n)⟩])

theorem addNumber_ok : FnOK Try.prog 119 addNumber_sp := by
 have hC : CtxOK Try.prog (mkCtx tyL []) := CtxOK.nil tyOK; refine FnOK.of_body Try.func119 (by kernel_rfl) rfl (C := (mkCtx tyL [])) hC.ty (by kernel_rfl) ?_; intro (list : List Int) (n : Int) hwf hpre E; have hpre : length list ≤ 1000 := hpre; have e0 : addNumber list n = addNumber list n := rfl; refine seq (r1U hC [0, 1] [] [] [] ?_); refine seq (r1U hC [0, 1, 5] [] [(5, sI 0)] [] ?_); refine seq (lpB (ζ := Nat) (fun x => ⟨[(0, sD7 list), (1, sI n), (5, sI (x : Int))], []⟩) (fun x => x ≤ length list) (fun x => x) (α := Nat) (fun x => ⟨[(0, sD7 list), (1, sI n), (5, sI (x : Int))], []⟩) (fun x => x ≤ length list) (fun x => length list - x) (fun k x => addNumber_l0 list n k x) 0 (by kernel_rfl) ?_ ?_ ?_)
 · omega
 ·
  intro k1 k15q hI0 hk13 e14; refine seq (seq (r0U hC [0, 1, 5, 18] [] [(18, sB (bif (decide ((k1 : Int) < (length list : Int))) then (decide ((getD list k1 0) < n)) else false))] [] [(((decide ((k1 : Int) < (length list : Int))) = true) → (((decide ((k1 : Int) < (length list : Int))) = true))), (((decide ((k1 : Int) < (length list : Int))) = true) → (((decide ((k1 : Int) < (length list : Int))) = true))), (((decide ((k1 : Int) < (length list : Int))) = true) → IX (k1 : Int) (length list : Int)), (((decide ((k1 : Int) < (length list : Int))) = true) → (((decide ((k1 : Int) < (length list : Int))) = true))), (((decide ((k1 : Int) < (length list : Int))) = true) → (((decide ((k1 : Int) < (length list : Int))) = true))), (((decide ((k1 : Int) < (length list : Int))) = true) → (((decide ((k1 : Int) < (length list : Int))) = true))), (((decide ((k1 : Int) < (length list : Int))) = true) → (((decide ((k1 : Int) < (length list : Int))) = true)))] ?_ ?_))
  ·
   exact ⟨(by intro g16; assumption), (by intro g17; assumption), (by intro g18; (have g18p0 : (k1 : Int) < (length list : Int) := (of_decide_eq_true g18)); refine IX.of ?_; omega), (by intro g19; assumption), (by intro g20; assumption), (by intro g21; assumption), (by intro g22; assumption), trivial⟩
  refine cdE e14 ?_ ?_
  ·
   intro h23q e24; refine kpU [0, 1, 5] [] [] [] ?_; refine AW.skip (block (r0U hC [0, 1, 5] [] [(5, sI ((k1 + 1 : Nat) : Int))] [] [R64 ((k1 + 1 : Nat) : Int)] ?_ ?_))
   ·
    exact ⟨R64.of (by omega), trivial⟩
   refine bk (k1 + 1) e24 hk13 ?_ ?_
   · omega
   · omega
  · intro h25q e26; refine kpU [0, 1, 5] [] [] [] ?_; refine exit ?_; refine meet k1 (by kernel_rfl) ⟨?_, e26⟩; exact hI0
 ·
  intro k1 hJ0 e27; have e28 := e0.trans (then_eq e27); refine seq (seq (r0U hC [0, 1, 5, 32] [] [(32, sB (bif (decide ((k1 : Int) < (length list : Int))) then ((getD list k1 0) == n) else false))] [] [(((decide ((k1 : Int) < (length list : Int))) = true) → (((decide ((k1 : Int) < (length list : Int))) = true))), (((decide ((k1 : Int) < (length list : Int))) = true) → (((decide ((k1 : Int) < (length list : Int))) = true))), (((decide ((k1 : Int) < (length list : Int))) = true) → IX (k1 : Int) (length list : Int)), (((decide ((k1 : Int) < (length list : Int))) = true) → (((decide ((k1 : Int) < (length list : Int))) = true))), (((decide ((k1 : Int) < (length list : Int))) = true) → (((decide ((k1 : Int) < (length list : Int))) = true))), (((decide ((k1 : Int) < (length list : Int))) = true) → (((decide ((k1 : Int) < (length list : Int))) = true))), (((decide ((k1 : Int) < (length list : Int))) = true) → (((decide ((k1 : Int) < (length list : Int))) = true)))] ?_ ?_))
  ·
   exact ⟨(by intro g29; assumption), (by intro g30; assumption), (by intro g31; (have g31p0 : (k1 : Int) < (length list : Int) := (of_decide_eq_true g31)); refine IX.of ?_; omega), (by intro g32; assumption), (by intro g33; assumption), (by intro g34; assumption), (by intro g35; assumption), trivial⟩
  refine cdE e28 ?_ ?_
  · intro h36q e37; refine seq (r1 hC [4] [] ⟨[(4, sD7 list)], []⟩ ?_); exact ret (rS (.slice (.int .i64)) e37)
  ·
   intro h38q e39; refine kpU [0, 1, 5] [] [] [] ?_; refine AW.skip (seq (r0U hC [0, 1, 5, 6] [136] [(6, .arr 136 1)] [(136, .arr 1 (.int .i64) ((([] : List Int) ++ (take k1 list)) : List Int))] [(0 ≤ (k1 : Int) ∧ (k1 : Int) ≤ (length list : Int)), (0 + (length (take k1 list) : Int) ≤ 4294967296)] ?_ ?_))
   ·
    exact ⟨(by omega), (by (simp only [List.length_append, List.length_cons, List.length_nil, List.length_take, List.length_drop, List.nil_append] at *; omega)), trivial⟩
   refine seq (r0U hC [0, 5, 6] [136] [] [(136, .arr 1 (.int .i64) (((([] : List Int) ++ (take k1 list)) ++ ([n] : List Int)) : List Int))] [((length (([] : List Int) ++ (take k1 list)) : Int) + (length ([n] : List Int) : Int) ≤ 4294967296)] ?_ ?_)
   ·
    exact ⟨(by (simp only [List.length_append, List.length_cons, List.length_nil, List.length_take, List.length_drop, List.nil_append] at *; omega)), trivial⟩
   refine seq (r0 hC [4] [136] ⟨[(4, .arr 136 1)], [(136, .arr 1 (.int .i64) ((((([] : List Int) ++ (take k1 list)) ++ ([n] : List Int)) ++ (drop k1 list)) : List Int))]⟩ [(0 ≤ (k1 : Int) ∧ (k1 : Int) ≤ (length list : Int)), ((length ((([] : List Int) ++ (take k1 list)) ++ ([n] : List Int)) : Int) + (length (drop k1 list) : Int) ≤ 4294967296)] ?_ ?_)
   ·
    exact ⟨(by omega), (by (simp only [List.length_append, List.length_cons, List.length_nil, List.length_take, List.length_drop, List.nil_append] at *; omega)), trivial⟩
   exact ret (rS (.slice (.int .i64)) e39)

/-! ### Ascending lists of table numbers -/

def ST (n : Int) (l : List Int) : Prop := l.Pairwise (· < ·) ∧ ∀ x ∈ l, 0 ≤ x ∧ x < n

theorem ST.nil {n : Int} : ST n [] := ⟨List.Pairwise.nil, fun x h => by cases h⟩

theorem asc_len : ∀ (l : List Int) (a n : Int), l.Pairwise (· < ·) → (∀ x ∈ l, a ≤ x ∧ x < n) → (l.length : Int) ≤ (n - a).toNat := by
 intro l
 induction l with
 | nil => intro a n _ _; show (0 : Int) ≤ _; omega
 | cons x l ih =>
  intro a n hp hb; rw [List.pairwise_cons] at hp; have h1 := hb x (List.Mem.head _); have h2 := ih (x + 1) n hp.2 (fun y hy => ⟨by have := hp.1 y hy; omega, (hb y (List.Mem.tail _ hy)).2⟩); rw [List.length_cons]; omega

theorem ST.len {n : Int} {l : List Int} (h : ST n l) : (l.length : Int) ≤ n.toNat := by
 have := asc_len l 0 n h.1 h.2; omega

theorem asc_ext : ∀ (a b : List Int), a.Pairwise (· < ·) → b.Pairwise (· < ·) → (∀ x, x ∈ a ↔ x ∈ b) → a = b := by
 intro a
 induction a with
 | nil =>
  intro b _ _ h
  cases b with
  | nil => rfl
  | cons y b => exact absurd ((h y).2 (List.Mem.head _)) (by simp)
 | cons x a ih =>
  intro b ha hb h
  cases b with
  | nil => exact absurd ((h x).1 (List.Mem.head _)) (by simp)
  | cons y b =>
   rw [List.pairwise_cons] at ha hb
   have e : x = y := by
    rcases List.mem_cons.1 ((h x).1 (List.Mem.head _)) with e | e
    · exact e
    ·
     rcases List.mem_cons.1 ((h y).2 (List.Mem.head _)) with e2 | e2
     · exact e2.symm
     · have a1 := hb.1 x e; have a2 := ha.1 y e2; omega
   subst e; congr 1; refine ih b ha.2 hb.2 fun z => ⟨fun hz => ?_, fun hz => ?_⟩
   ·
    rcases List.mem_cons.1 ((h z).1 (List.Mem.tail _ hz)) with e | e
    · have := ha.1 z hz; omega
    · exact e
   ·
    rcases List.mem_cons.1 ((h z).2 (List.Mem.tail _ hz)) with e | e
    · have := hb.1 z hz; omega
    · exact e

theorem place (l : List Int) (n : Int) : ∀ (k i : Nat), l.length - i < k → i ≤ l.length → (∀ x ∈ l.take i, x < n) → (∀ x ∈ l.take (addNumber_l0 l n k i), x < n) ∧ addNumber_l0 l n k i ≤ l.length ∧ (addNumber_l0 l n k i < l.length → n ≤ l.getD (addNumber_l0 l n k i) 0) := by
 intro k
 induction k with
 | zero => intro i h; omega
 | succ k ih =>
  intro i hk hi ht; unfold addNumber_l0; by_cases h1 : i < l.length
  ·
   by_cases h2 : l.getD i 0 < n
   ·
    rw [lt_dec h1, cond_true, decide_eq_true h2, cond_true]; refine ih _ (by omega) h1 fun x hx => ?_; rw [List.take_add_one, List.mem_append] at hx; rcases hx with hx | hx
    · exact ht x hx
    · rw [List.getElem?_eq_getElem h1] at hx; rw [List.getD_eq_getElem?_getD, List.getElem?_eq_getElem h1] at h2; simp only [Option.toList_some, List.mem_singleton] at hx; subst hx; exact h2
   · rw [lt_dec h1, cond_true, decide_eq_false h2, cond_false]; exact ⟨ht, hi, fun _ => by omega⟩
  · rw [ge_dec h1, cond_false, cond_false]; exact ⟨ht, hi, fun h => absurd h h1⟩

theorem addNumber_st {m : Int} {l : List Int} {n : Int} (h : ST m l) (hn : 0 ≤ n ∧ n < m) : ST m (addNumber l n) ∧ ∀ x, x ∈ addNumber l n ↔ x ∈ l ∨ x = n := by
 obtain ⟨p1, p2, p3⟩ := place l n (l.length - 0 + 1) 0 (by omega) (Nat.zero_le _) (fun x hx => by rw [List.take_zero] at hx; cases hx); unfold addNumber andThen; generalize addNumber_l0 l n (l.length - 0 + 1) 0 = k at *; show ST m (bif (bif (decide ((k : Int) < (length l : Int))) then ((getD l k 0) == n) else false) then l else (((([] : List Int) ++ (take k l)) ++ ([n] : List Int)) ++ (drop k l))) ∧ ∀ x, x ∈ (bif (bif (decide ((k : Int) < (length l : Int))) then ((getD l k 0) == n) else false) then l else (((([] : List Int) ++ (take k l)) ++ ([n] : List Int)) ++ (drop k l))) ↔ x ∈ l ∨ x = n
 cases hc : (bif (decide ((k : Int) < (length l : Int))) then ((getD l k 0) == n) else false) with
 | true =>
  rw [cond_true]; refine ⟨h, fun x => ⟨.inl, fun hx => ?_⟩⟩; rcases hx with hx | hx
  · exact hx
  ·
   by_cases hk : k < l.length
   · rw [lt_dec hk, cond_true] at hc; rw [hx, ← eq_of_beq hc]; exact getD_mem l k 0 hk
   · rw [ge_dec hk, cond_false] at hc; cases hc
 | false =>
  rw [cond_false, List.nil_append]
  have hd : ∀ x ∈ l.drop k, n < x := by
   by_cases hk : k < l.length
   ·
    rw [lt_dec hk, cond_true] at hc; have h4 := p3 hk; have h5 : l.getD k 0 ≠ n := ne_of_beq_false hc; have h6 := h.1.sublist (List.drop_sublist k l); rw [drop_getD (d := 0) hk] at h6 ⊢; rw [List.pairwise_cons] at h6; intro x hx; rcases List.mem_cons.1 hx with hx | hx
    · omega
    · have := h6.1 x hx; omega
   · rw [List.drop_of_length_le (by omega)]; intro x hx; cases hx
  have hm : ∀ x, x ∈ l.take k ++ [n] ++ l.drop k ↔ x ∈ l ∨ x = n := fun x => by
   (conv => rhs; rw [← List.take_append_drop k l]); simp only [List.mem_append, List.mem_singleton]; constructor
   ·
    rintro ((h | h) | h)
    · exact .inl (.inl h)
    · exact .inr h
    · exact .inl (.inr h)
   ·
    rintro ((h | h) | h)
    · exact .inl (.inl h)
    · exact .inr h
    · exact .inl (.inr h)
  refine ⟨⟨?_, fun x hx => ?_⟩, hm⟩
  ·
   rw [List.append_assoc, List.pairwise_append]; refine ⟨h.1.sublist (List.take_sublist k l), ?_, ?_⟩
   · rw [List.singleton_append, List.pairwise_cons]; exact ⟨hd, h.1.sublist (List.drop_sublist k l)⟩
   ·
    intro a ha b hb; have h7 := p1 a ha; rw [List.singleton_append] at hb; rcases List.mem_cons.1 hb with hb | hb
    · omega
    · have := hd b hb; omega
  ·
   rcases (hm x).1 hx with hx | hx
   · exact h.2 x hx
   · omega

/-! ### Which tables a plan scans -/

def ht' (table : Int) (x : Pln) : Bool := bif ((Pln.Kind x) == 1) then ((Pln.Table x) == table) else false

def hit : Nat → Int → Pln → Bool
 | 0, _, _ => false
 | f + 1, t, x => ht' t x || x.Kids.any (hit f t)

theorem any_congr' {α : Type} {f g : α → Bool} : ∀ (l : List α), (∀ x ∈ l, f x = g x) → l.any f = l.any g := by
 intro l
 induction l with
 | nil => intro _; rfl
 | cons x l ih =>
  intro h; rw [List.any_cons, List.any_cons, h x (List.Mem.head _), ih fun y hy => h y (List.Mem.tail _ hy)]

theorem hit_lev {ws : List Int} : ∀ (l f : Nat) (t : Int) (x : Pln), WL ws l x → SizeOf.sizeOf x < f → hit f t x = hit (l + 1) t x := by
 intro l
 induction l with
 | zero =>
  intro f t x h hs; obtain ⟨f, rfl⟩ : ∃ q, f = q + 1 := ⟨f - 1, by omega⟩; have : x.Kids = [] := List.length_eq_zero_iff.1 h.flat; unfold hit; rw [this]; rfl
 | succ l ih =>
  intro f t x h hs; obtain ⟨f, rfl⟩ : ∃ q, f = q + 1 := ⟨f - 1, by omega⟩; show (ht' t x || x.Kids.any (hit f t)) = (ht' t x || x.Kids.any (hit (l + 1) t)); congr 1; refine any_congr' _ fun y hy => ?_; obtain ⟨i, hi, rfl⟩ := List.mem_iff_getElem.1 hy; have h3 := pkid_lt hi; have h4 := h.kd hi; rw [List.getD_eq_getElem?_getD, List.getElem?_eq_getElem hi, Option.getD_some] at h3 h4; exact ih f t _ h4 (by omega)

end
end Go.Proofs.Ytodcdgolcbdkgaa
