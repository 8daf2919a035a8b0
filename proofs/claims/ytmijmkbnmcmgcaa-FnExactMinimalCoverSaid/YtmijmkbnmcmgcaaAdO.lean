/-
  A part of the proof of this claim (AdO): what functions of the program compute, and plain facts of that. No conditions.
-/
import Derived.Test.YtmijmkbnmcmgcaaAd9
set_option linter.all false
namespace Go.Proofs.Ytmijmkbnmcmgcaa
open Go Go.Am
noncomputable section

def OKL (l : List Dep) : Prop := ∀ f ∈ l, (0 ≤ f.From ∧ f.From < 64) ∧ (0 ≤ f.To ∧ f.To < 64)

theorem OKL.at {l : List Dep} (h : OKL l) {i : Nat} (hi : i < l.length) : (0 ≤ (l.getD i Dep.zero).From ∧ (l.getD i Dep.zero).From < 64) ∧ (0 ≤ (l.getD i Dep.zero).To ∧ (l.getD i Dep.zero).To < 64) := h _ (getD_mem l i Dep.zero hi)

theorem OKL.nil : OKL [] := fun _ h => by cases h

theorem OKL.snoc {l : List Dep} (h : OKL l) {d : Dep} (hd : (0 ≤ d.From ∧ d.From < 64) ∧ (0 ≤ d.To ∧ d.To < 64)) : OKL (l ++ [d]) := fun f hf => by
 rcases List.mem_append.1 hf with hf | hf
 ·
  exact h f hf
 ·
  rw [List.mem_singleton.1 hf]; exact hd

theorem OKL.set {l : List Dep} (h : OKL l) (i : Nat) {d : Dep} (hd : (0 ≤ d.From ∧ d.From < 64) ∧ (0 ≤ d.To ∧ d.To < 64)) : OKL (l.set i d) := fun f hf => by
 rcases List.mem_or_eq_of_mem_set hf with hf | rfl
 ·
  exact h f hf
 ·
  exact hd

theorem OKL.sub {l m : List Dep} (h : OKL l) (hs : ∀ f ∈ m, f ∈ l) : OKL m := fun f hf => h f (hs f hf)

theorem concat_l1_eq (sl : List (List Dep)) : ∀ (k i : Nat) (out : List Dep), sl.length - i < k → concat_l1 sl k i out = out ++ (sl.drop i).flatten := by
 intro k
 induction k with
 | zero => intro i out h; omega
 | succ k ih =>
  intro i out h
  unfold concat_l1
  by_cases hi : ((i : Nat) : Int) < ((List.length sl : Nat) : Int)
  ·
   have hi' : i < sl.length := by omega
   rw [decide_eq_true hi, cond_true, ih _ _ (by omega), List.drop_eq_getElem_cons hi', List.flatten_cons, List.append_assoc, List.getD_eq_getElem?_getD, List.getElem?_eq_getElem hi']
   rfl
  ·
   rw [decide_eq_false hi, cond_false, List.drop_of_length_le (by omega)]
   simp

theorem concat_eq (sl : List (List Dep)) : concat sl = sl.flatten := by
 have key : ∀ n : Nat, (bif decide (0 < (((n : Nat) : Int) - ((0 : Int) - 0))) then Go.Am.andThen (concat_l1 sl (sl.length - 0 + 1) 0 (List.take 0 (List.replicate (Int.toNat (((n : Nat) : Int) - ((0 : Int) - 0))) Dep.zero))) (fun z => z) else Go.Am.andThen (concat_l1 sl (sl.length - 0 + 1) 0 []) (fun z => z)) = sl.flatten := by
  intro n
  have h := concat_l1_eq sl (sl.length - 0 + 1) 0 [] (by omega)
  rw [List.drop_zero, List.nil_append] at h
  cases decide (0 < (((n : Nat) : Int) - ((0 : Int) - 0))) with
  | true => rw [cond_true, List.take_zero]; exact h
  | false => exact h
 exact key _

theorem concat_two (l : List Dep) (i : Nat) : concat [l.take i, l.drop (i + 1)] = l.take i ++ l.drop (i + 1) := by
 rw [concat_eq]
 simp

theorem concat_len {l : List Dep} {i : Nat} (hi : i < l.length) : (concat [l.take i, l.drop (i + 1)]).length = l.length - 1 := by
 rw [concat_two, List.length_append, List.length_take, List.length_drop]
 omega

theorem OKL.rest {l : List Dep} (h : OKL l) (i : Nat) : OKL (concat [l.take i, l.drop (i + 1)]) := h.sub fun f hf => by
 rw [concat_two] at hf
 rcases List.mem_append.1 hf with hf | hf
 ·
  exact List.mem_of_mem_take hf
 ·
  exact List.mem_of_mem_drop hf

end
end Go.Proofs.Ytmijmkbnmcmgcaa
