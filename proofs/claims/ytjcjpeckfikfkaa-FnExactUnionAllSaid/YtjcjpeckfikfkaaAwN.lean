/-
  A part of the proof of this claim (AwN): what functions of the program compute, and plain facts of that. No conditions.
-/
import Derived.Test.YtjcjpeckfikfkaaAwM
set_option linter.all false
namespace Go.Proofs.Ytjcjpeckfikfkaa
open Go Go.Am
noncomputable section

theorem two_ok {a b : List (List Val)} (h : a.length ≤ 1000) (h' : b.length ≤ 1000) : ((List.length [a, b] : Nat) : Int) ≤ 1000 ∧ ∀ k : Nat, k < List.length [a, b] → ((List.length (List.getD [a, b] k []) : Nat) : Int) ≤ 1000000 := by
 refine ⟨by simp, fun k hk => ?_⟩
 match k with
 | 0 => show ((List.length a : Nat) : Int) ≤ 1000000; omega
 | 1 => show ((List.length b : Nat) : Int) ≤ 1000000; omega
 | k + 2 => simp at hk; omega

theorem concat_pair (a b : List (List Val)) : concat [a, b] = a ++ b := by
 rw [concat_eq]
 simp

theorem union_rows {a b : Tab} (ha : ValidTable a = true) (hb : ValidTable b = true) (hw : a.Width = b.Width) : RowsOK (valuesF (concat [a.Rows, b.Rows])) := by
 have ha := ValidTable_iff.1 ha
 have hb := ValidTable_iff.1 hb
 show RowsOK (concat [a.Rows, b.Rows])
 rw [concat_pair]
 refine ⟨a.Width.toNat, fun r hr => ?_⟩
 have g : ∀ {t : Tab}, VT t → r ∈ t.Rows → VR r ∧ r.length = t.Width.toNat := fun {t} ht hm => by
  obtain ⟨i, hi, rfl⟩ := getD_mem_row hm
  have := ht.rows i hi
  refine ⟨this.1, ?_⟩
  have h2 : (((t.Rows.getD i []).length : Nat) : Int) = t.Width := this.2
  omega
 rcases List.mem_append.1 hr with h | h
 ·
  exact g ha h
 ·
  rw [hw]; exact g hb h

def iUnionAll (a : Tab) (b : Tab) : Tab × Bool := (bif (bif (bif (!(ValidTable a)) then true else (!(ValidTable b))) then true else ((Tab.Width a) != (Tab.Width b))) then ((Tab.mk 0 ([] : List (List Val))), false) else ((collect (Tab.Width a) (valuesF (concat ([(Tab.Rows a), (Tab.Rows b)] : List (List (List Val)))))), true))

end
end Go.Proofs.Ytjcjpeckfikfkaa
