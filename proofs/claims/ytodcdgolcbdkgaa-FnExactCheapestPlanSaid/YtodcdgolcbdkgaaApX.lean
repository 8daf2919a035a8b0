/-
  A part of the proof of this claim (ApX): what functions of the program compute, and plain facts of that. No conditions.
-/
import Derived.Test.YtodcdgolcbdkgaaApW
set_option linter.all false
namespace Go.Proofs.Ytodcdgolcbdkgaa
open Go Go.Am
noncomputable section

theorem statsWidths_l0_eq (stats : List Sta) : ∀ (k i : Nat) (ws : List Int), stats.length - i < k → statsWidths_l0 stats k i ws = ws ++ (stats.drop i).map fun s => ((s.Distinct.length : Nat) : Int) := by
 intro k
 induction k with
 | zero => intro i ws h; omega
 | succ k ih =>
  intro i ws h
  unfold statsWidths_l0
  by_cases hi : i < stats.length
  ·
   have e : List.getD stats i Sta.zero = stats[i] := by simp [hi]
   rw [lt_dec hi, cond_true, ih _ _ (by omega), List.drop_eq_getElem_cons hi, List.map_cons, List.append_assoc, List.singleton_append, e]
  ·
   rw [ge_dec hi, cond_false, List.drop_eq_nil_of_le (by omega)]
   simp

theorem statsWidths_eq (stats : List Sta) : statsWidths stats = stats.map fun s => ((s.Distinct.length : Nat) : Int) := by
 unfold statsWidths
 simp only [Go.Am.andThen]
 rw [statsWidths_l0_eq _ _ _ _ (by omega)]
 simp

theorem statsWidths_get {stats : List Sta} {i : Nat} (h : i < stats.length) : List.getD (statsWidths stats) i 0 = (((List.getD stats i Sta.zero).Distinct.length : Nat) : Int) := by
 rw [statsWidths_eq]
 simp [h]

theorem statsWidths_len (stats : List Sta) : (statsWidths stats).length = stats.length := by
 rw [statsWidths_eq]
 simp

def AllSt (stats : List Sta) : Prop := ∀ j, j < stats.length → VSt (List.getD stats j Sta.zero)

/-- A valid plan for statistics, with so many levels left. -/
def PSt (stats : List Sta) (l : Nat) (p : Pln) : Prop := AllSt stats ∧ VW (statsWidths stats) ∧ ∃ f, SizeOf.sizeOf p < f ∧ l ≤ 8 ∧ widthBelow_r f p (statsWidths stats) (l : Int) ≠ 0

theorem PSt.pvw {stats : List Sta} {l : Nat} {p : Pln} (h : PSt stats l p) : PVw (statsWidths stats) p := by
 obtain ⟨_, h1, f, h2, h3, h4⟩ := h
 exact ⟨h1, f, l, h2, ⟨by omega, by omega⟩, h4⟩

theorem PSt.kid {stats : List Sta} {l : Nat} {p : Pln} (h : PSt stats l p) {i : Nat} (hi : i < p.Kids.length) : 1 ≤ l ∧ PSt stats (l - 1) (p.Kids.getD i Pln.zero) := by
 obtain ⟨h0, h1, f, h2, h3, h4⟩ := h
 cases f with
 | zero => omega
 | succ f =>
  have hw := wb_facts h4
  have hl := hw.deep (by omega)
  have := pkid_lt hi
  have hk := hw.kids i hi
  rw [show (l : Int) - 1 = ((l - 1 : Nat) : Int) by omega] at hk
  exact ⟨by omega, h0, h1, f, by omega, by omega, hk⟩

/-- The costs of all parts of a plan with l levels are at most this. -/
def ctop (l : Nat) : Int := 1000000000 * (2 ^ (l + 1) - 1)

theorem ctop_succ (l : Nat) : ctop (l + 1) = 1000000000 + 2 * ctop l := by
 unfold ctop
 rw [show (2 : Int) ^ (l + 1 + 1) = 2 * 2 ^ (l + 1) by rw [Int.pow_succ (n := l + 1)]; omega]
 omega

theorem ctop_pos (l : Nat) : 1000000000 ≤ ctop l := by
 induction l with
 | zero => decide
 | succ l ih =>
  rw [ctop_succ]
  omega

theorem ctop_le {l : Nat} (h : l ≤ 8) : ctop l ≤ 600000000000 := by
 match l, h with
 | 0, _ | 1, _ | 2, _ | 3, _ | 4, _ | 5, _ | 6, _ | 7, _ | 8, _ => decide

end
end Go.Proofs.Ytodcdgolcbdkgaa
