/-
  A part of the proof of this claim (AyI): what functions of the program compute, and plain facts of that. No conditions.
-/
import Derived.Test.YtjcjpeckfikfkaaAyH
import Derived.Test.YtjcjpeckfikfkaaAnQ
import Derived.WalkKit
import Derived.TacticsIn
import Derived.BigFrameIn
import Derived.LoopNIn
set_option linter.all false
namespace Go.Proofs.Ytjcjpeckfikfkaa
open Go Go.Am
open Go.RowKit
noncomputable section

/-! ### The library's stable sort of few numbers is its insertion sort -/

set_option maxHeartbeats 1000000 in
theorem stable_inner {n D : Nat} {p : Option Addr} {cvs : Array Value} {w : World} {R : World → Prop} (hn : n < 20)
  (h : CallsIn Fence.wide 0 Try.prog 115 #[.slice p n D, .int .i64 0, .int .i64 n, .func (.func 86) #[] cvs] w fun e w' => e = .returned (.tuple #[]) ∧ R w') :
  CallsIn Fence.wide 0 Try.prog 109 #[.slice p n D, .int .i64 n, .func (.func 86) #[] cvs] w fun e w' => e = .returned (.tuple #[]) ∧ R w' := by
 refine callsIn_of_wp Try.func109 rfl trivial ?_ rfl
 simp only [Try.ntmps109, List.size_toArray, List.length_cons, List.length_nil, Nat.reduceAdd, Nat.reduceSub, Array.replicate_succ, Array.replicate_zero, List.push_toArray, List.append_toArray, List.nil_append, List.cons_append]
 have h20 : ¬ ((20 : Int) ≤ (n : Int)) := by omega
 have h21 : ¬ ((20 : Int) < (n : Int)) := by omega
 gi_wp2
 refine wpIn_loop_rounds 1 ?_
 rw [roundsIn_succ]
 gi_wp2
 refine ⟨trivial, rfl, h.mono ?_⟩
 rintro e w' ⟨rfl, hR⟩
 gi_wp2
 refine wpIn_loop_rounds 1 ?_
 rw [roundsIn_succ]
 gi_wp2
 go_end0
 exact ⟨rfl, hR⟩

set_option maxHeartbeats 1000000 in
theorem stable_call {n D : Nat} {p : Option Addr} {cvs : Array Value} {w : World} {R : World → Prop} (hn : n < 20)
  (h : Calls Try.prog 115 #[.slice p n D, .int .i64 0, .int .i64 n, .func (.func 86) #[] cvs] w fun e w' => e = .returned (.tuple #[]) ∧ R w') :
  Calls Try.prog 85 #[.slice p n D, .func (.func 86) #[] cvs] w fun e w' => e = .returned (.tuple #[]) ∧ R w' := by
 have h := (callsIn_wide (n := 0)).2 h
 refine (callsIn_wide (n := 0)).1 (callsIn_of_wp Try.func85 rfl trivial ?_ rfl)
 simp only [Try.ntmps85, List.size_toArray, List.length_cons, List.length_nil, Nat.reduceAdd, Nat.reduceSub, Array.replicate_succ, Array.replicate_zero, List.push_toArray, List.append_toArray, List.nil_append, List.cons_append]
 gi_wp2
 refine ⟨trivial, rfl, (stable_inner hn h).mono ?_⟩
 rintro e w' ⟨rfl, hR⟩
 gi_wp2
 go_end0
 exact ⟨rfl, hR⟩
def insInts_ren : Go.Shelf.Ren := ⟨fun | 20 => 115 | n => n, fun | 24 => 3 | 22 => 58 | 3 => 3 | 25 => 108 | 4 => 4 | 0 => 0 | n => n, fun | n => n⟩
theorem insInts : Go.Proofs.SlLaysF.n20 Try.prog insInts_ren :=
 {
  mixed := by kernel_rfl,
  f20 := ⟨Try.f115.name, by decide, Try.func115.trans (congrArg some (by kernel_rfl))⟩,
  t0 := Try.underlying0,
  a0 := Try.isAgg0,
  z0 := Try.sizeOf0,
  v0 := Try.zeroValue0,
  t3 := Try.underlying3,
  a3 := Try.isAgg3,
  z3 := Try.sizeOf3,
  v3 := Try.zeroValue3,
  t4 := Try.underlying4,
  a4 := Try.isAgg4,
  z4 := Try.sizeOf4,
  v4 := Try.zeroValue4,
  t22 := Try.underlying58,
  a22 := Try.isAgg58,
  z22 := Try.sizeOf58,
  v22 := Try.zeroValue58,
  a24 := Try.isAgg3,
  z24 := Try.sizeOf3,
  t25 := Try.underlying108,
  a25 := Try.isAgg108,
  z25 := Try.sizeOf108,
  v25 := Try.zeroValue108 }

/-! ### An index -/

def idxLt (t : Tab) (col : Int) (i j : Int) : Bool := decide (idxCmp i j t col < 0) || (!decide (idxCmp j i t col < 0) && decide (i < j))

def idxSort (t : Tab) (col : Int) (l : List Int) : List Int := l.mergeSort fun i j => !idxLt t col j i

def IPre (t : Tab) (col : Int) (l : List Int) : Prop := (l.Pairwise (· < ·) ∧ ∀ x ∈ l, 0 ≤ x ∧ x < (List.length t.Rows : Int)) ∧ l.length < 20 ∧ 0 ≤ col ∧ ∀ k, k < List.length t.Rows → col < (List.length (List.getD t.Rows k []) : Int)

theorem compareInt_lt (x y : Int) : decide (compareInt x y < 0) = decide (x < y) := by
 unfold compareInt isNaN
 simp only [bne_self_eq_false, cond_false]
 by_cases h : x < y
 ·
  simp [h]
 ·
  by_cases h2 : y < x <;> simp [h, h2]

def idxKey (t : Tab) (col : Int) (i : Int) : Int := Val.N (List.getD (List.getD (Tab.Rows t) (Int.toNat i) []) (Int.toNat col) Val.zero)

theorem idxCmp_lt (t : Tab) (col i j : Int) : decide (idxCmp i j t col < 0) = decide (idxKey t col i < idxKey t col j) := compareInt_lt _ _

theorem idxLt_iff {t : Tab} {col i j : Int} : idxLt t col i j = true ↔ idxKey t col i < idxKey t col j ∨ (idxKey t col i = idxKey t col j ∧ i < j) := by
 unfold idxLt
 rw [idxCmp_lt, idxCmp_lt]
 simp only [Bool.or_eq_true, Bool.and_eq_true, Bool.not_eq_true', decide_eq_true_eq, decide_eq_false_iff_not]
 omega

theorem idxLt_no {t : Tab} {col i j : Int} : idxLt t col i j = false ↔ idxKey t col j < idxKey t col i ∨ (idxKey t col j = idxKey t col i ∧ j ≤ i) := by
 rw [Bool.eq_false_iff, Ne, idxLt_iff]
 omega

theorem idxSort_len (t : Tab) (col : Int) (l : List Int) : (idxSort t col l).length = l.length := List.length_mergeSort _
theorem idxSort_perm (t : Tab) (col : Int) (l : List Int) : (idxSort t col l).Perm l := List.mergeSort_perm _ _

theorem idxSort_sorted (t : Tab) (col : Int) (l : List Int) : (idxSort t col l).Pairwise fun i j => idxLt t col j i = false := by
 have := List.pairwise_mergeSort (le := fun i j => !idxLt t col j i) (by
  intro a b c h1 h2
  simp only [Bool.not_eq_true', idxLt_no] at *
  omega) (by
  intro a b
  simp only [Bool.or_eq_true, Bool.not_eq_true', idxLt_no]
  omega) l
 exact this.imp fun h => by simpa using h

theorem idxSort_eq {t : Tab} {col : Int} {l m : List Int} (hp : m.Perm l) (hs : m.Pairwise fun i j => idxLt t col j i = false) : m = idxSort t col l :=
 sorted_unique (hp.trans (idxSort_perm t col l).symm) hs (idxSort_sorted t col l) fun a _ b _ h1 h2 => by
  rw [idxLt_no] at h1 h2
  omega

end
end Go.Proofs.Ytjcjpeckfikfkaa
