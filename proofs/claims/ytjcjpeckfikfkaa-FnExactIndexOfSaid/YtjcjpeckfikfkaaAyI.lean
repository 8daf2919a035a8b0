/-
  A part of the proof of this claim (AyI): what functions of the program compute, and plain facts of that. No conditions.
-/
import Derived.Test.YtjcjpeckfikfkaaAwE
import Derived.Test.YtjcjpeckfikfkaaAnQ
import Derived.WalkKit
import Derived.TacticsIn
import Derived.BigFrameIn
import Derived.LoopNIn
set_option linter.all false
namespace Go.Proofs.Ytjcjpeckfikfkaa
open Go Go.Am
open Go.Am.AW (seq r1U ret rS r0)
open List (length)
noncomputable section

def hasColumn (t : Tab) (col : Int) : Bool := (bif (bif (ValidTable t) then (decide (0 ≤ col)) else false) then (decide (col < (Tab.Width t))) else false)

def hasColumn_sp : FnSpec := mkSpec [.val (.named 2), .val (.int .i64)] [.val .bool] (fun (t : Tab) (col : Int) => True) (fun (t : Tab) (col : Int) => [⟨.bool, (hasColumn t col)⟩])

theorem hasColumn_ok : FnOK Try.prog 84 hasColumn_sp := by
 have hC : CtxOK Try.prog (mkCtx tyL [(19, ValidTable_sp)]) := CtxOK.cons ValidTable_ok (CtxOK.nil tyOK); refine FnOK.of_body Try.func84 (by kernel_rfl) rfl (C := (mkCtx tyL [(19, ValidTable_sp)])) hC.ty (by kernel_rfl) ?_; intro (t : Tab) (col : Int) hwf hpre E; have e0 : hasColumn t col = hasColumn t col := rfl; refine seq (r1U hC [1, 2] [8] [(2, .ref 8 1 0)] [(8, .box 1 [.int .i64 (Tab.Width t), .data (.slice (.slice (.named 1))) ((Tab.Rows t) : List (List Val))])] ?_); refine seq (r0 hC [4] [] ⟨[(4, .bool (bif (bif (ValidTable t) then (decide (0 ≤ col)) else false) then (decide (col < (Tab.Width t))) else false))], []⟩ [(True), (((ValidTable t) = true) → (((ValidTable t) = true))), (((ValidTable t) = true) → (((ValidTable t) = true))), (((bif (ValidTable t) then (decide (0 ≤ col)) else false) = true) → (((bif (ValidTable t) then (decide (0 ≤ col)) else false) = true))), (((bif (ValidTable t) then (decide (0 ≤ col)) else false) = true) → (((bif (ValidTable t) then (decide (0 ≤ col)) else false) = true))), (((bif (ValidTable t) then (decide (0 ≤ col)) else false) = true) → (((bif (ValidTable t) then (decide (0 ≤ col)) else false) = true))), (((bif (ValidTable t) then (decide (0 ≤ col)) else false) = true) → (((bif (ValidTable t) then (decide (0 ≤ col)) else false) = true)))] ?_ ?_)
 ·
  exact ⟨trivial, (by intro g1; assumption), (by intro g2; assumption), (by intro g3; assumption), (by intro g4; assumption), (by intro g5; assumption), (by intro g6; assumption), trivial⟩
 exact ret (rS .bool e0)

theorem hasColumn_iff {t : Tab} {col : Int} : hasColumn t col = true ↔ VT t ∧ 0 ≤ col ∧ col < t.Width := by
 unfold hasColumn; rw [← ValidTable_iff]
 cases ValidTable t with
 | false => simp
 | true => by_cases h : 0 ≤ col <;> simp [h]

theorem col_ok {t : Tab} {col : Int} (h : hasColumn t col = true) : ∀ row ∈ t.Rows, 0 ≤ col ∧ col < (length row : Int) := by
 obtain ⟨hv, h1, h2⟩ := hasColumn_iff.1 h; intro row hr; obtain ⟨i, hi, rfl⟩ := getD_mem_row hr; have h3 : (((t.Rows.getD i []).length : Nat) : Int) = t.Width := (hv.rows i hi).2; omega

theorem sr_ok {t : Tab} {col : Int} (h : validTable t = true ∧ inRange col 0 (t.Width - 1) = true) : 0 ≤ col ∧ ∀ i < t.Rows.length, col < (((t.Rows.getD i []).length : Nat) : Int) := by
 have hv := validTable_iff.1 h.1; have h1 := inRange_iff.1 h.2; refine ⟨h1.1, fun i hi => ?_⟩; have h3 : (((t.Rows.getD i []).length : Nat) : Int) = t.Width := (hv.rows i hi).2; omega

end
end Go.Proofs.Ytjcjpeckfikfkaa


namespace Go.Proofs.Ytjcjpeckfikfkaa
open Go Go.Am
open Go.Am.AW (seq r1U ret rS d0)
open List (length getD)
noncomputable section

def idxCmp (i : Int) (j : Int) (t : Tab) (col : Int) : Int := (compareInt (Val.N (getD (getD (Tab.Rows t) (Int.toNat i) []) (Int.toNat col) Val.zero)) (Val.N (getD (getD (Tab.Rows t) (Int.toNat j) []) (Int.toNat col) Val.zero)))

def idxCmp_sp : FnSpec := mkSpec [.val (.int .i64), .val (.int .i64), .rd (.named 2), .rd (.int .i64)] [.val (.int .i64)] (fun (i : Int) (j : Int) (t : Tab) (col : Int) => (0 ≤ i ∧ i < (length t.Rows : Int)) ∧ (0 ≤ j ∧ j < (length t.Rows : Int)) ∧ 0 ≤ col ∧ ∀ k, k < length t.Rows → col < (length (getD t.Rows k []) : Int)) (fun (i : Int) (j : Int) (t : Tab) (col : Int) => [⟨(.int .i64), (idxCmp i j t col)⟩])

theorem idxCmp_ok : FnOK Try.prog 86 idxCmp_sp := by
 have hC : CtxOK Try.prog (mkCtx tyL [(87, compareInt_sp)]) := CtxOK.cons compareInt_ok (CtxOK.nil tyOK); have hM : Try.prog.follows .mixedOrders = true := Try.checked.mixed; refine FnOK.of_body Try.func86 (by kernel_rfl) rfl (C := (mkCtx tyL [(87, compareInt_sp)])) hC.ty (by kernel_rfl) ?_; intro (i : Int) (j : Int) (t : Tab) (col : Int) hwf hpre E; have hpre : (0 ≤ i ∧ i < (length t.Rows : Int)) ∧ (0 ≤ j ∧ j < (length t.Rows : Int)) ∧ 0 ≤ col ∧ ∀ k, k < length t.Rows → col < (length (getD t.Rows k []) : Int) := hpre; have e0 : idxCmp i j t col = idxCmp i j t col := rfl; refine seq (r1U hC [0, 1, 2, 3] [] [] [] ?_); refine seq (d0 hC hM [6] [] ⟨[(6, .int .i64 (compareInt (Val.N (getD (getD (Tab.Rows t) (Int.toNat i) []) (Int.toNat col) Val.zero)) (Val.N (getD (getD (Tab.Rows t) (Int.toNat j) []) (Int.toNat col) Val.zero))))], []⟩ [(0 ≤ i ∧ i < (length (Tab.Rows t) : Int)), (0 ≤ col ∧ col < (length (getD (Tab.Rows t) (Int.toNat i) []) : Int)), (0 ≤ j ∧ j < (length (Tab.Rows t) : Int)), (0 ≤ col ∧ col < (length (getD (Tab.Rows t) (Int.toNat j) []) : Int)), (True)] ?_ ?_)
 ·
  exact ⟨(by omega), (by (have := hpre.2.2.2 i.toNat (by omega); omega)), (by omega), (by (have := hpre.2.2.2 j.toNat (by omega); omega)), trivial, trivial⟩
 exact ret (rS (.int .i64) e0)

end
end Go.Proofs.Ytjcjpeckfikfkaa


namespace Go.Proofs.Ytjcjpeckfikfkaa
open Go Go.Am
open List (length getD)
open Go.RowKit
noncomputable section

/-! ### The library's stable sort of few numbers is its insertion sort -/

set_option maxHeartbeats 1000000 in
theorem stable_inner {n D : Nat} {p : Option Addr} {cvs : Array Value} {w : World} {R : World → Prop} (hn : n < 20)
  (h : CallsIn Fence.wide 0 Try.prog 115 #[.slice p n D, .int .i64 0, .int .i64 n, .func (.func 86) #[] cvs] w fun e w' => e = .returned (.tuple #[]) ∧ R w') :
  CallsIn Fence.wide 0 Try.prog 109 #[.slice p n D, .int .i64 n, .func (.func 86) #[] cvs] w fun e w' => e = .returned (.tuple #[]) ∧ R w' := by
 refine callsIn_of_wp Try.func109 rfl trivial ?_ rfl; simp only [Try.ntmps109, List.size_toArray, List.length_cons, List.length_nil, Nat.reduceAdd, Nat.reduceSub, Array.replicate_succ, Array.replicate_zero, List.push_toArray, List.append_toArray, List.nil_append, List.cons_append]; (have h20 : ¬ ((20 : Int) ≤ (n : Int)) := by omega); (have h21 : ¬ ((20 : Int) < (n : Int)) := by omega); gi_wp2; refine wpIn_loop_rounds 1 ?_; rw [roundsIn_succ]; gi_wp2; refine ⟨trivial, rfl, h.mono ?_⟩; rintro e w' ⟨rfl, hR⟩; gi_wp2; refine wpIn_loop_rounds 1 ?_; rw [roundsIn_succ]; gi_wp2
 go_end0
 exact ⟨rfl, hR⟩

set_option maxHeartbeats 1000000 in
theorem stable_call {n D : Nat} {p : Option Addr} {cvs : Array Value} {w : World} {R : World → Prop} (hn : n < 20)
  (h : Calls Try.prog 115 #[.slice p n D, .int .i64 0, .int .i64 n, .func (.func 86) #[] cvs] w fun e w' => e = .returned (.tuple #[]) ∧ R w') :
  Calls Try.prog 85 #[.slice p n D, .func (.func 86) #[] cvs] w fun e w' => e = .returned (.tuple #[]) ∧ R w' := by
 have h := (callsIn_wide (n := 0)).2 h; refine (callsIn_wide (n := 0)).1 (callsIn_of_wp Try.func85 rfl trivial ?_ rfl); simp only [Try.ntmps85, List.size_toArray, List.length_cons, List.length_nil, Nat.reduceAdd, Nat.reduceSub, Array.replicate_succ, Array.replicate_zero, List.push_toArray, List.append_toArray, List.nil_append, List.cons_append]; gi_wp2; refine ⟨trivial, rfl, (stable_inner hn h).mono ?_⟩; rintro e w' ⟨rfl, hR⟩; gi_wp2
 go_end0
 exact ⟨rfl, hR⟩

set_option maxHeartbeats 1000000 in
theorem stable_top {n D : Nat} {p : Option Addr} {cvs : Array Value} {w : World} {R : World → Prop}
  (h : Calls Try.prog 109 #[.slice p n D, .int .i64 n, .func (.func 86) #[] cvs] w fun e w' => e = .returned (.tuple #[]) ∧ R w') :
  Calls Try.prog 85 #[.slice p n D, .func (.func 86) #[] cvs] w fun e w' => e = .returned (.tuple #[]) ∧ R w' := by
 have h := (callsIn_wide (n := 0)).2 h; refine (callsIn_wide (n := 0)).1 (callsIn_of_wp Try.func85 rfl trivial ?_ rfl); simp only [Try.ntmps85, List.size_toArray, List.length_cons, List.length_nil, Nat.reduceAdd, Nat.reduceSub, Array.replicate_succ, Array.replicate_zero, List.push_toArray, List.append_toArray, List.nil_append, List.cons_append]; gi_wp2; refine ⟨trivial, rfl, h.mono ?_⟩; rintro e w' ⟨rfl, hR⟩; gi_wp2
 go_end0
 exact ⟨rfl, hR⟩

def insInts_ren : Go.Shelf.Ren := ⟨fun | 20 => 115 | n => n, fun | 24 => 3 | 22 => 58 | 3 => 3 | 25 => 108 | 4 => 4 | 0 => 0 | n => n, fun | n => n⟩
theorem insInts : Go.Proofs.SlLaysF.n20 Try.prog insInts_ren :=
 {
  mixed := by kernel_rfl,
  f20 := ⟨Try.f115.name, by decide, Try.func115.trans (congrArg some (by kernel_rfl))⟩,
  t0 := Try.underlying0,
  a0 := Try.isAgg0,
  z0 := Try.sizeOf0,
  v0 := Try.zeroValue0,
  t3 := Try.underlying3,
  a3 := Try.isAgg3,
  z3 := Try.sizeOf3,
  v3 := Try.zeroValue3,
  t4 := Try.underlying4,
  a4 := Try.isAgg4,
  z4 := Try.sizeOf4,
  v4 := Try.zeroValue4,
  t22 := Try.underlying58,
  a22 := Try.isAgg58,
  z22 := Try.sizeOf58,
  v22 := Try.zeroValue58,
  a24 := Try.isAgg3,
  z24 := Try.sizeOf3,
  t25 := Try.underlying108,
  a25 := Try.isAgg108,
  z25 := Try.sizeOf108,
  v25 := Try.zeroValue108 }

/-! ### An index -/

def idxLt (t : Tab) (col : Int) (i j : Int) : Bool := decide (idxCmp i j t col < 0) || (!decide (idxCmp j i t col < 0) && decide (i < j))

def idxSort (t : Tab) (col : Int) (l : List Int) : List Int := l.mergeSort fun i j => !idxLt t col j i

def IPre (t : Tab) (col : Int) (l : List Int) : Prop := (l.Pairwise (· < ·) ∧ ∀ x ∈ l, 0 ≤ x ∧ x < (length t.Rows : Int)) ∧ l.length ≤ 400 ∧ 0 ≤ col ∧ ∀ k, k < length t.Rows → col < (length (getD t.Rows k []) : Int)

theorem compareInt_lt (x y : Int) : decide (compareInt x y < 0) = decide (x < y) := by
 unfold compareInt isNaN; simp only [bne_self_eq_false, cond_false]; by_cases h : x < y
 · simp [h]
 · by_cases h2 : y < x <;> simp [h, h2]

def idxKey (t : Tab) (col : Int) (i : Int) : Int := Val.N (getD (getD (Tab.Rows t) (Int.toNat i) []) (Int.toNat col) Val.zero)

theorem idxCmp_lt (t : Tab) (col i j : Int) : decide (idxCmp i j t col < 0) = decide (idxKey t col i < idxKey t col j) := compareInt_lt _ _

theorem idxLt_iff {t : Tab} {col i j : Int} : idxLt t col i j = true ↔ idxKey t col i < idxKey t col j ∨ (idxKey t col i = idxKey t col j ∧ i < j) := by
 unfold idxLt; rw [idxCmp_lt, idxCmp_lt]; simp only [Bool.or_eq_true, Bool.and_eq_true, Bool.not_eq_true', decide_eq_true_eq, decide_eq_false_iff_not]; omega

theorem idxLt_no {t : Tab} {col i j : Int} : idxLt t col i j = false ↔ idxKey t col j < idxKey t col i ∨ (idxKey t col j = idxKey t col i ∧ j ≤ i) := by
 rw [Bool.eq_false_iff, Ne, idxLt_iff]; omega

theorem idxSort_len (t : Tab) (col : Int) (l : List Int) : (idxSort t col l).length = l.length := List.length_mergeSort _
theorem idxSort_perm (t : Tab) (col : Int) (l : List Int) : (idxSort t col l).Perm l := List.mergeSort_perm _ _

theorem idxSort_sorted (t : Tab) (col : Int) (l : List Int) : (idxSort t col l).Pairwise fun i j => idxLt t col j i = false := by
 have := List.pairwise_mergeSort (le := fun i j => !idxLt t col j i) (by
  intro a b c h1 h2; simp only [Bool.not_eq_true', idxLt_no] at *
  omega) (by
  intro a b; simp only [Bool.or_eq_true, Bool.not_eq_true', idxLt_no]
  omega) l
 exact this.imp fun h => by simpa using h

theorem idxSort_eq {t : Tab} {col : Int} {l m : List Int} (hp : m.Perm l) (hs : m.Pairwise fun i j => idxLt t col j i = false) : m = idxSort t col l :=
 sorted_unique (hp.trans (idxSort_perm t col l).symm) hs (idxSort_sorted t col l) fun a _ b _ h1 h2 => by
  rw [idxLt_no] at h1 h2; omega

end
end Go.Proofs.Ytjcjpeckfikfkaa
