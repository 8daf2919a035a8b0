/-
  A part of the proof of this claim (ApTG): what functions of the program compute, and plain facts of that. No conditions.
-/
import Derived.Test.YtodcdgolcbdkgaaAp7
import Derived.Test.YtodcdgolcbdkgaaAnU
import Derived.Test.YtodcdgolcbdkgaaApP
set_option linter.all false
namespace Go.Proofs.Ytodcdgolcbdkgaa
open Go Go.Am
open Go.Am.AW (seq r1U ret kpU cdE r0U r1 meet block rS bk exit lpB)
open List (length getD set replicate)
noncomputable section

def statesOf_l0 (nl : List Bool) : Nat → Nat → (List Int) → (List Int)
 | 0, i, out => out
 | k + 1, i, out => (bif (decide ((i : Int) < (length nl : Int))) then (bif (getD nl i false) then (statesOf_l0 nl k (i + 1) (out ++ ([7] : List Int))) else (statesOf_l0 nl k (i + 1) (out ++ ([3] : List Int)))) else out)

def statesOf (nl : List Bool) : (List Int) := (andThen (statesOf_l0 nl ((length nl) - 0 + 1) 0 ([] : List Int)) (fun z => (fun (out : List Int) => out) z))

def statesOf_sp : FnSpec := mkSpec [.val (.slice .bool)] [.own (.int .i64)] (fun (nl : List Bool) => length nl ≤ 6) (fun (nl : List Bool) => [⟨(.slice (.int .i64)), (statesOf nl)⟩])

theorem statesOf_ok : FnOK Try.prog 113 statesOf_sp := by
 have hC : CtxOK Try.prog (mkCtx tyL []) := CtxOK.nil tyOK; refine FnOK.of_body Try.func113 (by kernel_rfl) rfl (C := (mkCtx tyL [])) hC.ty (by kernel_rfl) ?_; intro (nl : List Bool) hwf hpre E; have hpre : length nl ≤ 6 := hpre; have e0 : statesOf nl = statesOf nl := rfl; refine seq (r1U hC [0] [] [] [] ?_); refine seq (r1U hC [0, 3] [20] [(3, .arr 20 1)] [(20, .arr 1 (.int .i64) (([] : List Int) : List Int))] ?_); refine seq (seq (r1U hC [0, 3, 4] [20] [(4, sI 0)] [] ?_)); refine lpB (ζ := (List Int)) (fun x => ⟨[(3, .arr 20 1)], [(20, .arr 1 (.int .i64) (x : List Int))]⟩) (fun x => True) (fun x => x) (α := Nat × (List Int)) (fun x => ⟨[(0, sD6 nl), (3, .arr 20 1), (4, sI ((x.1 : Nat) : Int))], [(20, .arr 1 (.int .i64) (x.2 : List Int))]⟩) (fun x => length x.2 = x.1) (fun x => (length nl) - x.1) (fun k x => statesOf_l0 nl k x.1 x.2) (0, ([] : List Int)) (by kernel_rfl) ?_ ?_ ?_
 · simp
 ·
  intro x k27q hI0 hk25 e26; obtain ⟨i, out⟩ := x; refine seq (seq (r1U hC [0, 3, 4, 9] [20] [(9, sB (decide ((i : Int) < (length nl : Int))))] [] ?_)); refine cdE e26 ?_ ?_
  ·
   intro h28q e29; refine kpU [0, 3, 4] [20] [] [] ?_; refine AW.skip (seq (block (seq (r0U hC [0, 3, 4, 15] [20] [(15, sB (getD nl i false))] [] [IX (i : Int) (length nl : Int)] ?_ ?_))))
   ·
    exact ⟨IX.of (by omega), trivial⟩
   refine cdE e29 ?_ ?_
   ·
    intro h30q e31; refine r0U hC [0, 3, 4] [20] [] [(20, .arr 1 (.int .i64) ((out ++ ([7] : List Int)) : List Int))] [((length out : Int) + (length ([7] : List Int) : Int) ≤ 4294967296)] ?_ ?_
    ·
     exact ⟨(by (simp only [List.length_append, List.length_cons, List.length_nil] at *; omega)), trivial⟩
    refine r0U hC [0, 3, 4] [20] [(4, sI ((i + 1 : Nat) : Int))] [] [R64 ((i + 1 : Nat) : Int)] ?_ ?_
    ·
     exact ⟨R64.of (by omega), trivial⟩
    refine bk (i + 1, (out ++ ([7] : List Int))) e31 hk25 ?_ ?_
    · simp only [lens] at *; omega
    · omega
   ·
    intro h32q e33; refine r0U hC [0, 3, 4] [20] [] [(20, .arr 1 (.int .i64) ((out ++ ([3] : List Int)) : List Int))] [((length out : Int) + (length ([3] : List Int) : Int) ≤ 4294967296)] ?_ ?_
    ·
     exact ⟨(by (simp only [List.length_append, List.length_cons, List.length_nil] at *; omega)), trivial⟩
    refine r0U hC [0, 3, 4] [20] [(4, sI ((i + 1 : Nat) : Int))] [] [R64 ((i + 1 : Nat) : Int)] ?_ ?_
    ·
     exact ⟨R64.of (by omega), trivial⟩
    refine bk (i + 1, (out ++ ([3] : List Int))) e33 hk25 ?_ ?_
    · simp only [lens] at *; omega
    · omega
  · intro h34q e35; refine kpU [3] [20] [] [] ?_; refine exit ?_; refine meet out (by kernel_rfl) ⟨?_, e35⟩; exact trivial
 · intro out hJ0 e36; have e37 := e0.trans (then_eq e36); refine seq (r1U hC [2] [20] [(2, .arr 20 1)] [] ?_); exact ret (rS (.slice (.int .i64)) e37)

def istatesOf_l0 (nl : List Bool) : Nat → Nat → (List Int) → (List Int)
 | 0, v10, states => states
 | k + 1, v10, states => (bif (decide ((v10 : Int) < (length nl : Int))) then (bif (getD nl v10 false) then (istatesOf_l0 nl k (v10 + 1) (set (set states v10 3) v10 7)) else (istatesOf_l0 nl k (v10 + 1) (set states v10 3))) else states)

def istatesOf (nl : List Bool) : (List Int) := (andThen (istatesOf_l0 nl ((length nl) - 0 + 1) 0 (replicate (length nl) 0 : List Int)) (fun z => (fun (states : List Int) => states) z))

def istatesOf_sp : FnSpec := mkSpec [.val (.slice .bool)] [.own (.int .i64)] (fun (nl : List Bool) => length nl ≤ 6) (fun (nl : List Bool) => [⟨(.slice (.int .i64)), (istatesOf nl)⟩])

theorem istatesOf_ok : FnOK Try.prog 116 istatesOf_sp := by
 have hC : CtxOK Try.prog (mkCtx tyL []) := CtxOK.nil tyOK; refine FnOK.of_body Try.func116 (by kernel_rfl) rfl (C := (mkCtx tyL [])) hC.ty (by kernel_rfl) ?_; intro (nl : List Bool) hwf hpre E; have hpre : length nl ≤ 6 := hpre; have e0 : istatesOf nl = istatesOf nl := rfl; refine seq (r1U hC [0] [] [] [] ?_); refine seq (r0U hC [0, 3] [28] [(3, .arr 28 1)] [(28, .arr 1 (.int .i64) ((replicate (length nl) 0 : List Int) : List Int))] [(0 ≤ (length nl : Int) ∧ (length nl : Int) ≤ (length nl : Int) ∧ (length nl : Int) ≤ 4294967296)] ?_ ?_)
 ·
  exact ⟨(by omega), trivial⟩
 refine seq (seq (r1U hC [0, 3, 9, 10] [28] [(9, sI (length nl : Int)), (10, sI 0)] [] ?_)); refine lpB (ζ := (List Int)) (fun x => ⟨[(3, .arr 28 1)], [(28, .arr 1 (.int .i64) (x : List Int))]⟩) (fun x => length x = length nl) (fun x => x) (α := Nat × (List Int)) (fun x => ⟨[(0, sD6 nl), (3, .arr 28 1), (9, sI (length nl : Int)), (10, sI ((x.1 : Nat) : Int))], [(28, .arr 1 (.int .i64) (x.2 : List Int))]⟩) (fun x => length x.2 = length nl) (fun x => (length nl) - x.1) (fun k x => istatesOf_l0 nl k x.1 x.2) (0, (replicate (length nl) 0 : List Int)) (by kernel_rfl) ?_ ?_ ?_
 · simp
 ·
  intro x k27q hI0 hk25 e26; obtain ⟨v10, states⟩ := x; replace hI0 : length states = length nl := hI0; refine seq (r1U hC [0, 3, 9, 10, 11] [28] [(11, sB (decide ((v10 : Int) < (length nl : Int))))] [] ?_); refine seq (cdE e26 ?_ ?_)
  ·
   intro h28q e29; refine kpU [0, 3, 9, 10] [28] [] [] ?_; refine AW.skip (seq (block (seq (r1U hC [0, 3, 4, 9, 10] [28] [(4, sI (v10 : Int))] [] ?_)))); refine seq (r0U hC [0, 3, 4, 9, 10] [28] [] [(28, .arr 1 (.int .i64) ((set states v10 3) : List Int))] [IX (v10 : Int) (length states : Int)] ?_ ?_)
   ·
    exact ⟨IX.of (by omega), trivial⟩
   refine seq (r0U hC [0, 3, 4, 9, 10, 19] [28] [(19, sB (getD nl v10 false))] [] [IX (v10 : Int) (length nl : Int)] ?_ ?_)
   ·
    exact ⟨IX.of (by omega), trivial⟩
   refine cdE e29 ?_ ?_
   ·
    intro h30q e31; refine r0U hC [0, 3, 9, 10] [28] [] [(28, .arr 1 (.int .i64) ((set (set states v10 3) v10 7) : List Int))] [IX (v10 : Int) (length (set states v10 3) : Int)] ?_ ?_
    ·
     exact ⟨IX.of (by (simp only [List.length_set, List.length_replicate] at *; omega)), trivial⟩
    refine r0U hC [0, 3, 9, 10] [28] [(10, sI ((v10 + 1 : Nat) : Int))] [] [R64 ((v10 + 1 : Nat) : Int)] ?_ ?_
    ·
     exact ⟨R64.of (by omega), trivial⟩
    refine bk (v10 + 1, (set (set states v10 3) v10 7)) e31 hk25 ?_ ?_
    · simp only [lens] at *; omega
    · omega
   ·
    intro h32q e33; refine kpU [0, 3, 9, 10] [28] [] [] ?_; refine AW.skip (r0U hC [0, 3, 9, 10] [28] [(10, sI ((v10 + 1 : Nat) : Int))] [] [R64 ((v10 + 1 : Nat) : Int)] ?_ ?_)
    ·
     exact ⟨R64.of (by omega), trivial⟩
    refine bk (v10 + 1, (set states v10 3)) e33 hk25 ?_ ?_
    · simp only [lens] at *; omega
    · omega
  · intro h34q e35; refine kpU [3] [28] [] [] ?_; refine exit ?_; refine meet states (by kernel_rfl) ⟨?_, e35⟩; assumption
 · intro states hJ0 e36; have e37 := e0.trans (then_eq e36); refine seq (r1U hC [2] [28] [(2, .arr 28 1)] [] ?_); exact ret (rS (.slice (.int .i64)) e37)

def icopiedB (list : List Bool) : (List Bool) := (bif ((length list : Int) == 0) then ([] : List Bool) else list)

def icopiedB_sp : FnSpec := mkSpec [.val (.slice .bool)] [.own .bool] (fun (list : List Bool) => (length list : Int) ≤ 1048576) (fun (list : List Bool) => [⟨(.slice .bool), (icopiedB list)⟩])

theorem icopiedB_ok : FnOK Try.prog 114 icopiedB_sp := by
 have hC : CtxOK Try.prog (mkCtx tyL []) := CtxOK.nil tyOK; refine FnOK.of_body Try.func114 (by kernel_rfl) rfl (C := (mkCtx tyL [])) hC.ty (by kernel_rfl) ?_; intro (list : List Bool) hwf hpre E; have hpre : (length list : Int) ≤ 1048576 := hpre; have e0 : icopiedB list = icopiedB list := rfl; refine seq (r1U hC [0] [] [] [] ?_); refine seq (seq (r1U hC [0, 6] [] [(6, sB ((length list : Int) == 0))] [] ?_)); refine cdE e0 ?_ ?_
 · intro h1q e2; refine seq (r1 hC [2] [] ⟨[(2, .nilsl)], []⟩ ?_); exact ret (rS (.slice .bool) e2)
 ·
  intro h3q e4; refine kpU [0] [] [] [] ?_; refine AW.skip (seq (r0U hC [0, 3] [36] [(3, .arr 36 1)] [(36, .arr 1 .bool ((replicate (length list) false : List Bool) : List Bool))] [(0 ≤ (length list : Int) ∧ (length list : Int) ≤ (length list : Int) ∧ (length list : Int) ≤ 4294967296)] ?_ ?_))
  ·
   exact ⟨(by omega), trivial⟩
  refine seq (r0U hC [3] [36] [] [(36, .arr 1 .bool (list : List Bool))] [(length (replicate (length list) false : List Bool) = length list)] ?_ ?_)
  ·
   exact ⟨(by simp), trivial⟩
  refine seq (r1U hC [2] [36] [(2, .arr 36 1)] [] ?_); exact ret (rS (.slice .bool) e4)

end
end Go.Proofs.Ytodcdgolcbdkgaa


namespace Go.Proofs.Ytodcdgolcbdkgaa
open Go Go.Am
open Go.Am.AW (seq r1U ret kpU cdE r0U meet block rS bk exit lpB)
open List (length getD set replicate)
noncomputable section

def st (l : List Bool) : List Int := l.map (fun b => bif b then 7 else 3)

theorem statesOf_l0_eq (nl : List Bool) : ∀ (k i : Nat) (out : List Int), nl.length - i < k → statesOf_l0 nl k i out = out ++ st (nl.drop i) := by
 intro k
 induction k with
 | zero => intro i out h; omega
 | succ k ih =>
  intro i out hk; unfold statesOf_l0; by_cases hi : i < nl.length
  · rw [lt_dec hi, cond_true, ih _ _ (by omega), ih _ _ (by omega), drop_getD (d := false) hi]; unfold st; cases nl.getD i false <;> simp
  · rw [ge_dec hi, cond_false, List.drop_of_length_le (by omega)]; simp [st]

theorem statesOf_eq (nl : List Bool) : statesOf nl = st nl := by
 show statesOf_l0 nl (nl.length - 0 + 1) 0 [] = _; rw [statesOf_l0_eq nl _ _ _ (by omega)]; simp

theorem set_takeI {α : Type} {l : List α} {i : Nat} {x : α} (h : i < l.length) : (l.set i x).take (i + 1) = l.take i ++ [x] := by
 rw [List.take_add_one, List.getElem?_set_self h, List.take_set_of_le (Nat.le_refl _)]; rfl

theorem istatesOf_l0_eq (nl : List Bool) : ∀ (k i : Nat) (out : List Int), nl.length - i < k → out.length = nl.length → istatesOf_l0 nl k i out = out.take i ++ st (nl.drop i) := by
 intro k
 induction k with
 | zero => intro i out h; omega
 | succ k ih =>
  intro i out hk hl; unfold istatesOf_l0; by_cases hi : i < nl.length
  · rw [lt_dec hi, cond_true, List.set_set, ih _ _ (by omega) (by rw [List.length_set]; exact hl), ih _ _ (by omega) (by rw [List.length_set]; exact hl), drop_getD (d := false) hi, set_takeI (by omega), set_takeI (by omega)]; unfold st; cases nl.getD i false <;> simp
  · rw [ge_dec hi, cond_false, List.drop_of_length_le (by omega), List.take_of_length_le (by omega)]; simp [st]

theorem istatesOf_eq (nl : List Bool) : istatesOf nl = st nl := by
 show istatesOf_l0 nl (nl.length - 0 + 1) 0 (replicate nl.length 0) = _; rw [istatesOf_l0_eq nl _ _ _ (by omega) (by simp)]; simp

theorem st_len (l : List Bool) : (st l).length = l.length := by unfold st; simp

theorem st_vs (l : List Bool) : VS (st l) := by
 intro j hj; rw [st_len] at hj; unfold st; rw [List.getD_eq_getElem?_getD, List.getElem?_map, List.getElem?_eq_getElem hj]; cases l[j] <;> decide

theorem set_vs {l : List Int} {i : Nat} {x : Int} (h : VS l) (hx : 1 ≤ x ∧ x ≤ 7) : VS (l.set i x) := by
 intro j hj; rw [List.length_set] at hj; by_cases hij : i = j
 · subst hij; rw [lgetD_set_eq hj]; exact hx
 · rw [lgetD_set_ne hij]; exact h j hj

theorem st_vx {l : List Bool} {e : Xpr} {n : Nat} (h : VE (l.length : Int) n e) : VX (st l) e := ⟨st_vs l, n, by rw [st_len]; exact h⟩

theorem st_vx4 {l : List Bool} {e : Xpr} {n i : Nat} (h : VE (l.length : Int) n e) : VX ((st l).set i 4) e := ⟨set_vs (st_vs l) (by decide), n, by rw [List.length_set, st_len]; exact h⟩

def iafter_l0 (p : Pln) (kid : List Bool) : Nat → Nat → (List Bool) → (List Bool)
 | 0, v13, list => list
 | k + 1, v13, list => (bif (decide ((v13 : Int) < (length kid : Int))) then (bif (!(getD kid v13 false)) then (iafter_l0 p kid k (v13 + 1) list) else (iafter_l0 p kid k (v13 + 1) (set list v13 ((bits .and .i64 (ioutcomes (getD (Pln.Exprs p) 0 Xpr.zero) (set (istatesOf kid) v13 4)) 2) != 0)))) else list)

def iafter (p : Pln) (kid : List Bool) : (List Bool) := (andThen (iafter_l0 p kid ((length kid) - 0 + 1) 0 (replicate (length kid) false : List Bool)) (fun z => (fun (list : List Bool) => list) z))

def iafter_sp : FnSpec := mkSpec [.rd (.named 2), .val (.slice .bool)] [.own .bool] (fun (p : Pln) (kid : List Bool) => (length kid ≤ 6 ∧ 0 < length (Pln.Exprs p)) ∧ ∃ l, VE (length kid : Int) l (getD (Pln.Exprs p) 0 Xpr.zero)) (fun (p : Pln) (kid : List Bool) => [⟨(.slice .bool), (iafter p kid)⟩])

theorem iafter_ok : FnOK Try.prog 115 iafter_sp := by
 have hC : CtxOK Try.prog (mkCtx tyL [(105, ioutcomes_sp), (116, istatesOf_sp)]) := CtxOK.cons ioutcomes_ok (CtxOK.cons istatesOf_ok (CtxOK.nil tyOK)); refine FnOK.of_body Try.func115 (by kernel_rfl) rfl (C := (mkCtx tyL [(105, ioutcomes_sp), (116, istatesOf_sp)])) hC.ty (by kernel_rfl) ?_; intro (p : Pln) (kid : List Bool) hwf hpre E; have hpre : (length kid ≤ 6 ∧ 0 < length (Pln.Exprs p)) ∧ ∃ l, VE (length kid : Int) l (getD (Pln.Exprs p) 0 Xpr.zero) := hpre; obtain ⟨lv, hlv⟩ := hpre.2; have e0 : iafter p kid = iafter p kid := rfl; refine seq (r1U hC [0, 1] [] [] [] ?_); refine seq (r0U hC [0, 1, 5] [40] [(5, .arr 40 1)] [(40, .arr 1 .bool ((replicate (length kid) false : List Bool) : List Bool))] [(0 ≤ (length kid : Int) ∧ (length kid : Int) ≤ (length kid : Int) ∧ (length kid : Int) ≤ 4294967296)] ?_ ?_)
 ·
  exact ⟨(by omega), trivial⟩
 refine seq (seq (r1U hC [0, 1, 5, 12, 13] [40] [(12, sI (length kid : Int)), (13, sI 0)] [] ?_)); refine lpB (ζ := (List Bool)) (fun x => ⟨[(5, .arr 40 1)], [(40, .arr 1 .bool (x : List Bool))]⟩) (fun x => length x = length kid) (fun x => x) (α := Nat × (List Bool)) (fun x => ⟨[(0, sR4 p), (1, sD6 kid), (5, .arr 40 1), (12, sI (length kid : Int)), (13, sI ((x.1 : Nat) : Int))], [(40, .arr 1 .bool (x.2 : List Bool))]⟩) (fun x => length x.2 = length kid) (fun x => (length kid) - x.1) (fun k x => iafter_l0 p kid k x.1 x.2) (0, (replicate (length kid) false : List Bool)) (by kernel_rfl) ?_ ?_ ?_
 · simp
 ·
  intro x k27q hI0 hk25 e26; obtain ⟨v13, list⟩ := x; replace hI0 : length list = length kid := hI0; refine seq (r1U hC [0, 1, 5, 12, 13, 14] [40] [(14, sB (decide ((v13 : Int) < (length kid : Int))))] [] ?_); refine seq (cdE e26 ?_ ?_)
  ·
   intro h28q e29; refine kpU [0, 1, 5, 12, 13] [40] [] [] ?_; refine AW.skip (seq (block (seq (r1U hC [0, 1, 5, 6, 12, 13] [40] [(6, sI (v13 : Int))] [] ?_)))); refine seq (seq (r0U hC [0, 1, 5, 6, 12, 13, 20] [40] [(20, sB (!(getD kid v13 false)))] [] [IX (v13 : Int) (length kid : Int)] ?_ ?_))
   ·
    exact ⟨IX.of (by omega), trivial⟩
   refine cdE e29 ?_ ?_
   ·
    intro h30q e31; refine kpU [0, 1, 5, 12, 13] [40] [] [] ?_; refine exit ?_; refine r0U hC [0, 1, 5, 12, 13] [40] [(13, sI ((v13 + 1 : Nat) : Int))] [] [R64 ((v13 + 1 : Nat) : Int)] ?_ ?_
    ·
     exact ⟨R64.of (by omega), trivial⟩
    refine bk (v13 + 1, list) e31 hk25 ?_ ?_
    · assumption
    · omega
   ·
    intro h32q e33; refine kpU [0, 1, 5, 6, 12, 13] [40] [] [] ?_; refine AW.skip (seq (r0U hC [0, 1, 5, 6, 7, 12, 13] [40, 88] [(7, .arr 88 1)] [(88, .arr 1 (.int .i64) ((istatesOf kid) : List Int))] [(length kid ≤ 6)] ?_ ?_))
    ·
     exact ⟨(by omega), trivial⟩
    refine seq (r0U hC [0, 1, 5, 6, 7, 12, 13] [40, 88] [] [(88, .arr 1 (.int .i64) ((set (istatesOf kid) v13 4) : List Int))] [IX (v13 : Int) (length (istatesOf kid) : Int)] ?_ ?_)
    ·
     exact ⟨IX.of (by (simp only [List.length_set, List.length_replicate, istatesOf_eq, st_len] at *; omega)), trivial⟩
    refine r0U hC [0, 1, 5, 12, 13] [40] [] [(40, .arr 1 .bool ((set list v13 ((bits .and .i64 (ioutcomes (getD (Pln.Exprs p) 0 Xpr.zero) (set (istatesOf kid) v13 4)) 2) != 0)) : List Bool))] [IX (0 : Int) (length (Pln.Exprs p) : Int), (VX (set (istatesOf kid) v13 4) (getD (Pln.Exprs p) 0 Xpr.zero)), IX (v13 : Int) (length list : Int)] ?_ ?_
    ·
     exact ⟨IX.of (by omega), (by rw [istatesOf_eq]; exact st_vx4 hlv), IX.of (by omega), trivial⟩
    refine r0U hC [0, 1, 5, 12, 13] [40] [(13, sI ((v13 + 1 : Nat) : Int))] [] [R64 ((v13 + 1 : Nat) : Int)] ?_ ?_
    ·
     exact ⟨R64.of (by omega), trivial⟩
    refine bk (v13 + 1, (set list v13 ((bits .and .i64 (ioutcomes (getD (Pln.Exprs p) 0 Xpr.zero) (set (istatesOf kid) v13 4)) 2) != 0))) e33 hk25 ?_ ?_
    · simp only [lens] at *; omega
    · omega
  · intro h34q e35; refine kpU [5] [40] [] [] ?_; refine exit ?_; refine meet list (by kernel_rfl) ⟨?_, e35⟩; assumption
 · intro list hJ0 e36; have e37 := e0.trans (then_eq e36); refine seq (r1U hC [4] [40] [(4, .arr 40 1)] [] ?_); exact ret (rS (.slice .bool) e37)

end
end Go.Proofs.Ytodcdgolcbdkgaa


namespace Go.Proofs.Ytodcdgolcbdkgaa
open Go Go.Am
open List (length getD)
noncomputable section

def FL (ws : List Int) (fl : List (List Bool)) : Prop := fl.length = ws.length ∧ ∀ i, i < ws.length → (length (getD fl i []) : Int) = getD ws i 0

def NPl (ws : List Int) (fl : List (List Bool)) (p : Pln) : Prop := PVw ws p ∧ FL ws fl

theorem NPl.kid {ws : List Int} {fl : List (List Bool)} {p : Pln} (h : NPl ws fl p) {i : Nat} (hi : i < p.Kids.length) : NPl ws fl (p.Kids.getD i Pln.zero) := ⟨h.1.kid hi, h.2⟩

theorem set_loopF {α : Type} {d : α} (L : Nat → Nat → List α → List α) (n : Nat) (f : α → Nat → α)
  (hS : ∀ k i out, out.length = n → i < n → L (k + 1) i out = L k (i + 1) (out.set i (f (out.getD i d) i))) (h0 : ∀ k i out, ¬ i < n → L (k + 1) i out = out) :
  ∀ k i out, n - i < k → out.length = n → L k i out = out.take i ++ (List.range' i (n - i)).map (fun j => f (out.getD j d) j) := by
 intro k
 induction k with
 | zero => intro i out h; omega
 | succ k ih =>
  intro i out hk hl; by_cases hi : i < n
  · rw [hS k i out hl hi, ih _ _ (by omega) (by rw [List.length_set]; exact hl), set_takeI (by omega), show n - i = (n - (i + 1)) + 1 by omega, List.range'_succ, List.map_cons, List.append_assoc]; congr 1; show f (out.getD i d) i :: _ = f (out.getD i d) i :: _; congr 1; refine List.map_congr_left fun j hj => ?_; have := (List.mem_range'_1.1 hj).1; rw [lgetD_set_ne (by omega)]
  · rw [h0 k i out hi, show n - i = 0 by omega, List.take_of_length_le (by omega)]; simp

theorem app_loop {α : Type} (L : Nat → Nat → List α → List α) (n : Nat) (g : Nat → α)
  (hS : ∀ k i out, i < n → L (k + 1) i out = L k (i + 1) (out ++ [g i])) (h0 : ∀ k i out, ¬ i < n → L (k + 1) i out = out) :
  ∀ k i out, n - i < k → L k i out = out ++ (List.range' i (n - i)).map g := by
 intro k
 induction k with
 | zero => intro i out h; omega
 | succ k ih =>
  intro i out hk; by_cases hi : i < n
  · rw [hS k i out hi, ih _ _ (by omega), show n - i = (n - (i + 1)) + 1 by omega, List.range'_succ, List.map_cons, List.append_assoc]; rfl
  · rw [h0 k i out hi, show n - i = 0 by omega]; simp

def nuP : Nat → Pln → List (List Bool) → List Bool
 | 0, _, _ => []
 | f + 1, p, fl =>
  if p.Kind = 1 then getD fl (Int.toNat p.Table) []
  else if p.Kind = 2 then (List.range' 0 (nuP f (p.Kids.getD 0 Pln.zero) fl).length).map (fun i => bif (nuP f (p.Kids.getD 0 Pln.zero) fl).getD i false then (bits .and .i64 (ioutcomes (p.Exprs.getD 0 Xpr.zero) ((st (nuP f (p.Kids.getD 0 Pln.zero) fl)).set i 4)) 2 != 0) else false)
  else if p.Kind = 3 then (List.range' 0 p.Exprs.length).map (fun i => bits .and .i64 (ioutcomes (p.Exprs.getD i Xpr.zero) (st (nuP f (p.Kids.getD 0 Pln.zero) fl))) 4 != 0)
  else if p.Kind = 4 then nuP f (p.Kids.getD 0 Pln.zero) fl ++ nuP f (p.Kids.getD 1 Pln.zero) fl
  else if p.Kind = 5 then nuP f (p.Kids.getD 0 Pln.zero) fl ++ (List.range' 0 (nuP f (p.Kids.getD 1 Pln.zero) fl).length).map (fun _ => true)
  else if p.Kind = 6 then (List.range' 0 (nuP f (p.Kids.getD 0 Pln.zero) fl).length).map (fun i => bif (nuP f (p.Kids.getD 0 Pln.zero) fl).getD i false then true else (nuP f (p.Kids.getD 1 Pln.zero) fl).getD i false)
  else if p.Kind = 8 then (List.range' 0 p.Cols.length).map (fun i => (nuP f (p.Kids.getD 0 Pln.zero) fl).getD (Int.toNat (p.Cols.getD i 0)) false) ++ [false]
  else nuP f (p.Kids.getD 0 Pln.zero) fl

theorem PVw.wid {p : Pln} {ws : List Int} (h : PVw ws p) :
  (p.Kind = 2 ∨ p.Kind = 7 → widthOf p ws = widthOf (p.Kids.getD 0 Pln.zero) ws) ∧ (p.Kind = 3 → widthOf p ws = (p.Exprs.length : Int)) ∧
  (p.Kind = 4 ∨ p.Kind = 5 → widthOf p ws = widthOf (p.Kids.getD 0 Pln.zero) ws + widthOf (p.Kids.getD 1 Pln.zero) ws) ∧
  (p.Kind = 6 → widthOf p ws = widthOf (p.Kids.getD 0 Pln.zero) ws ∧ widthOf (p.Kids.getD 1 Pln.zero) ws = widthOf (p.Kids.getD 0 Pln.zero) ws) ∧
  (p.Kind = 8 → widthOf p ws = ((p.Cols.length + 1 : Nat) : Int) ∧ validGroupColumns p.Cols (widthOf (p.Kids.getD 0 Pln.zero) ws) = true) := by
 obtain ⟨hO, -, -⟩ := h.pvn.of; have hpc := parts2 (Pln.Kind p); have hOk := hO.kids; have hn := h.width.1; refine ⟨fun hk => ?_, fun hk => ?_, fun hk => ?_, fun hk => ?_, fun hk => ?_⟩
 ·
  have e := (h.over (by omega)).1 (by omega); rw [wo_else _ _ hk] at e; rw [e] at hn ⊢
  cases hv : allv p (widthOf (p.Kids.getD 0 Pln.zero) ws) with
  | true => rfl
  | false => rw [hv] at hn; exact absurd rfl hn
 ·
  have e := (h.over (by omega)).1 (by omega); rw [wo_project _ _ hk] at e; rw [e] at hn ⊢
  cases hv : allv p (widthOf (p.Kids.getD 0 Pln.zero) ws) with
  | true => rfl
  | false => rw [hv] at hn; exact absurd rfl hn
 ·
  have e := (h.over (by omega)).2 (by omega); rw [wo_join _ _ hk] at e; rw [e] at hn ⊢
  cases hd : decide (6 < widthOf (p.Kids.getD 0 Pln.zero) ws + widthOf (p.Kids.getD 1 Pln.zero) ws) with
  | true => rw [hd] at hn; exact absurd rfl hn
  | false =>
   rw [hd] at hn
   cases hv : allv p (widthOf (p.Kids.getD 0 Pln.zero) ws + widthOf (p.Kids.getD 1 Pln.zero) ws) with
   | true => rfl
   | false => rw [hv] at hn; exact absurd rfl hn
 ·
  have e := (h.over (by omega)).2 (by omega); rw [wo_union _ _ hk] at e; rw [e] at hn ⊢
  cases hd : (widthOf (p.Kids.getD 0 Pln.zero) ws != widthOf (p.Kids.getD 1 Pln.zero) ws) with
  | true => rw [hd] at hn; exact absurd rfl hn
  | false =>
   rw [hd] at hn; refine ⟨?_, (bne_eq_false_iff_eq.1 hd).symm⟩
   cases hv : allv p (widthOf (p.Kids.getD 0 Pln.zero) ws) with
   | true => rfl
   | false => rw [hv] at hn; exact absurd rfl hn
 ·
  have e := (h.over (by omega)).1 (by omega); rw [wo_group _ _ hk] at e; rw [e] at hn ⊢
  cases hv : validGroupColumns p.Cols (widthOf (p.Kids.getD 0 Pln.zero) ws) with
  | true => exact ⟨rfl, rfl⟩
  | false => rw [hv] at hn; exact absurd rfl hn

theorem nuP_len : ∀ (f : Nat) (p : Pln) (fl : List (List Bool)) (ws : List Int), NPl ws fl p → SizeOf.sizeOf p < f → (length (nuP f p fl) : Int) = widthOf p ws := by
 intro f
 induction f with
 | zero => intro p fl ws _ h; omega
 | succ f ih =>
  intro p fl ws hN hs; obtain ⟨hO, hT, -⟩ := hN.1.pvn.of; have hpc := parts2 (Pln.Kind p); have hOk := hO.kids; have hOc := hO.kind; obtain ⟨w1, w2, w3, w4, w5⟩ := hN.1.wid; have hk : ∀ i, i < p.Kids.length → (length (nuP f (p.Kids.getD i Pln.zero) fl) : Int) = widthOf (p.Kids.getD i Pln.zero) ws := fun i hi => ih _ _ _ (hN.kid hi) (by have := pkid_lt hi; omega); unfold nuP; by_cases h1 : p.Kind = 1
  · rw [if_pos h1, hN.2.2 _ (by have := hT h1; omega), hN.1.scan h1]
  ·
   rw [if_neg h1]; by_cases h2 : p.Kind = 2
   · rw [if_pos h2, List.length_map, List.length_range', hk 0 (by omega), w1 (.inl h2)]
   ·
    rw [if_neg h2]; by_cases h3 : p.Kind = 3
    · rw [if_pos h3, List.length_map, List.length_range', w2 h3]
    ·
     rw [if_neg h3]; by_cases h4 : p.Kind = 4
     · have a0 := hk 0 (by omega); have a1 := hk 1 (by omega); rw [if_pos h4, List.length_append, w3 (.inl h4)]; omega
     ·
      rw [if_neg h4]; by_cases h5 : p.Kind = 5
      · have a0 := hk 0 (by omega); have a1 := hk 1 (by omega); rw [if_pos h5, List.length_append, List.length_map, List.length_range', w3 (.inr h5)]; omega
      ·
       rw [if_neg h5]; by_cases h6 : p.Kind = 6
       · rw [if_pos h6, List.length_map, List.length_range', hk 0 (by omega), (w4 h6).1]
       ·
        rw [if_neg h6]; by_cases h8 : p.Kind = 8
        · rw [if_pos h8, List.length_append, List.length_map, List.length_range', (w5 h8).1]; rfl
        · rw [if_neg h8, hk 0 (by omega), w1 (.inr (by omega))]

end
end Go.Proofs.Ytodcdgolcbdkgaa
