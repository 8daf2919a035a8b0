/-
  A part of the proof of this claim (AwB): what functions of the program compute, and plain facts of that. No conditions.
-/
import Derived.Test.YtjcjpeckfikfkaaAwA
set_option linter.all false
namespace Go.Proofs.Ytjcjpeckfikfkaa
open Go Go.Am
open Go.Am.AW (seq r1U ret kpU cdE r0U meet block rS bk exit lpB r0)
open List (length getD take drop)
noncomputable section

def randomValue (r : Rdr) : Val × Rdr := (bif ((pick (Rdr.b r) (Rdr.p r) 5) == 0) then ((Val.mk true 0), (Rdr.mk (Rdr.b r) ((Rdr.p r) + 1))) else ((Val.mk false (one (Rdr.b r) ((Rdr.p r) + 1) ([0, 1, 2, 3, (-1)] : List Int))), (Rdr.mk (Rdr.b r) (((Rdr.p r) + 1) + 1))))

def randomValue_sp : FnSpec := mkSpecB [.box 3] [.val (.named 1)] (fun (r : Rdr) => 0 ≤ r.p ∧ r.p ≤ 1000000200000) (fun (r : Rdr) => [⟨(.named 1), ((randomValue r).1)⟩]) (fun (r : Rdr) => [⟨(.named 3), ((randomValue r).2)⟩])

theorem randomValue_ok : FnOK Try.prog 92 randomValue_sp := by
 have hC : CtxOK Try.prog (mkCtx tyL [(56, pickS), (59, oneS)]) := CtxOK.cons pickS_ok (CtxOK.cons oneS_ok (CtxOK.nil tyOK)); refine FnOK.of_body Try.func92 (by kernel_rfl) rfl (C := (mkCtx tyL [(56, pickS), (59, oneS)])) hC.ty (by kernel_rfl) ?_; intro (r : Rdr) hwf hpre E; have hpre : 0 ≤ r.p ∧ r.p ≤ 1000000200000 := hpre; have e0 : randomValue r = randomValue r := rfl; refine seq (r1U hC [0, 2] [0, 8] [(2, .ref 8 1 0)] [(8, .box 1 [.bool false, .int .i64 0])] ?_); refine seq (seq (r0U hC [0, 2, 5] [0, 8] [(5, .bool ((pick (Rdr.b r) (Rdr.p r) 5) == 0))] [(0, .box 0 [.data (.slice (.int .u8)) ((Rdr.b r) : List Int), .int .i64 ((Rdr.p r) + 1)])] [(0 ≤ r.p ∧ r.p ≤ 1099511627776)] ?_ ?_))
 ·
  exact ⟨(by omega), trivial⟩
 refine cdE e0 ?_ ?_
 · intro h1q e2; refine seq (r1U hC [2] [0, 8] [] [(8, .box 1 [.bool true, .int .i64 0])] ?_); exact ret (AW.retE (β := Val × Rdr) (fun v => [⟨(.named 1), v.1⟩]) (fun v => [⟨(.named 3), v.2⟩]) (v := ((Val.mk true 0), (Rdr.mk (Rdr.b r) ((Rdr.p r) + 1)))) e2 (by kernel_rfl) rfl rfl)
 ·
  intro h3q e4; refine kpU [0, 2] [0, 8] [] [] ?_; refine AW.skip (seq (r0U hC [2] [0, 8] [] [(0, .box 0 [.data (.slice (.int .u8)) ((Rdr.b r) : List Int), .int .i64 (((Rdr.p r) + 1) + 1)]), (8, .box 1 [.bool false, .int .i64 (one (Rdr.b r) ((Rdr.p r) + 1) ([0, 1, 2, 3, (-1)] : List Int))])] [((0 ≤ (Rdr.mk (Rdr.b r) ((Rdr.p r) + 1)).p ∧ (Rdr.mk (Rdr.b r) ((Rdr.p r) + 1)).p ≤ 1099511627775) ∧ 1 ≤ (length ([0, 1, 2, 3, (-1)] : List Int) : Int))] ?_ ?_))
  ·
   exact ⟨(by (simp only [lens] at *; omega)), trivial⟩
  exact ret (AW.retE (β := Val × Rdr) (fun v => [⟨(.named 1), v.1⟩]) (fun v => [⟨(.named 3), v.2⟩]) (v := ((Val.mk false (one (Rdr.b r) ((Rdr.p r) + 1) ([0, 1, 2, 3, (-1)] : List Int))), (Rdr.mk (Rdr.b r) (((Rdr.p r) + 1) + 1)))) e4 (by kernel_rfl) rfl rfl)

theorem randomValue_p (r : Rdr) : r.p ≤ (randomValue r).2.p ∧ (randomValue r).2.p ≤ r.p + 2 := by
 unfold randomValue
 cases (pick (Rdr.b r) (Rdr.p r) 5 == 0) with
 | true => simp only [cond_true]; omega
 | false => simp only [cond_false]; omega

def randomRow_l0 (width : Int) : Nat → Nat → (List Int) → Int → (List Val) → (List Int) × Int × (List Val)
 | 0, i, r0, r1, out => (r0, r1, out)
 | k + 1, i, r0, r1, out => (bif (decide ((i : Int) < width)) then (randomRow_l0 width k (i + 1) (Rdr.b ((randomValue (Rdr.mk r0 r1)).2)) (Rdr.p ((randomValue (Rdr.mk r0 r1)).2)) (out ++ ([((randomValue (Rdr.mk r0 r1)).1)] : List Val))) else (r0, r1, out))

def randomRow (r : Rdr) (width : Int) : (List Val) × Rdr := (andThen (randomRow_l0 width (Int.toNat (width - ((0 : Nat) : Int)) + 1) 0 (Rdr.b r) (Rdr.p r) ([] : List Val)) (fun z => (fun (r0 : List Int) (r1 : Int) (out : List Val) => (out, (Rdr.mk r0 r1))) z.1 z.2.1 z.2.2))

def randomRow_sp : FnSpec := mkSpecB [.box 3, .val (.int .i64)] [.own (.named 1)] (fun (r : Rdr) (width : Int) => (0 ≤ r.p ∧ r.p ≤ 1000000100000) ∧ width ≤ 100) (fun (r : Rdr) (width : Int) => [⟨(.slice (.named 1)), ((randomRow r width).1)⟩]) (fun (r : Rdr) (width : Int) => [⟨(.named 3), ((randomRow r width).2)⟩])

theorem randomRow_ok : FnOK Try.prog 57 randomRow_sp := by
 have hC : CtxOK Try.prog (mkCtx tyL [(92, randomValue_sp)]) := CtxOK.cons randomValue_ok (CtxOK.nil tyOK); refine FnOK.of_body Try.func57 (by kernel_rfl) rfl (C := (mkCtx tyL [(92, randomValue_sp)])) hC.ty (by kernel_rfl) ?_; intro (r : Rdr) (width : Int) hwf hpre E; have hpre : (0 ≤ r.p ∧ r.p ≤ 1000000100000) ∧ width ≤ 100 := hpre; have e0 : randomRow r width = randomRow r width := rfl; refine seq (r1U hC [0, 1] [0] [] [] ?_); refine seq (r1U hC [0, 1, 5] [0, 28] [(5, .arr 28 1)] [(28, .arr 1 (.named 1) (([] : List Val) : List Val))] ?_); refine seq (seq (r1U hC [0, 1, 5, 6] [0, 28] [(6, .int .i64 0)] [] ?_)); refine lpB (ζ := (List Int) × Int × (List Val)) (fun x => ⟨[(5, .arr 28 1)], [(0, .box 0 [.data (.slice (.int .u8)) (x.1 : List Int), .int .i64 x.2.1]), (28, .arr 1 (.named 1) (x.2.2 : List Val))]⟩) (fun x => (0 ≤ x.2.1 ∧ x.2.1 ≤ r.p + 200) ∧ length x.2.2 ≤ 100) (fun x => x) (α := Nat × (List Int) × Int × (List Val)) (fun x => ⟨[(0, .ref 0 0 0), (1, .int .i64 width), (5, .arr 28 1), (6, .int .i64 ((x.1 : Nat) : Int))], [(0, .box 0 [.data (.slice (.int .u8)) (x.2.1 : List Int), .int .i64 x.2.2.1]), (28, .arr 1 (.named 1) (x.2.2.2 : List Val))]⟩) (fun x => (0 ≤ x.2.2.1 ∧ x.2.2.1 ≤ r.p + 2 * (x.1 : Int)) ∧ (length x.2.2.2 = x.1 ∧ x.1 ≤ 100)) (fun x => Int.toNat (width - ((x.1 : Nat) : Int))) (fun k x => randomRow_l0 width k x.1 x.2.1 x.2.2.1 x.2.2.2) (0, (Rdr.b r), (Rdr.p r), ([] : List Val)) (by kernel_rfl) ?_ ?_ ?_
 · dsimp only; exact ⟨by omega, rfl, by omega⟩
 ·
  intro x k15q hI0 hk13 e14; obtain ⟨i, r0, r1, out⟩ := x; replace hI0 : (0 ≤ r1 ∧ r1 ≤ r.p + 2 * (i : Int)) ∧ (length out = i ∧ i ≤ 100) := hI0; have hp := randomValue_p (Rdr.mk r0 r1); simp only at hp; refine seq (seq (r1U hC [0, 1, 5, 6, 10] [0, 28] [(10, .bool (decide ((i : Int) < width)))] [] ?_)); refine cdE e14 ?_ ?_
  ·
   intro h16q e17; refine kpU [0, 1, 5, 6] [0, 28] [] [] ?_; refine AW.skip (seq (block (r0U hC [0, 1, 5, 6] [0, 28] [] [(0, .box 0 [.data (.slice (.int .u8)) ((Rdr.b ((randomValue (Rdr.mk r0 r1)).2)) : List Int), .int .i64 (Rdr.p ((randomValue (Rdr.mk r0 r1)).2))]), (28, .arr 1 (.named 1) ((out ++ ([((randomValue (Rdr.mk r0 r1)).1)] : List Val)) : List Val))] [(0 ≤ (Rdr.mk r0 r1).p ∧ (Rdr.mk r0 r1).p ≤ 1000000200000), ((length out : Int) + (length ([((randomValue (Rdr.mk r0 r1)).1)] : List Val) : Int) ≤ 4294967296)] ?_ ?_)))
   ·
    exact ⟨(by (dsimp only; omega)), (by (simp only [lens] at *; omega)), trivial⟩
   refine r0U hC [0, 1, 5, 6] [0, 28] [(6, .int .i64 ((i + 1 : Nat) : Int))] [] [(-9223372036854775808 ≤ ((i + 1 : Nat) : Int) ∧ ((i + 1 : Nat) : Int) ≤ 9223372036854775807)] ?_ ?_
   ·
    exact ⟨(by omega), trivial⟩
   refine bk (i + 1, (Rdr.b ((randomValue (Rdr.mk r0 r1)).2)), (Rdr.p ((randomValue (Rdr.mk r0 r1)).2)), (out ++ ([((randomValue (Rdr.mk r0 r1)).1)] : List Val))) e17 hk13 ?_ ?_
   · simp only [List.length_append, List.length_cons, List.length_nil]; omega
   · omega
  · intro h18q e19; refine kpU [5] [0, 28] [] [] ?_; refine exit ?_; refine meet (r0, r1, out) (by kernel_rfl) ⟨?_, e19⟩; dsimp only; omega
 · intro x hJ0 e20; obtain ⟨r0, r1, out⟩ := x; have e21 := e0.trans (then_eq e20); refine seq (r1U hC [4] [0, 28] [(4, .arr 28 1)] [] ?_); exact ret (AW.retE (β := (List Val) × Rdr) (fun v => [⟨(.slice (.named 1)), v.1⟩]) (fun v => [⟨(.named 3), v.2⟩]) (v := (out, (Rdr.mk r0 r1))) e21 (by kernel_rfl) rfl rfl)

theorem randomRow_l0_p (width : Int) (hw : width ≤ 100) : ∀ (k i : Nat) (r0 : List Int) (p : Int) (out : List Val), p ≤ (randomRow_l0 width k i r0 p out).2.1 ∧ (randomRow_l0 width k i r0 p out).2.1 ≤ p + 2 * ((100 - i : Nat) : Int) ∧
  (randomRow_l0 width k i r0 p out).2.2.length ≤ out.length + (100 - i) := by
 intro k
 induction k with
 | zero => intro i r0 p out; exact ⟨Int.le_refl _, by show p ≤ p + _; omega, Nat.le_add_right _ _⟩
 | succ k ih =>
  intro i r0 p out; unfold randomRow_l0; by_cases h : (i : Int) < width
  ·
   rw [decide_eq_true h, cond_true]; have hp := randomValue_p (Rdr.mk r0 p); simp only at hp; have := ih (i + 1) (Rdr.b ((randomValue (Rdr.mk r0 p)).2)) (Rdr.p ((randomValue (Rdr.mk r0 p)).2)) (out ++ ([((randomValue (Rdr.mk r0 p)).1)] : List Val))
   simp only [List.length_append, List.length_cons, List.length_nil] at this
   omega
  · rw [decide_eq_false h, cond_false]; simp only; omega

theorem randomRow_p (r : Rdr) {width : Int} (hw : width ≤ 100) : (r.p ≤ (randomRow r width).2.p ∧ (randomRow r width).2.p ≤ r.p + 200) ∧ (randomRow r width).1.length ≤ 100 := by
 have a := randomRow_l0_p width hw (Int.toNat (width - ((0 : Nat) : Int)) + 1) 0 (Rdr.b r) (Rdr.p r) []; unfold randomRow; dsimp only [andThen]; simp only [List.length_nil] at a; omega

theorem randomRow_l0_len (width : Int) : ∀ (k i : Nat) (r0 : List Int) (p : Int) (out : List Val), Int.toNat (width - (i : Int)) < k → (randomRow_l0 width k i r0 p out).2.2.length = out.length + Int.toNat (width - (i : Int)) := by
 intro k
 induction k with
 | zero => intro i r0 p out h; omega
 | succ k ih =>
  intro i r0 p out hk; unfold randomRow_l0; by_cases h : (i : Int) < width
  · rw [decide_eq_true h, cond_true, ih (i + 1) _ _ _ (by omega)]; simp only [List.length_append, List.length_cons, List.length_nil]; omega
  · rw [decide_eq_false h, cond_false]; simp only; omega

theorem randomRow_len (r : Rdr) (width : Int) : (randomRow r width).1.length = Int.toNat width := by
 have a := randomRow_l0_len width (Int.toNat (width - ((0 : Nat) : Int)) + 1) 0 (Rdr.b r) (Rdr.p r) [] (Nat.lt_succ_self _); unfold randomRow; dsimp only [andThen]; simp only [List.length_nil] at a; omega

def copyRow (row : List Val) : (List Val) := (([] : List Val) ++ row)

def copyRow_sp : FnSpec := mkSpec [.val (.slice (.named 1))] [.val (.slice (.named 1))] (fun (row : List Val) => (length row : Int) ≤ 1048576) (fun (row : List Val) => [⟨(.slice (.named 1)), (copyRow row)⟩])

theorem copyRow_ok : FnOK Try.prog 75 copyRow_sp := by
 have hC : CtxOK Try.prog (mkCtx tyL []) := CtxOK.nil tyOK; refine FnOK.of_body Try.func75 (by kernel_rfl) rfl (C := (mkCtx tyL [])) hC.ty (by kernel_rfl) ?_; intro (row : List Val) hwf hpre E; have hpre : (length row : Int) ≤ 1048576 := hpre; have e0 : copyRow row = copyRow row := rfl; refine seq (r1U hC [0] [] [] [] ?_); refine seq (r0 hC [2] [12] ⟨[(2, .arr 12 1)], [(12, .arr 1 (.named 1) ((([] : List Val) ++ row) : List Val))]⟩ [(0 + (length row : Int) ≤ 4294967296)] ?_ ?_)
 ·
  exact ⟨(by omega), trivial⟩
 exact ret (rS (.slice (.named 1)) e0)

def insertRow_l0 (rows : List (List Val)) (row : List Val) : Nat → Int → Int → Int
 | 0, low1, high1 => low1
 | k + 1, low1, high1 => (bif (decide (low1 < high1)) then (bif (decide ((compareRows (getD rows (Int.toNat ((low1 + high1) / 2)) []) row) ≤ 0)) then (insertRow_l0 rows row k (((low1 + high1) / 2) + 1) high1) else (insertRow_l0 rows row k low1 ((low1 + high1) / 2))) else low1)

def insertRow (rows : List (List Val)) (row : List Val) : (List (List Val)) := (andThen (insertRow_l0 rows row (Int.toNat ((length rows : Int) - 0) + 1) 0 (length rows : Int)) (fun z => (fun (low1 : Int) => (((([] : List (List Val)) ++ (take (Int.toNat low1) rows)) ++ ([(copyRow row)] : List (List Val))) ++ (drop (Int.toNat low1) rows))) z))

def insertRow_sp : FnSpec := mkSpec [.val (.slice (.slice (.named 1))), .val (.slice (.named 1))] [.own (.slice (.named 1))] (fun (rows : List (List Val)) (row : List Val) => (length rows : Int) ≤ 1048576 ∧ (length row : Int) ≤ 1048576) (fun (rows : List (List Val)) (row : List Val) => [⟨(.slice (.slice (.named 1))), (insertRow rows row)⟩])

theorem insertRow_ok : FnOK Try.prog 99 insertRow_sp := by
 have hC : CtxOK Try.prog (mkCtx tyL [(75, copyRow_sp), (106, compareRows_sp)]) := CtxOK.cons copyRow_ok (CtxOK.cons compareRows_ok (CtxOK.nil tyOK)); refine FnOK.of_body Try.func99 (by kernel_rfl) rfl (C := (mkCtx tyL [(75, copyRow_sp), (106, compareRows_sp)])) hC.ty (by kernel_rfl) ?_; intro (rows : List (List Val)) (row : List Val) hwf hpre E; have hpre : (length rows : Int) ≤ 1048576 ∧ (length row : Int) ≤ 1048576 := hpre; have e0 : insertRow rows row = insertRow rows row := rfl; refine seq (r1U hC [0, 1] [] [] [] ?_); refine seq (r1U hC [0, 1, 5] [] [(5, .int .i64 0)] [] ?_); refine seq (r1U hC [0, 1, 5, 6] [] [(6, .int .i64 (length rows : Int))] [] ?_); refine seq (lpB (ζ := Int) (fun x => ⟨[(0, .data (.slice (.slice (.named 1))) (rows : List (List Val))), (1, .data (.slice (.named 1)) (row : List Val)), (5, .int .i64 x)], []⟩) (fun x => 0 ≤ x ∧ x ≤ (length rows : Int)) (fun x => x) (α := Int × Int) (fun x => ⟨[(0, .data (.slice (.slice (.named 1))) (rows : List (List Val))), (1, .data (.slice (.named 1)) (row : List Val)), (5, .int .i64 x.1), (6, .int .i64 x.2)], []⟩) (fun x => (0 ≤ x.1 ∧ x.1 ≤ x.2) ∧ x.2 ≤ (length rows : Int)) (fun x => Int.toNat (x.2 - x.1)) (fun k x => insertRow_l0 rows row k x.1 x.2) (0, (length rows : Int)) (by kernel_rfl) ?_ ?_ ?_)
 · omega
 ·
  intro x k35q hI0 hk33 e34; obtain ⟨low1, high1⟩ := x; refine seq (seq (r1U hC [0, 1, 5, 6, 13] [] [(13, .bool (decide (low1 < high1)))] [] ?_)); refine cdE e34 ?_ ?_
  ·
   intro h36q e37; refine kpU [0, 1, 5, 6] [] [] [] ?_; refine AW.skip (block (seq (r0U hC [0, 1, 5, 6, 7] [] [(7, .int .i64 ((low1 + high1) / 2))] [] [(-9223372036854775808 ≤ (low1 + high1) ∧ (low1 + high1) ≤ 9223372036854775807), (0 ≤ (low1 + high1) ∧ 0 < (2 : Int))] ?_ ?_)))
   ·
    exact ⟨(by omega), (by omega), trivial⟩
   refine seq (r0U hC [0, 1, 5, 6, 7, 24] [] [(24, .bool (decide ((compareRows (getD rows (Int.toNat ((low1 + high1) / 2)) []) row) ≤ 0)))] [] [(0 ≤ ((low1 + high1) / 2) ∧ ((low1 + high1) / 2) < (length rows : Int)), (True)] ?_ ?_)
   ·
    exact ⟨(by omega), trivial, trivial⟩
   refine cdE e37 ?_ ?_
   ·
    intro h38q e39; refine r0U hC [0, 1, 5, 6] [] [(5, .int .i64 (((low1 + high1) / 2) + 1))] [] [(-9223372036854775808 ≤ (((low1 + high1) / 2) + 1) ∧ (((low1 + high1) / 2) + 1) ≤ 9223372036854775807)] ?_ ?_
    ·
     exact ⟨(by omega), trivial⟩
    refine bk ((((low1 + high1) / 2) + 1), high1) e39 hk33 ?_ ?_
    · omega
    · omega
   ·
    intro h40q e41; refine r1U hC [0, 1, 5, 6] [] [(6, .int .i64 ((low1 + high1) / 2))] [] ?_; refine bk (low1, ((low1 + high1) / 2)) e41 hk33 ?_ ?_
    · omega
    · omega
  · intro h42q e43; refine kpU [0, 1, 5] [] [] [] ?_; refine exit ?_; refine meet low1 (by kernel_rfl) ⟨?_, e43⟩; omega
 ·
  intro low1 hJ0 e44; have e45 := e0.trans (then_eq e44); refine seq (r0U hC [0, 1, 5, 8] [112] [(8, .arr 112 1)] [(112, .arr 1 (.slice (.named 1)) ((([] : List (List Val)) ++ (take (Int.toNat low1) rows)) : List (List Val)))] [(0 ≤ low1 ∧ low1 ≤ (length rows : Int)), (0 + (length (take (Int.toNat low1) rows) : Int) ≤ 4294967296)] ?_ ?_)
  ·
   exact ⟨(by omega), (by (simp only [lens] at *; omega)), trivial⟩
  refine seq (r0U hC [0, 5, 8] [112] [] [(112, .arr 1 (.slice (.named 1)) (((([] : List (List Val)) ++ (take (Int.toNat low1) rows)) ++ ([(copyRow row)] : List (List Val))) : List (List Val)))] [((length row : Int) ≤ 1048576), ((length (([] : List (List Val)) ++ (take (Int.toNat low1) rows)) : Int) + (length ([(copyRow row)] : List (List Val)) : Int) ≤ 4294967296)] ?_ ?_)
  ·
   exact ⟨(by omega), (by (simp only [lens] at *; omega)), trivial⟩
  refine seq (r0 hC [4] [112] ⟨[(4, .arr 112 1)], [(112, .arr 1 (.slice (.named 1)) ((((([] : List (List Val)) ++ (take (Int.toNat low1) rows)) ++ ([(copyRow row)] : List (List Val))) ++ (drop (Int.toNat low1) rows)) : List (List Val)))]⟩ [(0 ≤ low1 ∧ low1 ≤ (length rows : Int)), ((length ((([] : List (List Val)) ++ (take (Int.toNat low1) rows)) ++ ([(copyRow row)] : List (List Val))) : Int) + (length (drop (Int.toNat low1) rows) : Int) ≤ 4294967296)] ?_ ?_)
  ·
   exact ⟨(by omega), (by (simp only [lens] at *; omega)), trivial⟩
  exact ret (rS (.slice (.slice (.named 1))) e45)

theorem insertRow_len (rows : List (List Val)) (row : List Val) : (insertRow rows row).length = rows.length + 1 := by
 unfold insertRow; dsimp only [andThen]; simp only [List.length_append, List.nil_append, List.length_cons, List.length_nil, List.length_take, List.length_drop]; omega

end
end Go.Proofs.Ytjcjpeckfikfkaa
