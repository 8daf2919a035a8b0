/-
  A part of the proof of this claim (AwB): what functions of the program compute, and plain facts of that. No conditions.
-/
import Derived.Test.YtjcjpeckfikfkaaAwA
set_option linter.all false
namespace Go.Proofs.Ytjcjpeckfikfkaa
open Go Go.Am
noncomputable section

def randomValue (r : Rdr) : Val × Rdr := (bif ((pick (Rdr.b r) (Rdr.p r) 5) == 0) then ((Val.mk true 0), (Rdr.mk (Rdr.b r) ((Rdr.p r) + 1))) else ((Val.mk false (one (Rdr.b r) ((Rdr.p r) + 1) ([0, 1, 2, 3, (-1)] : List Int))), (Rdr.mk (Rdr.b r) (((Rdr.p r) + 1) + 1))))

def randomValue_sp : FnSpec := mkSpecB [.box 3] [.val (.named 1)] (fun (r : Rdr) => 0 ≤ r.p ∧ r.p ≤ 1000000200000) (fun (r : Rdr) => [⟨(.named 1), ((randomValue r).1)⟩]) (fun (r : Rdr) => [⟨(.named 3), ((randomValue r).2)⟩])

theorem randomValue_ok : FnOK Try.prog 92 randomValue_sp := by
 have hC : CtxOK Try.prog (mkCtx tyL [(56, pickS), (59, oneS)]) := CtxOK.cons pickS_ok (CtxOK.cons oneS_ok (CtxOK.nil tyOK))
 refine FnOK.of_body Try.func92 (by kernel_rfl) rfl (C := (mkCtx tyL [(56, pickS), (59, oneS)])) hC.ty (by kernel_rfl) ?_
 intro (r : Rdr) hwf hpre E
 have hpre : 0 ≤ r.p ∧ r.p ≤ 1000000200000 := hpre
 have hw_r : Wf ⟨(.named 3), (r : Rdr)⟩ := hwf _ (List.Mem.head _)
 have hl_r_b : ((List.length (Rdr.b r) : Nat) : Int) ≤ 9223372036854775807 := (hw_r.field (tv := ⟨(.slice (.int .u8)), Rdr.b r⟩) (List.Mem.head _)).len
 have hr_r_p : -9223372036854775808 ≤ Rdr.p r ∧ Rdr.p r ≤ 9223372036854775807 := (hw_r.field (tv := ⟨(.int .i64), Rdr.p r⟩) (List.Mem.tail _ (List.Mem.head _))).int_inv
 have e0 : randomValue r = randomValue r := rfl
 refine AW.seq (AW.r1 hC [0, 2] [0, 8] ⟨[(0, .ref 0 0 0), (2, .ref 8 1 0)], [(0, .box 0 [.data (.slice (.int .u8)) ((Rdr.b r) : List Int), .int .i64 (Rdr.p r)]), (8, .box 1 [.bool false, .int .i64 0])]⟩ ?_)
 refine AW.seq (AW.seq (AW.r0 hC [0, 2, 5] [0, 8] ⟨[(0, .ref 0 0 0), (2, .ref 8 1 0), (5, .bool ((pick (Rdr.b r) (Rdr.p r) 5) == 0))], [(0, .box 0 [.data (.slice (.int .u8)) ((Rdr.b r) : List Int), .int .i64 ((Rdr.p r) + 1)]), (8, .box 1 [.bool false, .int .i64 0])]⟩ [(0 ≤ r.p ∧ r.p ≤ 1099511627776)] ?_ ?_))
 ·
  refine ⟨?_, trivial⟩
  ·
   omega
 refine AW.cd ((pick (Rdr.b r) (Rdr.p r) 5) == 0) ?_ ?_
 ·
  intro h1
  have h1q : (pick (Rdr.b r) (Rdr.p r) 5) = 0 := (Go.Am.beq_pos h1)
  have e2 := e0.trans (Go.Am.bif_t h1)
  refine AW.seq (AW.r1 hC [2] [0, 8] ⟨[(2, .ref 8 1 0)], [(0, .box 0 [.data (.slice (.int .u8)) ((Rdr.b r) : List Int), .int .i64 ((Rdr.p r) + 1)]), (8, .box 1 [.bool true, .int .i64 0])]⟩ ?_)
  exact AW.ret (AW.retE (β := Val × Rdr) (fun v => [⟨(.named 1), v.1⟩]) (fun v => [⟨(.named 3), v.2⟩]) (v := ((Val.mk true 0), (Rdr.mk (Rdr.b r) ((Rdr.p r) + 1)))) e2 (by kernel_rfl) rfl rfl)
 ·
  intro h3
  have h3q : (pick (Rdr.b r) (Rdr.p r) 5) ≠ 0 := (Go.Am.beq_neg h3)
  have e4 := e0.trans (Go.Am.bif_f h3)
  refine AW.kp [0, 2] [0, 8] ⟨[(0, .ref 0 0 0), (2, .ref 8 1 0)], [(0, .box 0 [.data (.slice (.int .u8)) ((Rdr.b r) : List Int), .int .i64 ((Rdr.p r) + 1)]), (8, .box 1 [.bool false, .int .i64 0])]⟩ ?_
  refine AW.skip (AW.seq (AW.r0 hC [2] [0, 8] ⟨[(2, .ref 8 1 0)], [(0, .box 0 [.data (.slice (.int .u8)) ((Rdr.b r) : List Int), .int .i64 (((Rdr.p r) + 1) + 1)]), (8, .box 1 [.bool false, .int .i64 (one (Rdr.b r) ((Rdr.p r) + 1) ([0, 1, 2, 3, (-1)] : List Int))])]⟩ [((0 ≤ (Rdr.mk (Rdr.b r) ((Rdr.p r) + 1)).p ∧ (Rdr.mk (Rdr.b r) ((Rdr.p r) + 1)).p ≤ 1099511627775) ∧ 1 ≤ (List.length ([0, 1, 2, 3, (-1)] : List Int) : Int))] ?_ ?_))
  ·
   refine ⟨?_, trivial⟩
   ·
    simp only [lens] at *; omega
  exact AW.ret (AW.retE (β := Val × Rdr) (fun v => [⟨(.named 1), v.1⟩]) (fun v => [⟨(.named 3), v.2⟩]) (v := ((Val.mk false (one (Rdr.b r) ((Rdr.p r) + 1) ([0, 1, 2, 3, (-1)] : List Int))), (Rdr.mk (Rdr.b r) (((Rdr.p r) + 1) + 1)))) e4 (by kernel_rfl) rfl rfl)

theorem randomValue_p (r : Rdr) : r.p ≤ (randomValue r).2.p ∧ (randomValue r).2.p ≤ r.p + 2 := by
 unfold randomValue
 cases (pick (Rdr.b r) (Rdr.p r) 5 == 0) with
 | true => simp only [cond_true]; omega
 | false => simp only [cond_false]; omega

def randomRow_l0 (width : Int) : Nat → Nat → (List Int) → Int → (List Val) → (List Int) × Int × (List Val)
 | 0, i, r0, r1, out => (r0, r1, out)
 | k + 1, i, r0, r1, out => (bif (decide (((i : Nat) : Int) < width)) then (randomRow_l0 width k (i + 1) (Rdr.b ((randomValue (Rdr.mk r0 r1)).2)) (Rdr.p ((randomValue (Rdr.mk r0 r1)).2)) (out ++ ([((randomValue (Rdr.mk r0 r1)).1)] : List Val))) else (r0, r1, out))

def randomRow (r : Rdr) (width : Int) : (List Val) × Rdr := (Go.Am.andThen (randomRow_l0 width (Int.toNat (width - ((0 : Nat) : Int)) + 1) 0 (Rdr.b r) (Rdr.p r) ([] : List Val)) (fun z => (fun (r0 : List Int) (r1 : Int) (out : List Val) => (out, (Rdr.mk r0 r1))) z.1 z.2.1 z.2.2))

def randomRow_sp : FnSpec := mkSpecB [.box 3, .val (.int .i64)] [.own (.named 1)] (fun (r : Rdr) (width : Int) => (0 ≤ r.p ∧ r.p ≤ 1000000100000) ∧ width ≤ 100) (fun (r : Rdr) (width : Int) => [⟨(.slice (.named 1)), ((randomRow r width).1)⟩]) (fun (r : Rdr) (width : Int) => [⟨(.named 3), ((randomRow r width).2)⟩])

theorem randomRow_ok : FnOK Try.prog 57 randomRow_sp := by
 have hC : CtxOK Try.prog (mkCtx tyL [(92, randomValue_sp)]) := CtxOK.cons randomValue_ok (CtxOK.nil tyOK)
 refine FnOK.of_body Try.func57 (by kernel_rfl) rfl (C := (mkCtx tyL [(92, randomValue_sp)])) hC.ty (by kernel_rfl) ?_
 intro (r : Rdr) (width : Int) hwf hpre E
 have hpre : (0 ≤ r.p ∧ r.p ≤ 1000000100000) ∧ width ≤ 100 := hpre
 have hw_r : Wf ⟨(.named 3), (r : Rdr)⟩ := hwf _ (List.Mem.head _)
 have hl_r_b : ((List.length (Rdr.b r) : Nat) : Int) ≤ 9223372036854775807 := (hw_r.field (tv := ⟨(.slice (.int .u8)), Rdr.b r⟩) (List.Mem.head _)).len
 have hr_r_p : -9223372036854775808 ≤ Rdr.p r ∧ Rdr.p r ≤ 9223372036854775807 := (hw_r.field (tv := ⟨(.int .i64), Rdr.p r⟩) (List.Mem.tail _ (List.Mem.head _))).int_inv
 have hw_width : Wf ⟨(.int .i64), (width : Int)⟩ := hwf _ (List.Mem.tail _ (List.Mem.head _))
 have hr_width : -9223372036854775808 ≤ width ∧ width ≤ 9223372036854775807 := hw_width.int_inv
 have e0 : randomRow r width = randomRow r width := rfl
 refine AW.seq (AW.r1 hC [0, 1] [0] ⟨[(0, .ref 0 0 0), (1, .int .i64 width)], [(0, .box 0 [.data (.slice (.int .u8)) ((Rdr.b r) : List Int), .int .i64 (Rdr.p r)])]⟩ ?_)
 refine AW.seq (AW.r1 hC [0, 1, 5] [0, 28] ⟨[(0, .ref 0 0 0), (1, .int .i64 width), (5, .arr 28 1)], [(0, .box 0 [.data (.slice (.int .u8)) ((Rdr.b r) : List Int), .int .i64 (Rdr.p r)]), (28, .arr 1 (.named 1) (([] : List Val) : List Val))]⟩ ?_)
 refine AW.seq (AW.seq (AW.r1 hC [0, 1, 5, 6] [0, 28] ⟨[(0, .ref 0 0 0), (1, .int .i64 width), (5, .arr 28 1), (6, .int .i64 0)], [(0, .box 0 [.data (.slice (.int .u8)) ((Rdr.b r) : List Int), .int .i64 (Rdr.p r)]), (28, .arr 1 (.named 1) (([] : List Val) : List Val))]⟩ ?_))
 refine AW.cutQ (α := (List Int) × Int × (List Val)) (fun x => ⟨[(5, .arr 28 1)], [(0, .box 0 [.data (.slice (.int .u8)) (x.1 : List Int), .int .i64 x.2.1]), (28, .arr 1 (.named 1) (x.2.2 : List Val))]⟩) (fun x => ((0 ≤ x.2.1 ∧ x.2.1 ≤ r.p + 200) ∧ List.length x.2.2 ≤ 100) ∧ (randomRow_l0 width (Int.toNat (width - ((0 : Nat) : Int)) + 1) 0 (Rdr.b r) (Rdr.p r) ([] : List Val)) = x) ?_ ?_
 ·
  skip
  refine AW.block (AW.loop (α := Nat × (List Int) × Int × (List Val)) (fun x => ⟨[(0, .ref 0 0 0), (1, .int .i64 width), (5, .arr 28 1), (6, .int .i64 ((x.1 : Nat) : Int))], [(0, .box 0 [.data (.slice (.int .u8)) (x.2.1 : List Int), .int .i64 x.2.2.1]), (28, .arr 1 (.named 1) (x.2.2.2 : List Val))]⟩) (fun x => ((0 ≤ x.2.2.1 ∧ x.2.2.1 ≤ r.p + 2 * (x.1 : Int)) ∧ (List.length x.2.2.2 = x.1 ∧ x.1 ≤ 100)) ∧ ∃ k, Int.toNat (width - ((x.1 : Nat) : Int)) < k ∧ (randomRow_l0 width (Int.toNat (width - ((0 : Nat) : Int)) + 1) 0 (Rdr.b r) (Rdr.p r) ([] : List Val)) = randomRow_l0 width k x.1 x.2.1 x.2.2.1 x.2.2.2) (fun x => Int.toNat (width - ((x.1 : Nat) : Int))) (0, (Rdr.b r), (Rdr.p r), ([] : List Val)) (by kernel_rfl) ⟨?_, _, Nat.lt_succ_self _, rfl⟩ ?_)
  ·
   show (0 ≤ (Rdr.p r) ∧ (Rdr.p r) ≤ r.p + 2 * (0 : Int)) ∧ (List.length ([] : List Val) = 0 ∧ 0 ≤ 100)
   exact ⟨by omega, rfl, by omega⟩
  ·
   intro x hR
   obtain ⟨i, r0, r1, out⟩ := x
   obtain ⟨hI0, k15, hk13, e14⟩ := hR
   replace hI0 : (0 ≤ r1 ∧ r1 ≤ r.p + 2 * (i : Int)) ∧ (List.length out = i ∧ i ≤ 100) := hI0
   replace hk13 : Int.toNat (width - ((i : Nat) : Int)) < k15 := hk13
   obtain ⟨k15q, rfl⟩ : ∃ k, k15 = k + 1 := ⟨k15 - 1, by omega⟩
   have hp := randomValue_p (Rdr.mk r0 r1)
   simp only at hp
   refine AW.seq (AW.seq (AW.r1 hC [0, 1, 5, 6, 10] [0, 28] ⟨[(0, .ref 0 0 0), (1, .int .i64 width), (5, .arr 28 1), (6, .int .i64 ((i : Nat) : Int)), (10, .bool (decide (((i : Nat) : Int) < width)))], [(0, .box 0 [.data (.slice (.int .u8)) (r0 : List Int), .int .i64 r1]), (28, .arr 1 (.named 1) (out : List Val))]⟩ ?_))
   refine AW.cd (decide (((i : Nat) : Int) < width)) ?_ ?_
   ·
    intro h16
    have h16q : ((i : Nat) : Int) < width := (of_decide_eq_true h16)
    have e17 := e14.trans (Go.Am.bif_t h16)
    refine AW.kp [0, 1, 5, 6] [0, 28] ⟨[(0, .ref 0 0 0), (1, .int .i64 width), (5, .arr 28 1), (6, .int .i64 ((i : Nat) : Int))], [(0, .box 0 [.data (.slice (.int .u8)) (r0 : List Int), .int .i64 r1]), (28, .arr 1 (.named 1) (out : List Val))]⟩ ?_
    refine AW.skip (AW.seq (AW.block (AW.r0 hC [0, 1, 5, 6] [0, 28] ⟨[(0, .ref 0 0 0), (1, .int .i64 width), (5, .arr 28 1), (6, .int .i64 ((i : Nat) : Int))], [(0, .box 0 [.data (.slice (.int .u8)) ((Rdr.b ((randomValue (Rdr.mk r0 r1)).2)) : List Int), .int .i64 (Rdr.p ((randomValue (Rdr.mk r0 r1)).2))]), (28, .arr 1 (.named 1) ((out ++ ([((randomValue (Rdr.mk r0 r1)).1)] : List Val)) : List Val))]⟩ [(0 ≤ (Rdr.mk r0 r1).p ∧ (Rdr.mk r0 r1).p ≤ 1000000200000), (((List.length out : Nat) : Int) + ((List.length ([((randomValue (Rdr.mk r0 r1)).1)] : List Val) : Nat) : Int) ≤ 4294967296)] ?_ ?_)))
    ·
     refine ⟨?_, ?_, trivial⟩
     ·
      dsimp only; omega
     ·
      simp only [lens] at *; omega
    refine AW.r0 hC [0, 1, 5, 6] [0, 28] ⟨[(0, .ref 0 0 0), (1, .int .i64 width), (5, .arr 28 1), (6, .int .i64 ((i + 1 : Nat) : Int))], [(0, .box 0 [.data (.slice (.int .u8)) ((Rdr.b ((randomValue (Rdr.mk r0 r1)).2)) : List Int), .int .i64 (Rdr.p ((randomValue (Rdr.mk r0 r1)).2))]), (28, .arr 1 (.named 1) ((out ++ ([((randomValue (Rdr.mk r0 r1)).1)] : List Val)) : List Val))]⟩ [(-9223372036854775808 ≤ ((i + 1 : Nat) : Int) ∧ ((i + 1 : Nat) : Int) ≤ 9223372036854775807)] ?_ ?_
    ·
     refine ⟨?_, trivial⟩
     ·
      omega
    refine AW.back (x := (i, r0, r1, out)) (i + 1, (Rdr.b ((randomValue (Rdr.mk r0 r1)).2)), (Rdr.p ((randomValue (Rdr.mk r0 r1)).2)), (out ++ ([((randomValue (Rdr.mk r0 r1)).1)] : List Val))) (by kernel_rfl) ⟨?_, k15q, ?_, e17⟩ ?_
    ·
     show (0 ≤ (Rdr.p ((randomValue (Rdr.mk r0 r1)).2)) ∧ (Rdr.p ((randomValue (Rdr.mk r0 r1)).2)) ≤ r.p + 2 * ((i + 1) : Int)) ∧ (List.length (out ++ ([((randomValue (Rdr.mk r0 r1)).1)] : List Val)) = (i + 1) ∧ (i + 1) ≤ 100)
     simp only [List.length_append, List.length_cons, List.length_nil]
     omega
    ·
     show Int.toNat (width - (((i + 1) : Nat) : Int)) < k15q
     omega
    ·
     show Int.toNat (width - (((i + 1) : Nat) : Int)) < Int.toNat (width - ((i : Nat) : Int))
     omega
   ·
    intro h18
    have h18q : ¬ (((i : Nat) : Int) < width) := (of_decide_eq_false h18)
    have e19 := e14.trans (Go.Am.bif_f h18)
    refine AW.kp [5] [0, 28] ⟨[(5, .arr 28 1)], [(0, .box 0 [.data (.slice (.int .u8)) (r0 : List Int), .int .i64 r1]), (28, .arr 1 (.named 1) (out : List Val))]⟩ ?_
    refine AW.exit ?_
    refine AW.meet (r0, r1, out) (by kernel_rfl) ⟨?_, e19⟩
    show (0 ≤ r1 ∧ r1 ≤ r.p + 200) ∧ List.length out ≤ 100
    omega
 ·
  intro x hR
  obtain ⟨r0, r1, out⟩ := x
  obtain ⟨hJ0, e20⟩ := hR
  replace hJ0 : (0 ≤ r1 ∧ r1 ≤ r.p + 200) ∧ List.length out ≤ 100 := hJ0
  have e21 := e0.trans (Go.Am.then_eq e20)
  refine AW.seq (AW.r1 hC [4] [0, 28] ⟨[(4, .arr 28 1)], [(0, .box 0 [.data (.slice (.int .u8)) (r0 : List Int), .int .i64 r1]), (28, .arr 1 (.named 1) (out : List Val))]⟩ ?_)
  exact AW.ret (AW.retE (β := (List Val) × Rdr) (fun v => [⟨(.slice (.named 1)), v.1⟩]) (fun v => [⟨(.named 3), v.2⟩]) (v := (out, (Rdr.mk r0 r1))) e21 (by kernel_rfl) rfl rfl)

theorem randomRow_l0_p (width : Int) (hw : width ≤ 100) : ∀ (k i : Nat) (r0 : List Int) (p : Int) (out : List Val), p ≤ (randomRow_l0 width k i r0 p out).2.1 ∧ (randomRow_l0 width k i r0 p out).2.1 ≤ p + 2 * ((100 - i : Nat) : Int) ∧
  (randomRow_l0 width k i r0 p out).2.2.length ≤ out.length + (100 - i) := by
 intro k
 induction k with
 | zero => intro i r0 p out; exact ⟨Int.le_refl _, by show p ≤ p + _; omega, Nat.le_add_right _ _⟩
 | succ k ih =>
  intro i r0 p out
  unfold randomRow_l0
  by_cases h : ((i : Nat) : Int) < width
  ·
   rw [decide_eq_true h, cond_true]
   have hp := randomValue_p (Rdr.mk r0 p)
   simp only at hp
   have := ih (i + 1) (Rdr.b ((randomValue (Rdr.mk r0 p)).2)) (Rdr.p ((randomValue (Rdr.mk r0 p)).2)) (out ++ ([((randomValue (Rdr.mk r0 p)).1)] : List Val))
   simp only [List.length_append, List.length_cons, List.length_nil] at this
   omega
  ·
   rw [decide_eq_false h, cond_false]
   simp only
   omega

theorem randomRow_p (r : Rdr) {width : Int} (hw : width ≤ 100) : (r.p ≤ (randomRow r width).2.p ∧ (randomRow r width).2.p ≤ r.p + 200) ∧ (randomRow r width).1.length ≤ 100 := by
 have a := randomRow_l0_p width hw (Int.toNat (width - ((0 : Nat) : Int)) + 1) 0 (Rdr.b r) (Rdr.p r) []
 unfold randomRow
 dsimp only [Go.Am.andThen]
 simp only [List.length_nil] at a
 omega

theorem randomRow_l0_len (width : Int) : ∀ (k i : Nat) (r0 : List Int) (p : Int) (out : List Val), Int.toNat (width - (i : Int)) < k → (randomRow_l0 width k i r0 p out).2.2.length = out.length + Int.toNat (width - (i : Int)) := by
 intro k
 induction k with
 | zero => intro i r0 p out h; omega
 | succ k ih =>
  intro i r0 p out hk
  unfold randomRow_l0
  by_cases h : ((i : Nat) : Int) < width
  ·
   rw [decide_eq_true h, cond_true, ih (i + 1) _ _ _ (by omega)]
   simp only [List.length_append, List.length_cons, List.length_nil]
   omega
  ·
   rw [decide_eq_false h, cond_false]
   simp only
   omega

theorem randomRow_len (r : Rdr) (width : Int) : (randomRow r width).1.length = Int.toNat width := by
 have a := randomRow_l0_len width (Int.toNat (width - ((0 : Nat) : Int)) + 1) 0 (Rdr.b r) (Rdr.p r) [] (Nat.lt_succ_self _)
 unfold randomRow
 dsimp only [Go.Am.andThen]
 simp only [List.length_nil] at a
 omega

def copyRow (row : List Val) : (List Val) := (([] : List Val) ++ row)

def copyRow_sp : FnSpec := mkSpec [.val (.slice (.named 1))] [.val (.slice (.named 1))] (fun (row : List Val) => (List.length row : Int) ≤ 1048576) (fun (row : List Val) => [⟨(.slice (.named 1)), (copyRow row)⟩])

theorem copyRow_ok : FnOK Try.prog 75 copyRow_sp := by
 have hC : CtxOK Try.prog (mkCtx tyL []) := CtxOK.nil tyOK
 refine FnOK.of_body Try.func75 (by kernel_rfl) rfl (C := (mkCtx tyL [])) hC.ty (by kernel_rfl) ?_
 intro (row : List Val) hwf hpre E
 have hpre : (List.length row : Int) ≤ 1048576 := hpre
 have hw_row : Wf ⟨(.slice (.named 1)), (row : List Val)⟩ := hwf _ (List.Mem.head _)
 have hl_row : ((List.length row : Nat) : Int) ≤ 9223372036854775807 := hw_row.len
 have e0 : copyRow row = copyRow row := rfl
 refine AW.seq (AW.r1 hC [0] [] ⟨[(0, .data (.slice (.named 1)) (row : List Val))], []⟩ ?_)
 refine AW.seq (AW.r0 hC [2] [12] ⟨[(2, .arr 12 1)], [(12, .arr 1 (.named 1) ((([] : List Val) ++ row) : List Val))]⟩ [(0 + ((List.length row : Nat) : Int) ≤ 4294967296)] ?_ ?_)
 ·
  refine ⟨?_, trivial⟩
  ·
   omega
 exact AW.ret (AW.retE (β := (List Val)) (fun v => [⟨(.slice (.named 1)), v⟩]) (fun v => []) (v := (([] : List Val) ++ row)) e0 (by kernel_rfl) rfl rfl)

def insertRow_l0 (rows : List (List Val)) (row : List Val) : Nat → Int → Int → Int
 | 0, low1, high1 => low1
 | k + 1, low1, high1 => (bif (decide (low1 < high1)) then (bif (decide ((compareRows (List.getD rows (Int.toNat ((low1 + high1) / 2)) []) row) ≤ 0)) then (insertRow_l0 rows row k (((low1 + high1) / 2) + 1) high1) else (insertRow_l0 rows row k low1 ((low1 + high1) / 2))) else low1)

def insertRow (rows : List (List Val)) (row : List Val) : (List (List Val)) := (Go.Am.andThen (insertRow_l0 rows row (Int.toNat (((List.length rows : Nat) : Int) - 0) + 1) 0 ((List.length rows : Nat) : Int)) (fun z => (fun (low1 : Int) => (((([] : List (List Val)) ++ (List.take (Int.toNat low1) rows)) ++ ([(copyRow row)] : List (List Val))) ++ (List.drop (Int.toNat low1) rows))) z))

def insertRow_sp : FnSpec := mkSpec [.val (.slice (.slice (.named 1))), .val (.slice (.named 1))] [.own (.slice (.named 1))] (fun (rows : List (List Val)) (row : List Val) => (List.length rows : Int) ≤ 1048576 ∧ (List.length row : Int) ≤ 1048576) (fun (rows : List (List Val)) (row : List Val) => [⟨(.slice (.slice (.named 1))), (insertRow rows row)⟩])

theorem insertRow_ok : FnOK Try.prog 99 insertRow_sp := by
 have hC : CtxOK Try.prog (mkCtx tyL [(75, copyRow_sp), (106, compareRows_sp)]) := CtxOK.cons copyRow_ok (CtxOK.cons compareRows_ok (CtxOK.nil tyOK))
 refine FnOK.of_body Try.func99 (by kernel_rfl) rfl (C := (mkCtx tyL [(75, copyRow_sp), (106, compareRows_sp)])) hC.ty (by kernel_rfl) ?_
 intro (rows : List (List Val)) (row : List Val) hwf hpre E
 have hpre : (List.length rows : Int) ≤ 1048576 ∧ (List.length row : Int) ≤ 1048576 := hpre
 have hw_rows : Wf ⟨(.slice (.slice (.named 1))), (rows : List (List Val))⟩ := hwf _ (List.Mem.head _)
 have hl_rows : ((List.length rows : Nat) : Int) ≤ 9223372036854775807 := hw_rows.len
 have hw_row : Wf ⟨(.slice (.named 1)), (row : List Val)⟩ := hwf _ (List.Mem.tail _ (List.Mem.head _))
 have hl_row : ((List.length row : Nat) : Int) ≤ 9223372036854775807 := hw_row.len
 have e0 : insertRow rows row = insertRow rows row := rfl
 refine AW.seq (AW.r1 hC [0, 1] [] ⟨[(0, .data (.slice (.slice (.named 1))) (rows : List (List Val))), (1, .data (.slice (.named 1)) (row : List Val))], []⟩ ?_)
 refine AW.seq (AW.r1 hC [0, 1, 5] [] ⟨[(0, .data (.slice (.slice (.named 1))) (rows : List (List Val))), (1, .data (.slice (.named 1)) (row : List Val)), (5, .int .i64 0)], []⟩ ?_)
 refine AW.seq (AW.r1 hC [0, 1, 5, 6] [] ⟨[(0, .data (.slice (.slice (.named 1))) (rows : List (List Val))), (1, .data (.slice (.named 1)) (row : List Val)), (5, .int .i64 0), (6, .int .i64 ((List.length rows : Nat) : Int))], []⟩ ?_)
 refine AW.seq (AW.cutQ (α := Int) (fun x => ⟨[(0, .data (.slice (.slice (.named 1))) (rows : List (List Val))), (1, .data (.slice (.named 1)) (row : List Val)), (5, .int .i64 x)], []⟩) (fun x => (0 ≤ x ∧ x ≤ (List.length rows : Int)) ∧ (insertRow_l0 rows row (Int.toNat (((List.length rows : Nat) : Int) - 0) + 1) 0 ((List.length rows : Nat) : Int)) = x) ?_ ?_)
 ·
  skip
  refine AW.block (AW.loop (α := Int × Int) (fun x => ⟨[(0, .data (.slice (.slice (.named 1))) (rows : List (List Val))), (1, .data (.slice (.named 1)) (row : List Val)), (5, .int .i64 x.1), (6, .int .i64 x.2)], []⟩) (fun x => ((0 ≤ x.1 ∧ x.1 ≤ x.2) ∧ x.2 ≤ (List.length rows : Int)) ∧ ∃ k, Int.toNat (x.2 - x.1) < k ∧ (insertRow_l0 rows row (Int.toNat (((List.length rows : Nat) : Int) - 0) + 1) 0 ((List.length rows : Nat) : Int)) = insertRow_l0 rows row k x.1 x.2) (fun x => Int.toNat (x.2 - x.1)) (0, ((List.length rows : Nat) : Int)) (by kernel_rfl) ⟨?_, _, Nat.lt_succ_self _, rfl⟩ ?_)
  ·
   show (0 ≤ 0 ∧ 0 ≤ ((List.length rows : Nat) : Int)) ∧ ((List.length rows : Nat) : Int) ≤ (List.length rows : Int)
   omega
  ·
   intro x hR
   obtain ⟨low1, high1⟩ := x
   obtain ⟨hI0, k35, hk33, e34⟩ := hR
   replace hI0 : (0 ≤ low1 ∧ low1 ≤ high1) ∧ high1 ≤ (List.length rows : Int) := hI0
   replace hk33 : Int.toNat (high1 - low1) < k35 := hk33
   obtain ⟨k35q, rfl⟩ : ∃ k, k35 = k + 1 := ⟨k35 - 1, by omega⟩
   refine AW.seq (AW.seq (AW.r1 hC [0, 1, 5, 6, 13] [] ⟨[(0, .data (.slice (.slice (.named 1))) (rows : List (List Val))), (1, .data (.slice (.named 1)) (row : List Val)), (5, .int .i64 low1), (6, .int .i64 high1), (13, .bool (decide (low1 < high1)))], []⟩ ?_))
   refine AW.cd (decide (low1 < high1)) ?_ ?_
   ·
    intro h36
    have h36q : low1 < high1 := (of_decide_eq_true h36)
    have e37 := e34.trans (Go.Am.bif_t h36)
    refine AW.kp [0, 1, 5, 6] [] ⟨[(0, .data (.slice (.slice (.named 1))) (rows : List (List Val))), (1, .data (.slice (.named 1)) (row : List Val)), (5, .int .i64 low1), (6, .int .i64 high1)], []⟩ ?_
    refine AW.skip (AW.block (AW.seq (AW.r0 hC [0, 1, 5, 6, 7] [] ⟨[(0, .data (.slice (.slice (.named 1))) (rows : List (List Val))), (1, .data (.slice (.named 1)) (row : List Val)), (5, .int .i64 low1), (6, .int .i64 high1), (7, .int .i64 ((low1 + high1) / 2))], []⟩ [(-9223372036854775808 ≤ (low1 + high1) ∧ (low1 + high1) ≤ 9223372036854775807), (0 ≤ (low1 + high1) ∧ 0 < (2 : Int))] ?_ ?_)))
    ·
     refine ⟨?_, ?_, trivial⟩
     ·
      omega
     ·
      omega
    refine AW.seq (AW.r0 hC [0, 1, 5, 6, 7, 24] [] ⟨[(0, .data (.slice (.slice (.named 1))) (rows : List (List Val))), (1, .data (.slice (.named 1)) (row : List Val)), (5, .int .i64 low1), (6, .int .i64 high1), (7, .int .i64 ((low1 + high1) / 2)), (24, .bool (decide ((compareRows (List.getD rows (Int.toNat ((low1 + high1) / 2)) []) row) ≤ 0)))], []⟩ [(0 ≤ ((low1 + high1) / 2) ∧ ((low1 + high1) / 2) < ((List.length rows : Nat) : Int)), (True)] ?_ ?_)
    ·
     refine ⟨?_, ?_, trivial⟩
     ·
      omega
     ·
      trivial
    refine AW.cd (decide ((compareRows (List.getD rows (Int.toNat ((low1 + high1) / 2)) []) row) ≤ 0)) ?_ ?_
    ·
     intro h38
     have h38q : (compareRows (List.getD rows (Int.toNat ((low1 + high1) / 2)) []) row) ≤ 0 := (of_decide_eq_true h38)
     have e39 := e37.trans (Go.Am.bif_t h38)
     refine AW.r0 hC [0, 1, 5, 6] [] ⟨[(0, .data (.slice (.slice (.named 1))) (rows : List (List Val))), (1, .data (.slice (.named 1)) (row : List Val)), (5, .int .i64 (((low1 + high1) / 2) + 1)), (6, .int .i64 high1)], []⟩ [(-9223372036854775808 ≤ (((low1 + high1) / 2) + 1) ∧ (((low1 + high1) / 2) + 1) ≤ 9223372036854775807)] ?_ ?_
     ·
      refine ⟨?_, trivial⟩
      ·
       omega
     refine AW.back (x := (low1, high1)) ((((low1 + high1) / 2) + 1), high1) (by kernel_rfl) ⟨?_, k35q, ?_, e39⟩ ?_
     ·
      show (0 ≤ (((low1 + high1) / 2) + 1) ∧ (((low1 + high1) / 2) + 1) ≤ high1) ∧ high1 ≤ (List.length rows : Int)
      omega
     ·
      show Int.toNat (high1 - (((low1 + high1) / 2) + 1)) < k35q
      omega
     ·
      show Int.toNat (high1 - (((low1 + high1) / 2) + 1)) < Int.toNat (high1 - low1)
      omega
    ·
     intro h40
     have h40q : ¬ ((compareRows (List.getD rows (Int.toNat ((low1 + high1) / 2)) []) row) ≤ 0) := (of_decide_eq_false h40)
     have e41 := e37.trans (Go.Am.bif_f h40)
     refine AW.r1 hC [0, 1, 5, 6] [] ⟨[(0, .data (.slice (.slice (.named 1))) (rows : List (List Val))), (1, .data (.slice (.named 1)) (row : List Val)), (5, .int .i64 low1), (6, .int .i64 ((low1 + high1) / 2))], []⟩ ?_
     refine AW.back (x := (low1, high1)) (low1, ((low1 + high1) / 2)) (by kernel_rfl) ⟨?_, k35q, ?_, e41⟩ ?_
     ·
      show (0 ≤ low1 ∧ low1 ≤ ((low1 + high1) / 2)) ∧ ((low1 + high1) / 2) ≤ (List.length rows : Int)
      omega
     ·
      show Int.toNat (((low1 + high1) / 2) - low1) < k35q
      omega
     ·
      show Int.toNat (((low1 + high1) / 2) - low1) < Int.toNat (high1 - low1)
      omega
   ·
    intro h42
    have h42q : ¬ (low1 < high1) := (of_decide_eq_false h42)
    have e43 := e34.trans (Go.Am.bif_f h42)
    refine AW.kp [0, 1, 5] [] ⟨[(0, .data (.slice (.slice (.named 1))) (rows : List (List Val))), (1, .data (.slice (.named 1)) (row : List Val)), (5, .int .i64 low1)], []⟩ ?_
    refine AW.exit ?_
    refine AW.meet low1 (by kernel_rfl) ⟨?_, e43⟩
    show 0 ≤ low1 ∧ low1 ≤ (List.length rows : Int)
    omega
 ·
  intro low1 hR
  obtain ⟨hJ0, e44⟩ := hR
  replace hJ0 : 0 ≤ low1 ∧ low1 ≤ (List.length rows : Int) := hJ0
  have e45 := e0.trans (Go.Am.then_eq e44)
  refine AW.seq (AW.r0 hC [0, 1, 5, 8] [112] ⟨[(0, .data (.slice (.slice (.named 1))) (rows : List (List Val))), (1, .data (.slice (.named 1)) (row : List Val)), (5, .int .i64 low1), (8, .arr 112 1)], [(112, .arr 1 (.slice (.named 1)) ((([] : List (List Val)) ++ (List.take (Int.toNat low1) rows)) : List (List Val)))]⟩ [(0 ≤ low1 ∧ low1 ≤ ((List.length rows : Nat) : Int)), (0 + ((List.length (List.take (Int.toNat low1) rows) : Nat) : Int) ≤ 4294967296)] ?_ ?_)
  ·
   refine ⟨?_, ?_, trivial⟩
   ·
    omega
   ·
    simp only [lens] at *; omega
  refine AW.seq (AW.r0 hC [0, 5, 8] [112] ⟨[(0, .data (.slice (.slice (.named 1))) (rows : List (List Val))), (5, .int .i64 low1), (8, .arr 112 1)], [(112, .arr 1 (.slice (.named 1)) (((([] : List (List Val)) ++ (List.take (Int.toNat low1) rows)) ++ ([(copyRow row)] : List (List Val))) : List (List Val)))]⟩ [((List.length row : Int) ≤ 1048576), (((List.length (([] : List (List Val)) ++ (List.take (Int.toNat low1) rows)) : Nat) : Int) + ((List.length ([(copyRow row)] : List (List Val)) : Nat) : Int) ≤ 4294967296)] ?_ ?_)
  ·
   refine ⟨?_, ?_, trivial⟩
   ·
    omega
   ·
    simp only [lens] at *; omega
  refine AW.seq (AW.r0 hC [4] [112] ⟨[(4, .arr 112 1)], [(112, .arr 1 (.slice (.named 1)) ((((([] : List (List Val)) ++ (List.take (Int.toNat low1) rows)) ++ ([(copyRow row)] : List (List Val))) ++ (List.drop (Int.toNat low1) rows)) : List (List Val)))]⟩ [(0 ≤ low1 ∧ low1 ≤ ((List.length rows : Nat) : Int)), (((List.length ((([] : List (List Val)) ++ (List.take (Int.toNat low1) rows)) ++ ([(copyRow row)] : List (List Val))) : Nat) : Int) + ((List.length (List.drop (Int.toNat low1) rows) : Nat) : Int) ≤ 4294967296)] ?_ ?_)
  ·
   refine ⟨?_, ?_, trivial⟩
   ·
    omega
   ·
    simp only [lens] at *; omega
  exact AW.ret (AW.retE (β := (List (List Val))) (fun v => [⟨(.slice (.slice (.named 1))), v⟩]) (fun v => []) (v := (((([] : List (List Val)) ++ (List.take (Int.toNat low1) rows)) ++ ([(copyRow row)] : List (List Val))) ++ (List.drop (Int.toNat low1) rows))) e45 (by kernel_rfl) rfl rfl)

theorem insertRow_len (rows : List (List Val)) (row : List Val) : (insertRow rows row).length = rows.length + 1 := by
 unfold insertRow
 dsimp only [Go.Am.andThen]
 simp only [List.length_append, List.nil_append, List.length_cons, List.length_nil, List.length_take, List.length_drop]
 omega

theorem copyRow_eq (r : List Val) : copyRow r = r := rfl

end
end Go.Proofs.Ytjcjpeckfikfkaa
