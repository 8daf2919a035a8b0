/-
  A part of the proof of this claim (Ax5): what functions of the program compute, and plain facts of that. No conditions.
-/
import Derived.Test.YtgbapklfgjnggaaAx4
import Derived.Test.YtgbapklfgjnggaaAnB
set_option linter.all false
namespace Go.Proofs.Ytgbapklfgjnggaa
open Go Go.Am
noncomputable section

theorem lt32 {a : Int} (h : 0 ≤ a) (h5 : a < 5) : (1 : Int) ≤ 1 * 2 ^ a.toNat ∧ (1 : Int) * 2 ^ a.toNat < 32 := by
 obtain ⟨n, rfl⟩ := Int.eq_ofNat_of_zero_le h
 simp only [Int.toNat_natCast]
 have : n < 5 := by omega
 match n, this with
 | 0, _ | 1, _ | 2, _ | 3, _ | 4, _ => decide

theorem or32 {a b : Int} (ha : 0 ≤ a) (ha' : a < 32) (hb : 0 ≤ b) (hb' : b < 32) : a ≤ bits .or .i64 a b ∧ b ≤ bits .or .i64 a b ∧ bits .or .i64 a b < 32 := by
 rw [(bits62 ha (by omega) hb (by omega)).2]
 have h1 : a.toNat ≤ a.toNat ||| b.toNat := Nat.left_le_or
 have h2 : b.toNat ≤ a.toNat ||| b.toNat := Nat.right_le_or
 have h3 : a.toNat ||| b.toNat < 2 ^ 5 := Nat.or_lt_two_pow (by omega) (by omega)
 omega

def costTop (l : Nat) : Int := 1000000000000000 * (2 ^ (l + 1) - 1)

theorem costTop_succ (l : Nat) : costTop (l + 1) = 1000000000000000 + 2 * costTop l := by
 unfold costTop
 rw [show (2 : Int) ^ (l + 1 + 1) = 2 * 2 ^ (l + 1) by rw [Int.pow_succ (n := l + 1)]; omega]
 omega

theorem costTop_pos (l : Nat) : 0 ≤ costTop l := by
 unfold costTop
 have : (1 : Int) ≤ 2 ^ (l + 1) := by
  rw [pow_cast]
  have := Nat.two_pow_pos (l + 1)
  omega
 omega

theorem costTop_le {l : Nat} (h : l ≤ 5) : costTop l ≤ 63000000000000000 := by
 match l, h with
 | 0, _ | 1, _ | 2, _ | 3, _ | 4, _ | 5, _ => decide

def measure_r : Nat → JoinTree → Graph → Int → (Int × Int)
 | 0, t, g, levels => (0, 0)
 | fuel + 1, t, g, levels => (bif (((List.length (JoinTree.Kids t) : Nat) : Int) == 0) then (bif (bif (decide ((JoinTree.Leaf t) < 0)) then true else (decide (((List.length (Graph.Rows g) : Nat) : Int) ≤ (JoinTree.Leaf t)))) then (0, 0) else (((1 : Int) * 2 ^ (Int.toNat (JoinTree.Leaf t))), 0)) else (bif (bif (bif ((JoinTree.Leaf t) != 0) then true else (((List.length (JoinTree.Kids t) : Nat) : Int) != 2)) then true else (levels == 0)) then (0, 0) else (bif ((((measure_r fuel) (List.getD (JoinTree.Kids t) 0 JoinTree.zero) g (levels - 1)).1) == 0) then (0, 0) else (bif (bif ((((measure_r fuel) (List.getD (JoinTree.Kids t) 1 JoinTree.zero) g (levels - 1)).1) == 0) then true else ((bits .and .i64 (((measure_r fuel) (List.getD (JoinTree.Kids t) 0 JoinTree.zero) g (levels - 1)).1) (((measure_r fuel) (List.getD (JoinTree.Kids t) 1 JoinTree.zero) g (levels - 1)).1)) != 0)) then (0, 0) else ((bits .or .i64 (((measure_r fuel) (List.getD (JoinTree.Kids t) 0 JoinTree.zero) g (levels - 1)).1) (((measure_r fuel) (List.getD (JoinTree.Kids t) 1 JoinTree.zero) g (levels - 1)).1)), (((gSize g (bits .or .i64 (((measure_r fuel) (List.getD (JoinTree.Kids t) 0 JoinTree.zero) g (levels - 1)).1) (((measure_r fuel) (List.getD (JoinTree.Kids t) 1 JoinTree.zero) g (levels - 1)).1))) + (((measure_r fuel) (List.getD (JoinTree.Kids t) 0 JoinTree.zero) g (levels - 1)).2)) + (((measure_r fuel) (List.getD (JoinTree.Kids t) 1 JoinTree.zero) g (levels - 1)).2)))))))

def measure (t : JoinTree) (g : Graph) (levels : Int) : Int × Int := measure_r (SizeOf.sizeOf t + 1) t g levels

def measure_spn (fuel : Nat) : FnSpec := mkSpec [.rd (.named 3), .rd (.named 1), .val (.int .i64)] [.val (.int .i64), .val (.int .i64)] (fun (t : JoinTree) (g : Graph) (levels : Int) => (VG g ∧ (0 ≤ levels ∧ levels ≤ 5)) ∧ SizeOf.sizeOf t < fuel) (fun (t : JoinTree) (g : Graph) (levels : Int) => [⟨(.int .i64), ((measure_r fuel t g levels).1)⟩, ⟨(.int .i64), ((measure_r fuel t g levels).2)⟩])

def measure_sp : FnSpec := mkSpec [.rd (.named 3), .rd (.named 1), .val (.int .i64)] [.val (.int .i64), .val (.int .i64)] (fun (t : JoinTree) (g : Graph) (levels : Int) => VG g ∧ (0 ≤ levels ∧ levels ≤ 5)) (fun (t : JoinTree) (g : Graph) (levels : Int) => [⟨(.int .i64), ((measure t g levels).1)⟩, ⟨(.int .i64), ((measure t g levels).2)⟩])

theorem measure_b {g : Graph} (hV : VG g) : ∀ (f : Nat) (t : JoinTree) (l : Nat), (0 ≤ (measure_r f t g ((l : Nat) : Int)).1 ∧ (measure_r f t g ((l : Nat) : Int)).1 < 32) ∧ (0 ≤ (measure_r f t g ((l : Nat) : Int)).2 ∧ (measure_r f t g ((l : Nat) : Int)).2 ≤ costTop l) := by
 intro f
 induction f with
 | zero =>
  intro t l
  have := costTop_pos l
  show (0 ≤ (0 : Int) ∧ (0 : Int) < 32) ∧ (0 ≤ (0 : Int) ∧ (0 : Int) ≤ costTop l)
  omega
 | succ f ih =>
  intro t l
  have hp := costTop_pos l
  unfold measure_r
  cases (((List.length (JoinTree.Kids t) : Nat) : Int) == 0) with
  | true =>
   simp only [cond_true]
   cases h : (bif (decide ((JoinTree.Leaf t) < 0)) then true else (decide (((List.length (Graph.Rows g) : Nat) : Int) ≤ (JoinTree.Leaf t)))) with
   | true => simp only [cond_true]; omega
   | false =>
    have h := or_neg h
    have h1 := of_decide_eq_false h.1
    have h2 := of_decide_eq_false h.2
    have := hV.n5
    have := lt32 (a := JoinTree.Leaf t) (by omega) (by omega)
    simp only [cond_false]
    omega
  | false =>
   simp only [cond_false]
   cases h : (bif (bif ((JoinTree.Leaf t) != 0) then true else (((List.length (JoinTree.Kids t) : Nat) : Int) != 2)) then true else (((l : Nat) : Int) == 0)) with
   | true => simp only [cond_true]; omega
   | false =>
    simp only [cond_false]
    have hl : ((l : Nat) : Int) ≠ 0 := bne_iff_ne.1 (by have := (or_neg h).2; simpa using this)
    obtain ⟨m, rfl⟩ : ∃ m, l = m + 1 := ⟨l - 1, by omega⟩
    rw [show (((m + 1 : Nat) : Nat) : Int) - 1 = ((m : Nat) : Int) by omega]
    have a := ih (List.getD (JoinTree.Kids t) 0 JoinTree.zero) m
    have b := ih (List.getD (JoinTree.Kids t) 1 JoinTree.zero) m
    generalize measure_r f (List.getD (JoinTree.Kids t) 0 JoinTree.zero) g ((m : Nat) : Int) = x at *
    generalize measure_r f (List.getD (JoinTree.Kids t) 1 JoinTree.zero) g ((m : Nat) : Int) = y at *
    obtain ⟨x1, x2⟩ := x
    obtain ⟨y1, y2⟩ := y
    simp only at a b ⊢
    have hs := gSize_b hV (bits .or .i64 x1 y1)
    have ho := or32 a.1.1 a.1.2 b.1.1 b.1.2
    have hc := costTop_succ m
    cases (x1 == 0) with
    | true => simp only [cond_true]; omega
    | false =>
     simp only [cond_false]
     cases (bif (y1 == 0) then true else ((bits .and .i64 x1 y1) != 0)) with
     | true => simp only [cond_true]; omega
     | false => simp only [cond_false]; omega

theorem measure_in {g : Graph} (hV : VG g) (f : Nat) (t : JoinTree) {l : Int} (h : 0 ≤ l) (h4 : l ≤ 4) : (0 ≤ (measure_r f t g l).1 ∧ (measure_r f t g l).1 < 32) ∧ (0 ≤ (measure_r f t g l).2 ∧ (measure_r f t g l).2 ≤ 63000000000000000) := by
 obtain ⟨n, rfl⟩ := Int.eq_ofNat_of_zero_le h
 have := measure_b hV f t n
 have := costTop_le (l := n) (by omega)
 omega

theorem measure_okn (fuel : Nat) : FnOK Try.prog 67 (measure_spn fuel) := by
 induction fuel with
 | zero => exact FnOK.never Try.func67 (by kernel_rfl) rfl (fun _ _ _ h => absurd h.2 (Nat.not_lt_zero _))
 | succ fuel ih => ?_
 have hC : CtxOK Try.prog (mkCtx tyL [(54, gSize_sp), (67, (measure_spn fuel))]) := CtxOK.cons gSize_ok (CtxOK.cons ih (CtxOK.nil tyOK))
 have hM : Try.prog.follows .mixedOrders = true := Try.checked.mixed
 refine FnOK.of_body Try.func67 (by kernel_rfl) rfl (C := (mkCtx tyL [(54, gSize_sp), (67, (measure_spn fuel))])) hC.ty (by kernel_rfl) ?_
 intro (t : JoinTree) (g : Graph) (levels : Int) hwf hpre E
 have hpre : (VG g ∧ (0 ≤ levels ∧ levels ≤ 5)) ∧ SizeOf.sizeOf t < fuel + 1 := hpre
 have hw_t : Wf ⟨(.named 3), (t : JoinTree)⟩ := hwf _ (List.Mem.head _)
 have hr_t_Leaf : -9223372036854775808 ≤ JoinTree.Leaf t ∧ JoinTree.Leaf t ≤ 9223372036854775807 := (hw_t.field (tv := ⟨(.int .i64), JoinTree.Leaf t⟩) (List.Mem.head _)).int_inv
 have hl_t_Kids : ((List.length (JoinTree.Kids t) : Nat) : Int) ≤ 9223372036854775807 := (hw_t.field (tv := ⟨(.slice (.named 3)), JoinTree.Kids t⟩) (List.Mem.tail _ (List.Mem.head _))).len
 have hw_g : Wf ⟨(.named 1), (g : Graph)⟩ := hwf _ (List.Mem.tail _ (List.Mem.head _))
 have hl_g_Rows : ((List.length (Graph.Rows g) : Nat) : Int) ≤ 9223372036854775807 := (hw_g.field (tv := ⟨(.slice (.int .i64)), Graph.Rows g⟩) (List.Mem.head _)).len
 have hl_g_Edges : ((List.length (Graph.Edges g) : Nat) : Int) ≤ 9223372036854775807 := (hw_g.field (tv := ⟨(.slice (.named 0)), Graph.Edges g⟩) (List.Mem.tail _ (List.Mem.head _))).len
 have hw_levels : Wf ⟨(.int .i64), (levels : Int)⟩ := hwf _ (List.Mem.tail _ (List.Mem.tail _ (List.Mem.head _)))
 have hr_levels : -9223372036854775808 ≤ levels ∧ levels ≤ 9223372036854775807 := hw_levels.int_inv
 have e0 : measure_r (fuel + 1) t g levels = measure_r (fuel + 1) t g levels := rfl
 refine AW.seq (AW.r1U hC [0, 1, 2] [] [] [] ?_)
 refine AW.seq (AW.seq (AW.r1U hC [0, 1, 2, 17] [] [(17, .bool (((List.length (JoinTree.Kids t) : Nat) : Int) == 0))] [] ?_))
 refine AW.cd (((List.length (JoinTree.Kids t) : Nat) : Int) == 0) ?_ ?_
 ·
  intro h1
  have h1q : ((List.length (JoinTree.Kids t) : Nat) : Int) = 0 := (Go.Am.beq_pos h1)
  have e2 := e0.trans (Go.Am.bif_t h1)
  refine AW.seq (AW.seq (AW.d0U hC hM [0, 34] [] [(34, .bool (bif (decide ((JoinTree.Leaf t) < 0)) then true else (decide (((List.length (Graph.Rows g) : Nat) : Int) ≤ (JoinTree.Leaf t)))))] [] [(((decide ((JoinTree.Leaf t) < 0)) = false) → (((decide ((JoinTree.Leaf t) < 0)) = false))), (((decide ((JoinTree.Leaf t) < 0)) = false) → (((decide ((JoinTree.Leaf t) < 0)) = false))), (((decide ((JoinTree.Leaf t) < 0)) = false) → (((decide ((JoinTree.Leaf t) < 0)) = false))), (((decide ((JoinTree.Leaf t) < 0)) = false) → (((decide ((JoinTree.Leaf t) < 0)) = false))), (((decide ((JoinTree.Leaf t) < 0)) = false) → (((decide ((JoinTree.Leaf t) < 0)) = false))), (((decide ((JoinTree.Leaf t) < 0)) = false) → (((decide ((JoinTree.Leaf t) < 0)) = false))), (((decide ((JoinTree.Leaf t) < 0)) = false) → (((decide ((JoinTree.Leaf t) < 0)) = false))), (((decide ((JoinTree.Leaf t) < 0)) = false) → (((decide ((JoinTree.Leaf t) < 0)) = false))), (((decide ((JoinTree.Leaf t) < 0)) = false) → (((decide ((JoinTree.Leaf t) < 0)) = false))), (((decide ((JoinTree.Leaf t) < 0)) = false) → (((decide ((JoinTree.Leaf t) < 0)) = false)))] ?_ ?_))
  ·
   refine ⟨?_, ?_, ?_, ?_, ?_, ?_, ?_, ?_, ?_, ?_, trivial⟩
   ·
    intro g3
    have g3p0 : ¬ ((JoinTree.Leaf t) < 0) := (of_decide_eq_false g3)
    assumption
   ·
    intro g4
    have g4p0 : ¬ ((JoinTree.Leaf t) < 0) := (of_decide_eq_false g4)
    assumption
   ·
    intro g5
    have g5p0 : ¬ ((JoinTree.Leaf t) < 0) := (of_decide_eq_false g5)
    assumption
   ·
    intro g6
    have g6p0 : ¬ ((JoinTree.Leaf t) < 0) := (of_decide_eq_false g6)
    assumption
   ·
    intro g7
    have g7p0 : ¬ ((JoinTree.Leaf t) < 0) := (of_decide_eq_false g7)
    assumption
   ·
    intro g8
    have g8p0 : ¬ ((JoinTree.Leaf t) < 0) := (of_decide_eq_false g8)
    assumption
   ·
    intro g9
    have g9p0 : ¬ ((JoinTree.Leaf t) < 0) := (of_decide_eq_false g9)
    assumption
   ·
    intro g10
    have g10p0 : ¬ ((JoinTree.Leaf t) < 0) := (of_decide_eq_false g10)
    assumption
   ·
    intro g11
    have g11p0 : ¬ ((JoinTree.Leaf t) < 0) := (of_decide_eq_false g11)
    assumption
   ·
    intro g12
    have g12p0 : ¬ ((JoinTree.Leaf t) < 0) := (of_decide_eq_false g12)
    assumption
  refine AW.cd (bif (decide ((JoinTree.Leaf t) < 0)) then true else (decide (((List.length (Graph.Rows g) : Nat) : Int) ≤ (JoinTree.Leaf t)))) ?_ ?_
  ·
   intro h13
   have h13q : ((JoinTree.Leaf t) < 0) ∨ (((List.length (Graph.Rows g) : Nat) : Int) ≤ (JoinTree.Leaf t)) := (Or.imp (fun h => (of_decide_eq_true h)) (fun h => (of_decide_eq_true h)) (Go.Am.or_pos h13))
   have e14 := e2.trans (Go.Am.bif_t h13)
   refine AW.seq (AW.r1 hC [6, 7] [] ⟨[(6, .int .i64 0), (7, .int .i64 0)], []⟩ ?_)
   exact AW.ret (AW.retE (β := Int × Int) (fun v => [⟨(.int .i64), v.1⟩, ⟨(.int .i64), v.2⟩]) (fun v => []) (v := (0, 0)) e14 (by kernel_rfl) rfl rfl)
  ·
   intro h15
   have h15q : (¬ ((JoinTree.Leaf t) < 0)) ∧ (¬ (((List.length (Graph.Rows g) : Nat) : Int) ≤ (JoinTree.Leaf t))) := (And.imp (fun h => (of_decide_eq_false h)) (fun h => (of_decide_eq_false h)) (Go.Am.or_neg h15))
   have e16 := e2.trans (Go.Am.bif_f h15)
   refine AW.kpU [0] [] [] [] ?_
   refine AW.skip (AW.seq (AW.r0 hC [6, 7] [] ⟨[(6, .int .i64 ((1 : Int) * 2 ^ (Int.toNat (JoinTree.Leaf t)))), (7, .int .i64 0)], []⟩ [(0 ≤ (JoinTree.Leaf t) ∧ (JoinTree.Leaf t) ≤ 64), (-9223372036854775808 ≤ ((1 : Int) * 2 ^ (Int.toNat (JoinTree.Leaf t))) ∧ ((1 : Int) * 2 ^ (Int.toNat (JoinTree.Leaf t))) ≤ 9223372036854775807)] ?_ ?_))
   ·
    refine ⟨?_, ?_, trivial⟩
    ·
     have := hpre.1.1.n5
     omega
    ·
     have := hpre.1.1.n5
     have := lt32 (a := JoinTree.Leaf t) (by omega) (by omega)
     omega
   exact AW.ret (AW.retE (β := Int × Int) (fun v => [⟨(.int .i64), v.1⟩, ⟨(.int .i64), v.2⟩]) (fun v => []) (v := (((1 : Int) * 2 ^ (Int.toNat (JoinTree.Leaf t))), 0)) e16 (by kernel_rfl) rfl rfl)
 ·
  intro h17
  have h17q : ((List.length (JoinTree.Kids t) : Nat) : Int) ≠ 0 := (Go.Am.beq_neg h17)
  have e18 := e0.trans (Go.Am.bif_f h17)
  refine AW.kpU [0, 1, 2] [] [] [] ?_
  refine AW.skip (AW.seq (AW.seq (AW.r0U hC [0, 1, 2, 56] [] [(56, .bool (bif (bif ((JoinTree.Leaf t) != 0) then true else (((List.length (JoinTree.Kids t) : Nat) : Int) != 2)) then true else (levels == 0)))] [] [((((JoinTree.Leaf t) != 0) = false) → ((((JoinTree.Leaf t) != 0) = false))), ((((JoinTree.Leaf t) != 0) = false) → ((((JoinTree.Leaf t) != 0) = false))), ((((JoinTree.Leaf t) != 0) = false) → ((((JoinTree.Leaf t) != 0) = false))), ((((JoinTree.Leaf t) != 0) = false) → ((((JoinTree.Leaf t) != 0) = false))), ((((JoinTree.Leaf t) != 0) = false) → ((((JoinTree.Leaf t) != 0) = false))), ((((JoinTree.Leaf t) != 0) = false) → ((((JoinTree.Leaf t) != 0) = false))), (((bif ((JoinTree.Leaf t) != 0) then true else (((List.length (JoinTree.Kids t) : Nat) : Int) != 2)) = false) → (((bif ((JoinTree.Leaf t) != 0) then true else (((List.length (JoinTree.Kids t) : Nat) : Int) != 2)) = false))), (((bif ((JoinTree.Leaf t) != 0) then true else (((List.length (JoinTree.Kids t) : Nat) : Int) != 2)) = false) → (((bif ((JoinTree.Leaf t) != 0) then true else (((List.length (JoinTree.Kids t) : Nat) : Int) != 2)) = false)))] ?_ ?_)))
  ·
   refine ⟨?_, ?_, ?_, ?_, ?_, ?_, ?_, ?_, trivial⟩
   ·
    intro g19
    have g19p0 : (JoinTree.Leaf t) = 0 := (Go.Am.bne_neg g19)
    assumption
   ·
    intro g20
    have g20p0 : (JoinTree.Leaf t) = 0 := (Go.Am.bne_neg g20)
    assumption
   ·
    intro g21
    have g21p0 : (JoinTree.Leaf t) = 0 := (Go.Am.bne_neg g21)
    assumption
   ·
    intro g22
    have g22p0 : (JoinTree.Leaf t) = 0 := (Go.Am.bne_neg g22)
    assumption
   ·
    intro g23
    have g23p0 : (JoinTree.Leaf t) = 0 := (Go.Am.bne_neg g23)
    assumption
   ·
    intro g24
    have g24p0 : (JoinTree.Leaf t) = 0 := (Go.Am.bne_neg g24)
    assumption
   ·
    intro g25
    have g25p0 : ((JoinTree.Leaf t) = 0) ∧ (((List.length (JoinTree.Kids t) : Nat) : Int) = 2) := (And.imp (fun h => (Go.Am.bne_neg h)) (fun h => (Go.Am.bne_neg h)) (Go.Am.or_neg g25))
    assumption
   ·
    intro g26
    have g26p0 : ((JoinTree.Leaf t) = 0) ∧ (((List.length (JoinTree.Kids t) : Nat) : Int) = 2) := (And.imp (fun h => (Go.Am.bne_neg h)) (fun h => (Go.Am.bne_neg h)) (Go.Am.or_neg g26))
    assumption
  refine AW.cd (bif (bif ((JoinTree.Leaf t) != 0) then true else (((List.length (JoinTree.Kids t) : Nat) : Int) != 2)) then true else (levels == 0)) ?_ ?_
  ·
   intro h27
   have h27q : (((JoinTree.Leaf t) ≠ 0) ∨ (((List.length (JoinTree.Kids t) : Nat) : Int) ≠ 2)) ∨ (levels = 0) := (Or.imp (fun h => (Or.imp (fun h => (Go.Am.bne_pos h)) (fun h => (Go.Am.bne_pos h)) (Go.Am.or_pos h))) (fun h => (Go.Am.beq_pos h)) (Go.Am.or_pos h27))
   have e28 := e18.trans (Go.Am.bif_t h27)
   refine AW.seq (AW.r1 hC [6, 7] [] ⟨[(6, .int .i64 0), (7, .int .i64 0)], []⟩ ?_)
   exact AW.ret (AW.retE (β := Int × Int) (fun v => [⟨(.int .i64), v.1⟩, ⟨(.int .i64), v.2⟩]) (fun v => []) (v := (0, 0)) e28 (by kernel_rfl) rfl rfl)
  ·
   intro h29
   have h29q : (((JoinTree.Leaf t) = 0) ∧ (((List.length (JoinTree.Kids t) : Nat) : Int) = 2)) ∧ (levels ≠ 0) := (And.imp (fun h => (And.imp (fun h => (Go.Am.bne_neg h)) (fun h => (Go.Am.bne_neg h)) (Go.Am.or_neg h))) (fun h => (Go.Am.beq_neg h)) (Go.Am.or_neg h29))
   have e30 := e18.trans (Go.Am.bif_f h29)
   refine AW.kpU [0, 1, 2] [] [] [] ?_
   refine AW.skip (AW.seq (AW.r0U hC [0, 1, 2, 8, 9] [] [(8, .int .i64 (((measure_r fuel) (List.getD (JoinTree.Kids t) 0 JoinTree.zero) g (levels - 1)).1)), (9, .int .i64 (((measure_r fuel) (List.getD (JoinTree.Kids t) 0 JoinTree.zero) g (levels - 1)).2))] [] [(0 ≤ (0 : Int) ∧ (0 : Int) < ((List.length (JoinTree.Kids t) : Nat) : Int)), (-9223372036854775808 ≤ (levels - 1) ∧ (levels - 1) ≤ 9223372036854775807), ((VG g ∧ (0 ≤ (levels - 1) ∧ (levels - 1) ≤ 5)) ∧ SizeOf.sizeOf (List.getD (JoinTree.Kids t) 0 JoinTree.zero) < fuel)] ?_ ?_))
   ·
    refine ⟨?_, ?_, ?_, trivial⟩
    ·
     omega
    ·
     omega
    ·
     exact ⟨⟨hpre.1.1, by omega, by omega⟩, Nat.lt_of_lt_of_le (kid_lt (by omega)) (Nat.le_of_lt_succ hpre.2)⟩
   refine AW.seq (AW.seq (AW.r1U hC [0, 1, 2, 8, 9, 70] [] [(70, .bool ((((measure_r fuel) (List.getD (JoinTree.Kids t) 0 JoinTree.zero) g (levels - 1)).1) == 0))] [] ?_))
   refine AW.cd ((((measure_r fuel) (List.getD (JoinTree.Kids t) 0 JoinTree.zero) g (levels - 1)).1) == 0) ?_ ?_
   ·
    intro h31
    have h31q : (((measure_r fuel) (List.getD (JoinTree.Kids t) 0 JoinTree.zero) g (levels - 1)).1) = 0 := (Go.Am.beq_pos h31)
    have e32 := e30.trans (Go.Am.bif_t h31)
    refine AW.seq (AW.r1 hC [6, 7] [] ⟨[(6, .int .i64 0), (7, .int .i64 0)], []⟩ ?_)
    exact AW.ret (AW.retE (β := Int × Int) (fun v => [⟨(.int .i64), v.1⟩, ⟨(.int .i64), v.2⟩]) (fun v => []) (v := (0, 0)) e32 (by kernel_rfl) rfl rfl)
   ·
    intro h33
    have h33q : (((measure_r fuel) (List.getD (JoinTree.Kids t) 0 JoinTree.zero) g (levels - 1)).1) ≠ 0 := (Go.Am.beq_neg h33)
    have e34 := e30.trans (Go.Am.bif_f h33)
    refine AW.kpU [0, 1, 2, 8, 9] [] [] [] ?_
    refine AW.skip (AW.seq (AW.r0U hC [1, 8, 9, 10, 11] [] [(10, .int .i64 (((measure_r fuel) (List.getD (JoinTree.Kids t) 1 JoinTree.zero) g (levels - 1)).1)), (11, .int .i64 (((measure_r fuel) (List.getD (JoinTree.Kids t) 1 JoinTree.zero) g (levels - 1)).2))] [] [(0 ≤ (1 : Int) ∧ (1 : Int) < ((List.length (JoinTree.Kids t) : Nat) : Int)), (-9223372036854775808 ≤ (levels - 1) ∧ (levels - 1) ≤ 9223372036854775807), ((VG g ∧ (0 ≤ (levels - 1) ∧ (levels - 1) ≤ 5)) ∧ SizeOf.sizeOf (List.getD (JoinTree.Kids t) 1 JoinTree.zero) < fuel)] ?_ ?_))
    ·
     refine ⟨?_, ?_, ?_, trivial⟩
     ·
      omega
     ·
      omega
     ·
      exact ⟨⟨hpre.1.1, by omega, by omega⟩, Nat.lt_of_lt_of_le (kid_lt (by omega)) (Nat.le_of_lt_succ hpre.2)⟩
    refine AW.seq (AW.seq (AW.r0U hC [1, 8, 9, 10, 11, 90] [] [(90, .bool (bif ((((measure_r fuel) (List.getD (JoinTree.Kids t) 1 JoinTree.zero) g (levels - 1)).1) == 0) then true else ((bits .and .i64 (((measure_r fuel) (List.getD (JoinTree.Kids t) 0 JoinTree.zero) g (levels - 1)).1) (((measure_r fuel) (List.getD (JoinTree.Kids t) 1 JoinTree.zero) g (levels - 1)).1)) != 0)))] [] [((((((measure_r fuel) (List.getD (JoinTree.Kids t) 1 JoinTree.zero) g (levels - 1)).1) == 0) = false) → ((((((measure_r fuel) (List.getD (JoinTree.Kids t) 1 JoinTree.zero) g (levels - 1)).1) == 0) = false))), ((((((measure_r fuel) (List.getD (JoinTree.Kids t) 1 JoinTree.zero) g (levels - 1)).1) == 0) = false) → ((((((measure_r fuel) (List.getD (JoinTree.Kids t) 1 JoinTree.zero) g (levels - 1)).1) == 0) = false))), ((((((measure_r fuel) (List.getD (JoinTree.Kids t) 1 JoinTree.zero) g (levels - 1)).1) == 0) = false) → ((((((measure_r fuel) (List.getD (JoinTree.Kids t) 1 JoinTree.zero) g (levels - 1)).1) == 0) = false))), ((((((measure_r fuel) (List.getD (JoinTree.Kids t) 1 JoinTree.zero) g (levels - 1)).1) == 0) = false) → ((((((measure_r fuel) (List.getD (JoinTree.Kids t) 1 JoinTree.zero) g (levels - 1)).1) == 0) = false)))] ?_ ?_))
    ·
     refine ⟨?_, ?_, ?_, ?_, trivial⟩
     ·
      intro g35
      have g35p0 : (((measure_r fuel) (List.getD (JoinTree.Kids t) 1 JoinTree.zero) g (levels - 1)).1) ≠ 0 := (Go.Am.beq_neg g35)
      assumption
     ·
      intro g36
      have g36p0 : (((measure_r fuel) (List.getD (JoinTree.Kids t) 1 JoinTree.zero) g (levels - 1)).1) ≠ 0 := (Go.Am.beq_neg g36)
      assumption
     ·
      intro g37
      have g37p0 : (((measure_r fuel) (List.getD (JoinTree.Kids t) 1 JoinTree.zero) g (levels - 1)).1) ≠ 0 := (Go.Am.beq_neg g37)
      assumption
     ·
      intro g38
      have g38p0 : (((measure_r fuel) (List.getD (JoinTree.Kids t) 1 JoinTree.zero) g (levels - 1)).1) ≠ 0 := (Go.Am.beq_neg g38)
      assumption
    refine AW.cd (bif ((((measure_r fuel) (List.getD (JoinTree.Kids t) 1 JoinTree.zero) g (levels - 1)).1) == 0) then true else ((bits .and .i64 (((measure_r fuel) (List.getD (JoinTree.Kids t) 0 JoinTree.zero) g (levels - 1)).1) (((measure_r fuel) (List.getD (JoinTree.Kids t) 1 JoinTree.zero) g (levels - 1)).1)) != 0)) ?_ ?_
    ·
     intro h39
     have h39q : ((((measure_r fuel) (List.getD (JoinTree.Kids t) 1 JoinTree.zero) g (levels - 1)).1) = 0) ∨ ((bits .and .i64 (((measure_r fuel) (List.getD (JoinTree.Kids t) 0 JoinTree.zero) g (levels - 1)).1) (((measure_r fuel) (List.getD (JoinTree.Kids t) 1 JoinTree.zero) g (levels - 1)).1)) ≠ 0) := (Or.imp (fun h => (Go.Am.beq_pos h)) (fun h => (Go.Am.bne_pos h)) (Go.Am.or_pos h39))
     have e40 := e34.trans (Go.Am.bif_t h39)
     refine AW.seq (AW.r1 hC [6, 7] [] ⟨[(6, .int .i64 0), (7, .int .i64 0)], []⟩ ?_)
     exact AW.ret (AW.retE (β := Int × Int) (fun v => [⟨(.int .i64), v.1⟩, ⟨(.int .i64), v.2⟩]) (fun v => []) (v := (0, 0)) e40 (by kernel_rfl) rfl rfl)
    ·
     intro h41
     have h41q : ((((measure_r fuel) (List.getD (JoinTree.Kids t) 1 JoinTree.zero) g (levels - 1)).1) ≠ 0) ∧ ((bits .and .i64 (((measure_r fuel) (List.getD (JoinTree.Kids t) 0 JoinTree.zero) g (levels - 1)).1) (((measure_r fuel) (List.getD (JoinTree.Kids t) 1 JoinTree.zero) g (levels - 1)).1)) = 0) := (And.imp (fun h => (Go.Am.beq_neg h)) (fun h => (Go.Am.bne_neg h)) (Go.Am.or_neg h41))
     have e42 := e34.trans (Go.Am.bif_f h41)
     refine AW.kp [1, 8, 9, 10, 11] [] ⟨[(1, .dref (.named 1) (g : Graph)), (8, .int .i64 (((measure_r fuel) (List.getD (JoinTree.Kids t) 0 JoinTree.zero) g (levels - 1)).1)), (9, .int .i64 (((measure_r fuel) (List.getD (JoinTree.Kids t) 0 JoinTree.zero) g (levels - 1)).2)), (10, .int .i64 (((measure_r fuel) (List.getD (JoinTree.Kids t) 1 JoinTree.zero) g (levels - 1)).1)), (11, .int .i64 (((measure_r fuel) (List.getD (JoinTree.Kids t) 1 JoinTree.zero) g (levels - 1)).2))], []⟩ ?_
     refine AW.skip (AW.seq (AW.r1U hC [1, 6, 9, 11] [] [(6, .int .i64 (bits .or .i64 (((measure_r fuel) (List.getD (JoinTree.Kids t) 0 JoinTree.zero) g (levels - 1)).1) (((measure_r fuel) (List.getD (JoinTree.Kids t) 1 JoinTree.zero) g (levels - 1)).1)))] [] ?_))
     refine AW.seq (AW.r0U hC [6, 7] [] [(7, .int .i64 (((gSize g (bits .or .i64 (((measure_r fuel) (List.getD (JoinTree.Kids t) 0 JoinTree.zero) g (levels - 1)).1) (((measure_r fuel) (List.getD (JoinTree.Kids t) 1 JoinTree.zero) g (levels - 1)).1))) + (((measure_r fuel) (List.getD (JoinTree.Kids t) 0 JoinTree.zero) g (levels - 1)).2)) + (((measure_r fuel) (List.getD (JoinTree.Kids t) 1 JoinTree.zero) g (levels - 1)).2)))] [] [(VG g ∧ True), (-9223372036854775808 ≤ ((gSize g (bits .or .i64 (((measure_r fuel) (List.getD (JoinTree.Kids t) 0 JoinTree.zero) g (levels - 1)).1) (((measure_r fuel) (List.getD (JoinTree.Kids t) 1 JoinTree.zero) g (levels - 1)).1))) + (((measure_r fuel) (List.getD (JoinTree.Kids t) 0 JoinTree.zero) g (levels - 1)).2)) ∧ ((gSize g (bits .or .i64 (((measure_r fuel) (List.getD (JoinTree.Kids t) 0 JoinTree.zero) g (levels - 1)).1) (((measure_r fuel) (List.getD (JoinTree.Kids t) 1 JoinTree.zero) g (levels - 1)).1))) + (((measure_r fuel) (List.getD (JoinTree.Kids t) 0 JoinTree.zero) g (levels - 1)).2)) ≤ 9223372036854775807), (-9223372036854775808 ≤ (((gSize g (bits .or .i64 (((measure_r fuel) (List.getD (JoinTree.Kids t) 0 JoinTree.zero) g (levels - 1)).1) (((measure_r fuel) (List.getD (JoinTree.Kids t) 1 JoinTree.zero) g (levels - 1)).1))) + (((measure_r fuel) (List.getD (JoinTree.Kids t) 0 JoinTree.zero) g (levels - 1)).2)) + (((measure_r fuel) (List.getD (JoinTree.Kids t) 1 JoinTree.zero) g (levels - 1)).2)) ∧ (((gSize g (bits .or .i64 (((measure_r fuel) (List.getD (JoinTree.Kids t) 0 JoinTree.zero) g (levels - 1)).1) (((measure_r fuel) (List.getD (JoinTree.Kids t) 1 JoinTree.zero) g (levels - 1)).1))) + (((measure_r fuel) (List.getD (JoinTree.Kids t) 0 JoinTree.zero) g (levels - 1)).2)) + (((measure_r fuel) (List.getD (JoinTree.Kids t) 1 JoinTree.zero) g (levels - 1)).2)) ≤ 9223372036854775807)] ?_ ?_)
     ·
      refine ⟨?_, ?_, ?_, trivial⟩
      ·
       exact ⟨hpre.1.1, trivial⟩
      ·
       have a := measure_in hpre.1.1 fuel (List.getD (JoinTree.Kids t) 0 JoinTree.zero) (l := levels - 1) (by omega) (by omega)
       have b := measure_in hpre.1.1 fuel (List.getD (JoinTree.Kids t) 1 JoinTree.zero) (l := levels - 1) (by omega) (by omega)
       have c := gSize_b hpre.1.1 (bits .or .i64 (((measure_r fuel) (List.getD (JoinTree.Kids t) 0 JoinTree.zero) g (levels - 1)).1) (((measure_r fuel) (List.getD (JoinTree.Kids t) 1 JoinTree.zero) g (levels - 1)).1))
       omega
      ·
       have a := measure_in hpre.1.1 fuel (List.getD (JoinTree.Kids t) 0 JoinTree.zero) (l := levels - 1) (by omega) (by omega)
       have b := measure_in hpre.1.1 fuel (List.getD (JoinTree.Kids t) 1 JoinTree.zero) (l := levels - 1) (by omega) (by omega)
       have c := gSize_b hpre.1.1 (bits .or .i64 (((measure_r fuel) (List.getD (JoinTree.Kids t) 0 JoinTree.zero) g (levels - 1)).1) (((measure_r fuel) (List.getD (JoinTree.Kids t) 1 JoinTree.zero) g (levels - 1)).1))
       omega
     exact AW.ret (AW.retE (β := Int × Int) (fun v => [⟨(.int .i64), v.1⟩, ⟨(.int .i64), v.2⟩]) (fun v => []) (v := ((bits .or .i64 (((measure_r fuel) (List.getD (JoinTree.Kids t) 0 JoinTree.zero) g (levels - 1)).1) (((measure_r fuel) (List.getD (JoinTree.Kids t) 1 JoinTree.zero) g (levels - 1)).1)), (((gSize g (bits .or .i64 (((measure_r fuel) (List.getD (JoinTree.Kids t) 0 JoinTree.zero) g (levels - 1)).1) (((measure_r fuel) (List.getD (JoinTree.Kids t) 1 JoinTree.zero) g (levels - 1)).1))) + (((measure_r fuel) (List.getD (JoinTree.Kids t) 0 JoinTree.zero) g (levels - 1)).2)) + (((measure_r fuel) (List.getD (JoinTree.Kids t) 1 JoinTree.zero) g (levels - 1)).2)))) e42 (by kernel_rfl) rfl rfl)

theorem measure_fu : AllTV (measure_sp.ps.map PK.ty) (fun tvs => measure_sp.pre tvs → ∃ k, (measure_spn k).pre tvs ∧ (measure_spn k).fn tvs = measure_sp.fn tvs ∧ (measure_spn k).bx tvs = measure_sp.bx tvs) :=
 (fun (t : JoinTree) (g : Graph) (levels : Int) h => ⟨SizeOf.sizeOf t + 1, (show (VG g ∧ (0 ≤ levels ∧ levels ≤ 5)) ∧ SizeOf.sizeOf t < SizeOf.sizeOf t + 1 from ⟨h, Nat.lt_succ_self _⟩), (show (measure_spn (SizeOf.sizeOf t + 1)).fn [⟨(.named 3), (t : JoinTree)⟩, ⟨(.named 1), (g : Graph)⟩, ⟨(.int .i64), (levels : Int)⟩] = ([⟨(.int .i64), ((measure_r (SizeOf.sizeOf t + 1) t g levels).1)⟩, ⟨(.int .i64), ((measure_r (SizeOf.sizeOf t + 1) t g levels).2)⟩] : List TV) from by kernel_rfl).trans (show ([⟨(.int .i64), ((measure_r (SizeOf.sizeOf t + 1) t g levels).1)⟩, ⟨(.int .i64), ((measure_r (SizeOf.sizeOf t + 1) t g levels).2)⟩] : List TV) = measure_sp.fn [⟨(.named 3), (t : JoinTree)⟩, ⟨(.named 1), (g : Graph)⟩, ⟨(.int .i64), (levels : Int)⟩] from by kernel_rfl), by kernel_rfl⟩)

theorem measure_ok : FnOK Try.prog 67 measure_sp := FnOK.of_fuel measure_okn (fun _ => rfl) (fun _ => rfl) (AllTV.get measure_fu)

def iTreeCost (g : Graph) (t : JoinTree) : Int := (bif (!(ValidGraph g)) then (-1) else (bif (((measure (JoinTree.mk (JoinTree.Leaf t) (JoinTree.Kids t)) g 5).1) == 0) then (-1) else ((measure (JoinTree.mk (JoinTree.Leaf t) (JoinTree.Kids t)) g 5).2)))

def iTreeCost_sp : FnSpec := mkSpec [.val (.named 1), .val (.named 3)] [.val (.int .i64)] (fun (g : Graph) (t : JoinTree) => True) (fun (g : Graph) (t : JoinTree) => [⟨(.int .i64), (iTreeCost g t)⟩])

theorem iTreeCost_ok : FnOK Try.prog 32 iTreeCost_sp := by
 have hC : CtxOK Try.prog (mkCtx tyL [(52, ValidGraph_sp), (67, measure_sp)]) := CtxOK.cons ValidGraph_ok (CtxOK.cons measure_ok (CtxOK.nil tyOK))
 refine FnOK.of_body Try.func32 (by kernel_rfl) rfl (C := (mkCtx tyL [(52, ValidGraph_sp), (67, measure_sp)])) hC.ty (by kernel_rfl) ?_
 intro (g : Graph) (t : JoinTree) hwf hpre E
 have hpre : True := hpre
 have hw_g : Wf ⟨(.named 1), (g : Graph)⟩ := hwf _ (List.Mem.head _)
 have hl_g_Rows : ((List.length (Graph.Rows g) : Nat) : Int) ≤ 9223372036854775807 := (hw_g.field (tv := ⟨(.slice (.int .i64)), Graph.Rows g⟩) (List.Mem.head _)).len
 have hl_g_Edges : ((List.length (Graph.Edges g) : Nat) : Int) ≤ 9223372036854775807 := (hw_g.field (tv := ⟨(.slice (.named 0)), Graph.Edges g⟩) (List.Mem.tail _ (List.Mem.head _))).len
 have hw_t : Wf ⟨(.named 3), (t : JoinTree)⟩ := hwf _ (List.Mem.tail _ (List.Mem.head _))
 have hr_t_Leaf : -9223372036854775808 ≤ JoinTree.Leaf t ∧ JoinTree.Leaf t ≤ 9223372036854775807 := (hw_t.field (tv := ⟨(.int .i64), JoinTree.Leaf t⟩) (List.Mem.head _)).int_inv
 have hl_t_Kids : ((List.length (JoinTree.Kids t) : Nat) : Int) ≤ 9223372036854775807 := (hw_t.field (tv := ⟨(.slice (.named 3)), JoinTree.Kids t⟩) (List.Mem.tail _ (List.Mem.head _))).len
 have e0 : iTreeCost g t = iTreeCost g t := rfl
 refine AW.seq (AW.r1 hC [2, 3] [8, 12] ⟨[(2, .ref 8 1 0), (3, .ref 12 1 0)], [(8, .box 1 [.data (.slice (.int .i64)) ((Graph.Rows g) : List Int), .data (.slice (.named 0)) ((Graph.Edges g) : List Edge)]), (12, .box 1 [.int .i64 (JoinTree.Leaf t), .data (.slice (.named 3)) ((JoinTree.Kids t) : List JoinTree)])]⟩ ?_)
 refine AW.seq (AW.seq (AW.r0U hC [2, 3, 9] [8, 12] [(9, .bool (!(ValidGraph g)))] [] [(True)] ?_ ?_))
 ·
  refine ⟨?_, trivial⟩
  ·
   trivial
 refine AW.cd (!(ValidGraph g)) ?_ ?_
 ·
  intro h1
  have h1q : (ValidGraph g) = false := (Go.Am.not_pos h1)
  have e2 := e0.trans (Go.Am.bif_t h1)
  refine AW.seq (AW.r1 hC [4] [] ⟨[(4, .int .i64 (-1))], []⟩ ?_)
  exact AW.ret (AW.retE (β := Int) (fun v => [⟨(.int .i64), v⟩]) (fun v => []) (v := (-1)) e2 (by kernel_rfl) rfl rfl)
 ·
  intro h3
  have h3q : (ValidGraph g) = true := (Go.Am.not_neg h3)
  have e4 := e0.trans (Go.Am.bif_f h3)
  refine AW.kpU [2, 3] [8, 12] [] [] ?_
  refine AW.skip (AW.seq (AW.r0 hC [5, 6] [] ⟨[(5, .int .i64 ((measure (JoinTree.mk (JoinTree.Leaf t) (JoinTree.Kids t)) g 5).1)), (6, .int .i64 ((measure (JoinTree.mk (JoinTree.Leaf t) (JoinTree.Kids t)) g 5).2))], []⟩ [(VG g ∧ (0 ≤ (5 : Int) ∧ (5 : Int) ≤ 5))] ?_ ?_))
  ·
   refine ⟨?_, trivial⟩
   ·
    exact ⟨ValidGraph_iff.1 h3q, by decide, by decide⟩
  refine AW.seq (AW.seq (AW.r1U hC [6, 15] [] [(15, .bool (((measure (JoinTree.mk (JoinTree.Leaf t) (JoinTree.Kids t)) g 5).1) == 0))] [] ?_))
  refine AW.cd (((measure (JoinTree.mk (JoinTree.Leaf t) (JoinTree.Kids t)) g 5).1) == 0) ?_ ?_
  ·
   intro h5
   have h5q : ((measure (JoinTree.mk (JoinTree.Leaf t) (JoinTree.Kids t)) g 5).1) = 0 := (Go.Am.beq_pos h5)
   have e6 := e4.trans (Go.Am.bif_t h5)
   refine AW.seq (AW.r1 hC [4] [] ⟨[(4, .int .i64 (-1))], []⟩ ?_)
   exact AW.ret (AW.retE (β := Int) (fun v => [⟨(.int .i64), v⟩]) (fun v => []) (v := (-1)) e6 (by kernel_rfl) rfl rfl)
  ·
   intro h7
   have h7q : ((measure (JoinTree.mk (JoinTree.Leaf t) (JoinTree.Kids t)) g 5).1) ≠ 0 := (Go.Am.beq_neg h7)
   have e8 := e4.trans (Go.Am.bif_f h7)
   refine AW.kpU [6] [] [] [] ?_
   refine AW.skip (AW.seq (AW.r1 hC [4] [] ⟨[(4, .int .i64 ((measure (JoinTree.mk (JoinTree.Leaf t) (JoinTree.Kids t)) g 5).2))], []⟩ ?_))
   exact AW.ret (AW.retE (β := Int) (fun v => [⟨(.int .i64), v⟩]) (fun v => []) (v := ((measure (JoinTree.mk (JoinTree.Leaf t) (JoinTree.Kids t)) g 5).2)) e8 (by kernel_rfl) rfl rfl)

def treeMask_r : Nat → JoinTree → Int → Int
 | 0, t, n => 0
 | fuel + 1, t, n => (bif (((List.length (JoinTree.Kids t) : Nat) : Int) == 0) then (bif (inRange (JoinTree.Leaf t) 0 (n - 1)) then ((1 : Int) * 2 ^ (Int.toNat (JoinTree.Leaf t))) else 0) else (bif (bif (((List.length (JoinTree.Kids t) : Nat) : Int) != 2) then true else ((JoinTree.Leaf t) != 0)) then 0 else (bif (bif (bif (((treeMask_r fuel) (List.getD (JoinTree.Kids t) 0 JoinTree.zero) n) == 0) then true else (((treeMask_r fuel) (List.getD (JoinTree.Kids t) 1 JoinTree.zero) n) == 0)) then true else ((bits .and .i64 ((treeMask_r fuel) (List.getD (JoinTree.Kids t) 0 JoinTree.zero) n) ((treeMask_r fuel) (List.getD (JoinTree.Kids t) 1 JoinTree.zero) n)) != 0)) then 0 else (bits .or .i64 ((treeMask_r fuel) (List.getD (JoinTree.Kids t) 0 JoinTree.zero) n) ((treeMask_r fuel) (List.getD (JoinTree.Kids t) 1 JoinTree.zero) n)))))

def treeMask (t : JoinTree) (n : Int) : Int := treeMask_r (SizeOf.sizeOf t + 1) t n

def treeMask_spn (fuel : Nat) : FnSpec := mkSpec [.val (.named 3), .val (.int .i64)] [.val (.int .i64)] (fun (t : JoinTree) (n : Int) => (0 ≤ n ∧ n ≤ 5) ∧ SizeOf.sizeOf t < fuel) (fun (t : JoinTree) (n : Int) => [⟨(.int .i64), (treeMask_r fuel t n)⟩])

def treeMask_sp : FnSpec := mkSpec [.val (.named 3), .val (.int .i64)] [.val (.int .i64)] (fun (t : JoinTree) (n : Int) => 0 ≤ n ∧ n ≤ 5) (fun (t : JoinTree) (n : Int) => [⟨(.int .i64), (treeMask t n)⟩])

theorem treeMask_okn (fuel : Nat) : FnOK Try.prog 68 (treeMask_spn fuel) := by
 induction fuel with
 | zero => exact FnOK.never Try.func68 (by kernel_rfl) rfl (fun _ _ h => absurd h.2 (Nat.not_lt_zero _))
 | succ fuel ih => ?_
 have hC : CtxOK Try.prog (mkCtx tyL [(56, inRange_sp), (68, (treeMask_spn fuel))]) := CtxOK.cons inRange_ok (CtxOK.cons ih (CtxOK.nil tyOK))
 refine FnOK.of_body Try.func68 (by kernel_rfl) rfl (C := (mkCtx tyL [(56, inRange_sp), (68, (treeMask_spn fuel))])) hC.ty (by kernel_rfl) ?_
 intro (t : JoinTree) (n : Int) hwf hpre E
 have hpre : (0 ≤ n ∧ n ≤ 5) ∧ SizeOf.sizeOf t < fuel + 1 := hpre
 have hw_t : Wf ⟨(.named 3), (t : JoinTree)⟩ := hwf _ (List.Mem.head _)
 have hr_t_Leaf : -9223372036854775808 ≤ JoinTree.Leaf t ∧ JoinTree.Leaf t ≤ 9223372036854775807 := (hw_t.field (tv := ⟨(.int .i64), JoinTree.Leaf t⟩) (List.Mem.head _)).int_inv
 have hl_t_Kids : ((List.length (JoinTree.Kids t) : Nat) : Int) ≤ 9223372036854775807 := (hw_t.field (tv := ⟨(.slice (.named 3)), JoinTree.Kids t⟩) (List.Mem.tail _ (List.Mem.head _))).len
 have hw_n : Wf ⟨(.int .i64), (n : Int)⟩ := hwf _ (List.Mem.tail _ (List.Mem.head _))
 have hr_n : -9223372036854775808 ≤ n ∧ n ≤ 9223372036854775807 := hw_n.int_inv
 have e0 : treeMask_r (fuel + 1) t n = treeMask_r (fuel + 1) t n := rfl
 refine AW.seq (AW.r1U hC [1, 2] [8] [(2, .ref 8 1 0)] [(8, .box 1 [.int .i64 (JoinTree.Leaf t), .data (.slice (.named 3)) ((JoinTree.Kids t) : List JoinTree)])] ?_)
 refine AW.seq (AW.seq (AW.r1U hC [1, 2, 10] [8] [(10, .bool (((List.length (JoinTree.Kids t) : Nat) : Int) == 0))] [] ?_))
 refine AW.cd (((List.length (JoinTree.Kids t) : Nat) : Int) == 0) ?_ ?_
 ·
  intro h1
  have h1q : ((List.length (JoinTree.Kids t) : Nat) : Int) = 0 := (Go.Am.beq_pos h1)
  have e2 := e0.trans (Go.Am.bif_t h1)
  refine AW.seq (AW.seq (AW.r0U hC [2, 15] [8] [(15, .bool (inRange (JoinTree.Leaf t) 0 (n - 1)))] [] [(-9223372036854775808 ≤ (n - 1) ∧ (n - 1) ≤ 9223372036854775807), (True)] ?_ ?_))
  ·
   refine ⟨?_, ?_, trivial⟩
   ·
    omega
   ·
    trivial
  refine AW.cd (inRange (JoinTree.Leaf t) 0 (n - 1)) ?_ ?_
  ·
   intro h3
   have h3q : (inRange (JoinTree.Leaf t) 0 (n - 1)) = true := h3
   have e4 := e2.trans (Go.Am.bif_t h3)
   refine AW.seq (AW.r0 hC [4] [] ⟨[(4, .int .i64 ((1 : Int) * 2 ^ (Int.toNat (JoinTree.Leaf t))))], []⟩ [(0 ≤ (JoinTree.Leaf t) ∧ (JoinTree.Leaf t) ≤ 64), (-9223372036854775808 ≤ ((1 : Int) * 2 ^ (Int.toNat (JoinTree.Leaf t))) ∧ ((1 : Int) * 2 ^ (Int.toNat (JoinTree.Leaf t))) ≤ 9223372036854775807)] ?_ ?_)
   ·
    refine ⟨?_, ?_, trivial⟩
    ·
     have h := inRange_iff.1 h3q
     omega
    ·
     have h := inRange_iff.1 h3q
     have := lt32 (a := JoinTree.Leaf t) (by omega) (by omega)
     omega
   exact AW.ret (AW.retE (β := Int) (fun v => [⟨(.int .i64), v⟩]) (fun v => []) (v := ((1 : Int) * 2 ^ (Int.toNat (JoinTree.Leaf t)))) e4 (by kernel_rfl) rfl rfl)
  ·
   intro h5
   have h5q : (inRange (JoinTree.Leaf t) 0 (n - 1)) = false := h5
   have e6 := e2.trans (Go.Am.bif_f h5)
   refine AW.kp [] [] ⟨[], []⟩ ?_
   refine AW.skip (AW.seq (AW.r1 hC [4] [] ⟨[(4, .int .i64 0)], []⟩ ?_))
   exact AW.ret (AW.retE (β := Int) (fun v => [⟨(.int .i64), v⟩]) (fun v => []) (v := 0) e6 (by kernel_rfl) rfl rfl)
 ·
  intro h7
  have h7q : ((List.length (JoinTree.Kids t) : Nat) : Int) ≠ 0 := (Go.Am.beq_neg h7)
  have e8 := e0.trans (Go.Am.bif_f h7)
  refine AW.kpU [1, 2] [8] [] [] ?_
  refine AW.skip (AW.seq (AW.seq (AW.r0U hC [1, 2, 27] [8] [(27, .bool (bif (((List.length (JoinTree.Kids t) : Nat) : Int) != 2) then true else ((JoinTree.Leaf t) != 0)))] [] [(((((List.length (JoinTree.Kids t) : Nat) : Int) != 2) = false) → (((((List.length (JoinTree.Kids t) : Nat) : Int) != 2) = false))), (((((List.length (JoinTree.Kids t) : Nat) : Int) != 2) = false) → (((((List.length (JoinTree.Kids t) : Nat) : Int) != 2) = false))), (((((List.length (JoinTree.Kids t) : Nat) : Int) != 2) = false) → (((((List.length (JoinTree.Kids t) : Nat) : Int) != 2) = false)))] ?_ ?_)))
  ·
   refine ⟨?_, ?_, ?_, trivial⟩
   ·
    intro g9
    have g9p0 : ((List.length (JoinTree.Kids t) : Nat) : Int) = 2 := (Go.Am.bne_neg g9)
    assumption
   ·
    intro g10
    have g10p0 : ((List.length (JoinTree.Kids t) : Nat) : Int) = 2 := (Go.Am.bne_neg g10)
    assumption
   ·
    intro g11
    have g11p0 : ((List.length (JoinTree.Kids t) : Nat) : Int) = 2 := (Go.Am.bne_neg g11)
    assumption
  refine AW.cd (bif (((List.length (JoinTree.Kids t) : Nat) : Int) != 2) then true else ((JoinTree.Leaf t) != 0)) ?_ ?_
  ·
   intro h12
   have h12q : (((List.length (JoinTree.Kids t) : Nat) : Int) ≠ 2) ∨ ((JoinTree.Leaf t) ≠ 0) := (Or.imp (fun h => (Go.Am.bne_pos h)) (fun h => (Go.Am.bne_pos h)) (Go.Am.or_pos h12))
   have e13 := e8.trans (Go.Am.bif_t h12)
   refine AW.seq (AW.r1 hC [4] [] ⟨[(4, .int .i64 0)], []⟩ ?_)
   exact AW.ret (AW.retE (β := Int) (fun v => [⟨(.int .i64), v⟩]) (fun v => []) (v := 0) e13 (by kernel_rfl) rfl rfl)
  ·
   intro h14
   have h14q : (((List.length (JoinTree.Kids t) : Nat) : Int) = 2) ∧ ((JoinTree.Leaf t) = 0) := (And.imp (fun h => (Go.Am.bne_neg h)) (fun h => (Go.Am.bne_neg h)) (Go.Am.or_neg h14))
   have e15 := e8.trans (Go.Am.bif_f h14)
   refine AW.kpU [1, 2] [8] [] [] ?_
   refine AW.skip (AW.seq (AW.r0U hC [1, 2, 5] [8] [(5, .int .i64 ((treeMask_r fuel) (List.getD (JoinTree.Kids t) 0 JoinTree.zero) n))] [] [(0 ≤ (0 : Int) ∧ (0 : Int) < ((List.length (JoinTree.Kids t) : Nat) : Int)), ((0 ≤ n ∧ n ≤ 5) ∧ SizeOf.sizeOf (List.getD (JoinTree.Kids t) 0 JoinTree.zero) < fuel)] ?_ ?_))
   ·
    refine ⟨?_, ?_, trivial⟩
    ·
     omega
    ·
     exact ⟨hpre.1, Nat.lt_of_lt_of_le (kid_lt (by omega)) (Nat.le_of_lt_succ hpre.2)⟩
   refine AW.seq (AW.r0U hC [5, 6] [] [(6, .int .i64 ((treeMask_r fuel) (List.getD (JoinTree.Kids t) 1 JoinTree.zero) n))] [] [(0 ≤ (1 : Int) ∧ (1 : Int) < ((List.length (JoinTree.Kids t) : Nat) : Int)), ((0 ≤ n ∧ n ≤ 5) ∧ SizeOf.sizeOf (List.getD (JoinTree.Kids t) 1 JoinTree.zero) < fuel)] ?_ ?_)
   ·
    refine ⟨?_, ?_, trivial⟩
    ·
     omega
    ·
     exact ⟨hpre.1, Nat.lt_of_lt_of_le (kid_lt (by omega)) (Nat.le_of_lt_succ hpre.2)⟩
   refine AW.seq (AW.seq (AW.r0U hC [5, 6, 51] [] [(51, .bool (bif (bif (((treeMask_r fuel) (List.getD (JoinTree.Kids t) 0 JoinTree.zero) n) == 0) then true else (((treeMask_r fuel) (List.getD (JoinTree.Kids t) 1 JoinTree.zero) n) == 0)) then true else ((bits .and .i64 ((treeMask_r fuel) (List.getD (JoinTree.Kids t) 0 JoinTree.zero) n) ((treeMask_r fuel) (List.getD (JoinTree.Kids t) 1 JoinTree.zero) n)) != 0)))] [] [(((((treeMask_r fuel) (List.getD (JoinTree.Kids t) 0 JoinTree.zero) n) == 0) = false) → (((((treeMask_r fuel) (List.getD (JoinTree.Kids t) 0 JoinTree.zero) n) == 0) = false))), (((((treeMask_r fuel) (List.getD (JoinTree.Kids t) 0 JoinTree.zero) n) == 0) = false) → (((((treeMask_r fuel) (List.getD (JoinTree.Kids t) 0 JoinTree.zero) n) == 0) = false))), (((bif (((treeMask_r fuel) (List.getD (JoinTree.Kids t) 0 JoinTree.zero) n) == 0) then true else (((treeMask_r fuel) (List.getD (JoinTree.Kids t) 1 JoinTree.zero) n) == 0)) = false) → (((bif (((treeMask_r fuel) (List.getD (JoinTree.Kids t) 0 JoinTree.zero) n) == 0) then true else (((treeMask_r fuel) (List.getD (JoinTree.Kids t) 1 JoinTree.zero) n) == 0)) = false))), (((bif (((treeMask_r fuel) (List.getD (JoinTree.Kids t) 0 JoinTree.zero) n) == 0) then true else (((treeMask_r fuel) (List.getD (JoinTree.Kids t) 1 JoinTree.zero) n) == 0)) = false) → (((bif (((treeMask_r fuel) (List.getD (JoinTree.Kids t) 0 JoinTree.zero) n) == 0) then true else (((treeMask_r fuel) (List.getD (JoinTree.Kids t) 1 JoinTree.zero) n) == 0)) = false))), (((bif (((treeMask_r fuel) (List.getD (JoinTree.Kids t) 0 JoinTree.zero) n) == 0) then true else (((treeMask_r fuel) (List.getD (JoinTree.Kids t) 1 JoinTree.zero) n) == 0)) = false) → (((bif (((treeMask_r fuel) (List.getD (JoinTree.Kids t) 0 JoinTree.zero) n) == 0) then true else (((treeMask_r fuel) (List.getD (JoinTree.Kids t) 1 JoinTree.zero) n) == 0)) = false))), (((bif (((treeMask_r fuel) (List.getD (JoinTree.Kids t) 0 JoinTree.zero) n) == 0) then true else (((treeMask_r fuel) (List.getD (JoinTree.Kids t) 1 JoinTree.zero) n) == 0)) = false) → (((bif (((treeMask_r fuel) (List.getD (JoinTree.Kids t) 0 JoinTree.zero) n) == 0) then true else (((treeMask_r fuel) (List.getD (JoinTree.Kids t) 1 JoinTree.zero) n) == 0)) = false)))] ?_ ?_))
   ·
    refine ⟨?_, ?_, ?_, ?_, ?_, ?_, trivial⟩
    ·
     intro g16
     have g16p0 : ((treeMask_r fuel) (List.getD (JoinTree.Kids t) 0 JoinTree.zero) n) ≠ 0 := (Go.Am.beq_neg g16)
     assumption
    ·
     intro g17
     have g17p0 : ((treeMask_r fuel) (List.getD (JoinTree.Kids t) 0 JoinTree.zero) n) ≠ 0 := (Go.Am.beq_neg g17)
     assumption
    ·
     intro g18
     have g18p0 : (((treeMask_r fuel) (List.getD (JoinTree.Kids t) 0 JoinTree.zero) n) ≠ 0) ∧ (((treeMask_r fuel) (List.getD (JoinTree.Kids t) 1 JoinTree.zero) n) ≠ 0) := (And.imp (fun h => (Go.Am.beq_neg h)) (fun h => (Go.Am.beq_neg h)) (Go.Am.or_neg g18))
     assumption
    ·
     intro g19
     have g19p0 : (((treeMask_r fuel) (List.getD (JoinTree.Kids t) 0 JoinTree.zero) n) ≠ 0) ∧ (((treeMask_r fuel) (List.getD (JoinTree.Kids t) 1 JoinTree.zero) n) ≠ 0) := (And.imp (fun h => (Go.Am.beq_neg h)) (fun h => (Go.Am.beq_neg h)) (Go.Am.or_neg g19))
     assumption
    ·
     intro g20
     have g20p0 : (((treeMask_r fuel) (List.getD (JoinTree.Kids t) 0 JoinTree.zero) n) ≠ 0) ∧ (((treeMask_r fuel) (List.getD (JoinTree.Kids t) 1 JoinTree.zero) n) ≠ 0) := (And.imp (fun h => (Go.Am.beq_neg h)) (fun h => (Go.Am.beq_neg h)) (Go.Am.or_neg g20))
     assumption
    ·
     intro g21
     have g21p0 : (((treeMask_r fuel) (List.getD (JoinTree.Kids t) 0 JoinTree.zero) n) ≠ 0) ∧ (((treeMask_r fuel) (List.getD (JoinTree.Kids t) 1 JoinTree.zero) n) ≠ 0) := (And.imp (fun h => (Go.Am.beq_neg h)) (fun h => (Go.Am.beq_neg h)) (Go.Am.or_neg g21))
     assumption
   refine AW.cd (bif (bif (((treeMask_r fuel) (List.getD (JoinTree.Kids t) 0 JoinTree.zero) n) == 0) then true else (((treeMask_r fuel) (List.getD (JoinTree.Kids t) 1 JoinTree.zero) n) == 0)) then true else ((bits .and .i64 ((treeMask_r fuel) (List.getD (JoinTree.Kids t) 0 JoinTree.zero) n) ((treeMask_r fuel) (List.getD (JoinTree.Kids t) 1 JoinTree.zero) n)) != 0)) ?_ ?_
   ·
    intro h22
    have h22q : ((((treeMask_r fuel) (List.getD (JoinTree.Kids t) 0 JoinTree.zero) n) = 0) ∨ (((treeMask_r fuel) (List.getD (JoinTree.Kids t) 1 JoinTree.zero) n) = 0)) ∨ ((bits .and .i64 ((treeMask_r fuel) (List.getD (JoinTree.Kids t) 0 JoinTree.zero) n) ((treeMask_r fuel) (List.getD (JoinTree.Kids t) 1 JoinTree.zero) n)) ≠ 0) := (Or.imp (fun h => (Or.imp (fun h => (Go.Am.beq_pos h)) (fun h => (Go.Am.beq_pos h)) (Go.Am.or_pos h))) (fun h => (Go.Am.bne_pos h)) (Go.Am.or_pos h22))
    have e23 := e15.trans (Go.Am.bif_t h22)
    refine AW.seq (AW.r1 hC [4] [] ⟨[(4, .int .i64 0)], []⟩ ?_)
    exact AW.ret (AW.retE (β := Int) (fun v => [⟨(.int .i64), v⟩]) (fun v => []) (v := 0) e23 (by kernel_rfl) rfl rfl)
   ·
    intro h24
    have h24q : ((((treeMask_r fuel) (List.getD (JoinTree.Kids t) 0 JoinTree.zero) n) ≠ 0) ∧ (((treeMask_r fuel) (List.getD (JoinTree.Kids t) 1 JoinTree.zero) n) ≠ 0)) ∧ ((bits .and .i64 ((treeMask_r fuel) (List.getD (JoinTree.Kids t) 0 JoinTree.zero) n) ((treeMask_r fuel) (List.getD (JoinTree.Kids t) 1 JoinTree.zero) n)) = 0) := (And.imp (fun h => (And.imp (fun h => (Go.Am.beq_neg h)) (fun h => (Go.Am.beq_neg h)) (Go.Am.or_neg h))) (fun h => (Go.Am.bne_neg h)) (Go.Am.or_neg h24))
    have e25 := e15.trans (Go.Am.bif_f h24)
    refine AW.kpU [5, 6] [] [] [] ?_
    refine AW.skip (AW.seq (AW.r1 hC [4] [] ⟨[(4, .int .i64 (bits .or .i64 ((treeMask_r fuel) (List.getD (JoinTree.Kids t) 0 JoinTree.zero) n) ((treeMask_r fuel) (List.getD (JoinTree.Kids t) 1 JoinTree.zero) n)))], []⟩ ?_))
    exact AW.ret (AW.retE (β := Int) (fun v => [⟨(.int .i64), v⟩]) (fun v => []) (v := (bits .or .i64 ((treeMask_r fuel) (List.getD (JoinTree.Kids t) 0 JoinTree.zero) n) ((treeMask_r fuel) (List.getD (JoinTree.Kids t) 1 JoinTree.zero) n))) e25 (by kernel_rfl) rfl rfl)

theorem treeMask_fu : AllTV (treeMask_sp.ps.map PK.ty) (fun tvs => treeMask_sp.pre tvs → ∃ k, (treeMask_spn k).pre tvs ∧ (treeMask_spn k).fn tvs = treeMask_sp.fn tvs ∧ (treeMask_spn k).bx tvs = treeMask_sp.bx tvs) :=
 (fun (t : JoinTree) (n : Int) h => ⟨SizeOf.sizeOf t + 1, (show (0 ≤ n ∧ n ≤ 5) ∧ SizeOf.sizeOf t < SizeOf.sizeOf t + 1 from ⟨h, Nat.lt_succ_self _⟩), (show (treeMask_spn (SizeOf.sizeOf t + 1)).fn [⟨(.named 3), (t : JoinTree)⟩, ⟨(.int .i64), (n : Int)⟩] = ([⟨(.int .i64), (treeMask_r (SizeOf.sizeOf t + 1) t n)⟩] : List TV) from by kernel_rfl).trans (show ([⟨(.int .i64), (treeMask_r (SizeOf.sizeOf t + 1) t n)⟩] : List TV) = treeMask_sp.fn [⟨(.named 3), (t : JoinTree)⟩, ⟨(.int .i64), (n : Int)⟩] from by kernel_rfl), by kernel_rfl⟩)

theorem treeMask_ok : FnOK Try.prog 68 treeMask_sp := FnOK.of_fuel treeMask_okn (fun _ => rfl) (fun _ => rfl) (AllTV.get treeMask_fu)

end
end Go.Proofs.Ytgbapklfgjnggaa
