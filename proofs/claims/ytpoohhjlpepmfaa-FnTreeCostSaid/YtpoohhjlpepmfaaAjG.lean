/-
  A part of the proof of this claim (AjG): what functions of the program compute, and plain facts of that. No conditions.
-/
import Derived.Test.YtpoohhjlpepmfaaAj8
import Derived.Test.YtpoohhjlpepmfaaAnF
set_option linter.all false
namespace Go.Proofs.Ytpoohhjlpepmfaa
open Go Go.Am
noncomputable section

def shuffled_l0 (r : Rdr) (n : Int) : Nat → Nat → Int → (List Int) → Int × (List Int)
 | 0, i, r1, out => (r1, out)
 | k + 1, i, r1, out => (bif (decide (((i : Nat) : Int) < n)) then (shuffled_l0 r n k (i + 1) (r1 + 1) (((([] : List Int) ++ (List.take (Int.toNat (pick (Rdr.b r) r1 (((List.length out) + 1 : Nat) : Int))) (List.drop 0 out))) ++ ([((i : Nat) : Int)] : List Int)) ++ (List.take (List.length out - (Int.toNat (pick (Rdr.b r) r1 (((List.length out) + 1 : Nat) : Int)))) (List.drop (Int.toNat (pick (Rdr.b r) r1 (((List.length out) + 1 : Nat) : Int))) out)))) else (r1, out))

def shuffled (r : Rdr) (n : Int) : (List Int) × Rdr := (Go.Am.andThen (shuffled_l0 r n (Int.toNat (n - ((0 : Nat) : Int)) + 1) 0 (Rdr.p r) ([] : List Int)) (fun z => (fun (r1 : Int) (out : List Int) => (out, (Rdr.mk (Rdr.b r) r1))) z.1 z.2))

def shuffled_sp : FnSpec := mkSpecB [.box 2, .val (.int .i64)] [.own (.int .i64)] (fun (r : Rdr) (n : Int) => (0 ≤ r.p ∧ r.p ≤ 1000000000000) ∧ n ≤ 1000) (fun (r : Rdr) (n : Int) => [⟨(.slice (.int .i64)), ((shuffled r n).1)⟩]) (fun (r : Rdr) (n : Int) => [⟨(.named 2), ((shuffled r n).2)⟩])

theorem shuffled_ok : FnOK Try.prog 73 shuffled_sp := by
 have hC : CtxOK Try.prog (mkCtx tyL [(51, pickS)]) := CtxOK.cons pickS_ok (CtxOK.nil tyOK)
 refine FnOK.of_body Try.func73 (by kernel_rfl) rfl (C := (mkCtx tyL [(51, pickS)])) hC.ty (by kernel_rfl) ?_
 intro (r : Rdr) (n : Int) hwf hpre E
 have hpre : (0 ≤ r.p ∧ r.p ≤ 1000000000000) ∧ n ≤ 1000 := hpre
 have hw_r : Wf ⟨(.named 2), (r : Rdr)⟩ := hwf _ (List.Mem.head _)
 have hl_r_b : ((List.length (Rdr.b r) : Nat) : Int) ≤ 9223372036854775807 := (hw_r.field (tv := ⟨(.slice (.int .u8)), Rdr.b r⟩) (List.Mem.head _)).len
 have hr_r_p : -9223372036854775808 ≤ Rdr.p r ∧ Rdr.p r ≤ 9223372036854775807 := (hw_r.field (tv := ⟨(.int .i64), Rdr.p r⟩) (List.Mem.tail _ (List.Mem.head _))).int_inv
 have hw_n : Wf ⟨(.int .i64), (n : Int)⟩ := hwf _ (List.Mem.tail _ (List.Mem.head _))
 have hr_n : -9223372036854775808 ≤ n ∧ n ≤ 9223372036854775807 := hw_n.int_inv
 have e0 : shuffled r n = shuffled r n := rfl
 refine AW.seq (AW.r1 hC [0, 1] [0] ⟨[(0, .ref 0 0 0), (1, .int .i64 n)], [(0, .box 0 [.data (.slice (.int .u8)) ((Rdr.b r) : List Int), .int .i64 (Rdr.p r)])]⟩ ?_)
 refine AW.seq (AW.r1 hC [0, 1, 5] [0, 36] ⟨[(0, .ref 0 0 0), (1, .int .i64 n), (5, .arr 36 1)], [(0, .box 0 [.data (.slice (.int .u8)) ((Rdr.b r) : List Int), .int .i64 (Rdr.p r)]), (36, .arr 1 (.int .i64) (([] : List Int) : List Int))]⟩ ?_)
 refine AW.seq (AW.seq (AW.r1 hC [0, 1, 5, 6] [0, 36] ⟨[(0, .ref 0 0 0), (1, .int .i64 n), (5, .arr 36 1), (6, .int .i64 0)], [(0, .box 0 [.data (.slice (.int .u8)) ((Rdr.b r) : List Int), .int .i64 (Rdr.p r)]), (36, .arr 1 (.int .i64) (([] : List Int) : List Int))]⟩ ?_))
 refine AW.cutQ (α := Int × (List Int)) (fun x => ⟨[(5, .arr 36 1)], [(0, .box 0 [.data (.slice (.int .u8)) ((Rdr.b r) : List Int), .int .i64 x.1]), (36, .arr 1 (.int .i64) (x.2 : List Int))]⟩) (fun x => ((0 ≤ x.1 ∧ x.1 ≤ r.p + 1000) ∧ (List.length x.2 ≤ 1000)) ∧ (shuffled_l0 r n (Int.toNat (n - ((0 : Nat) : Int)) + 1) 0 (Rdr.p r) ([] : List Int)) = x) ?_ ?_
 ·
  skip
  refine AW.block (AW.loopR (α := Nat × Int × (List Int)) (fun x => ⟨[(0, .ref 0 0 0), (1, .int .i64 n), (5, .arr 36 1), (6, .int .i64 ((x.1 : Nat) : Int))], [(0, .box 0 [.data (.slice (.int .u8)) ((Rdr.b r) : List Int), .int .i64 x.2.1]), (36, .arr 1 (.int .i64) (x.2.2 : List Int))]⟩) (fun x => ((0 ≤ x.2.1 ∧ x.2.1 ≤ r.p + (x.1 : Int)) ∧ (List.length x.2.2 = x.1 ∧ x.1 ≤ 1000)) ∧ ∃ k, Int.toNat (n - ((x.1 : Nat) : Int)) < k ∧ (shuffled_l0 r n (Int.toNat (n - ((0 : Nat) : Int)) + 1) 0 (Rdr.p r) ([] : List Int)) = shuffled_l0 r n k x.1 x.2.1 x.2.2) (fun x => Int.toNat (n - ((x.1 : Nat) : Int))) (0, (Rdr.p r), ([] : List Int)) (by kernel_rfl) ⟨?_, _, Nat.lt_succ_self _, rfl⟩ ?_)
  ·
   show (0 ≤ (Rdr.p r) ∧ (Rdr.p r) ≤ r.p + (0 : Int)) ∧ (List.length ([] : List Int) = 0 ∧ 0 ≤ 1000)
   exact ⟨by omega, rfl, by omega⟩
  ·
   intro x hR
   obtain ⟨i, r1, out⟩ := x
   obtain ⟨hI0, k15, hk13, e14⟩ := hR
   replace hI0 : (0 ≤ r1 ∧ r1 ≤ r.p + (i : Int)) ∧ (List.length out = i ∧ i ≤ 1000) := hI0
   replace hk13 : Int.toNat (n - ((i : Nat) : Int)) < k15 := hk13
   obtain ⟨k15q, rfl⟩ : ∃ k, k15 = k + 1 := ⟨k15 - 1, by omega⟩
   have hk := pick_ok (n := (((List.length out) + 1 : Nat) : Int)) r.b r1 (by omega)
   refine AW.seq (AW.seq (AW.r1 hC [0, 1, 5, 6, 12] [0, 36] ⟨[(0, .ref 0 0 0), (1, .int .i64 n), (5, .arr 36 1), (6, .int .i64 ((i : Nat) : Int)), (12, .bool (decide (((i : Nat) : Int) < n)))], [(0, .box 0 [.data (.slice (.int .u8)) ((Rdr.b r) : List Int), .int .i64 r1]), (36, .arr 1 (.int .i64) (out : List Int))]⟩ ?_))
   refine AW.cd (decide (((i : Nat) : Int) < n)) ?_ ?_
   ·
    intro h16
    have h16q : ((i : Nat) : Int) < n := (of_decide_eq_true h16)
    have e17 := e14.trans (Go.Am.bif_t h16)
    refine AW.kp [0, 1, 5, 6] [0, 36] ⟨[(0, .ref 0 0 0), (1, .int .i64 n), (5, .arr 36 1), (6, .int .i64 ((i : Nat) : Int))], [(0, .box 0 [.data (.slice (.int .u8)) ((Rdr.b r) : List Int), .int .i64 r1]), (36, .arr 1 (.int .i64) (out : List Int))]⟩ ?_
    refine AW.skip (AW.seq (AW.block (AW.seq (AW.r0 hC [0, 1, 5, 6, 7] [0, 36] ⟨[(0, .ref 0 0 0), (1, .int .i64 n), (5, .arr 36 1), (6, .int .i64 ((i : Nat) : Int)), (7, .int .i64 (pick (Rdr.b r) r1 (((List.length out) + 1 : Nat) : Int)))], [(0, .box 0 [.data (.slice (.int .u8)) ((Rdr.b r) : List Int), .int .i64 (r1 + 1)]), (36, .arr 1 (.int .i64) (out : List Int))]⟩ [(-9223372036854775808 ≤ (((List.length out) + 1 : Nat) : Int) ∧ (((List.length out) + 1 : Nat) : Int) ≤ 9223372036854775807), (0 ≤ (Rdr.mk (Rdr.b r) r1).p ∧ (Rdr.mk (Rdr.b r) r1).p ≤ 1099511627776)] ?_ ?_))))
    ·
     refine ⟨?_, ?_, trivial⟩
     ·
      omega
     ·
      simp only [List.length_append, List.length_cons, List.length_nil, List.length_take, List.length_drop, List.nil_append] at *; omega
    refine AW.seq (AW.r0 hC [0, 1, 5, 6, 7, 8] [0, 36, 80] ⟨[(0, .ref 0 0 0), (1, .int .i64 n), (5, .arr 36 1), (6, .int .i64 ((i : Nat) : Int)), (7, .int .i64 (pick (Rdr.b r) r1 (((List.length out) + 1 : Nat) : Int))), (8, .arr 80 1)], [(0, .box 0 [.data (.slice (.int .u8)) ((Rdr.b r) : List Int), .int .i64 (r1 + 1)]), (36, .arr 1 (.int .i64) (out : List Int)), (80, .arr 1 (.int .i64) ((([] : List Int) ++ (List.take (Int.toNat (pick (Rdr.b r) r1 (((List.length out) + 1 : Nat) : Int))) (List.drop 0 out))) : List Int))]⟩ [(0 ≤ (pick (Rdr.b r) r1 (((List.length out) + 1 : Nat) : Int)) ∧ (pick (Rdr.b r) r1 (((List.length out) + 1 : Nat) : Int)) ≤ ((List.length out : Nat) : Int)), (0 + ((List.length (List.take (Int.toNat (pick (Rdr.b r) r1 (((List.length out) + 1 : Nat) : Int))) (List.drop 0 out)) : Nat) : Int) ≤ 4294967296)] ?_ ?_)
    ·
     refine ⟨?_, ?_, trivial⟩
     ·
      omega
     ·
      simp only [List.length_append, List.length_cons, List.length_nil, List.length_take, List.length_drop, List.nil_append] at *; omega
    refine AW.seq (AW.r0 hC [0, 1, 5, 6, 7, 8] [0, 36, 80] ⟨[(0, .ref 0 0 0), (1, .int .i64 n), (5, .arr 36 1), (6, .int .i64 ((i : Nat) : Int)), (7, .int .i64 (pick (Rdr.b r) r1 (((List.length out) + 1 : Nat) : Int))), (8, .arr 80 1)], [(0, .box 0 [.data (.slice (.int .u8)) ((Rdr.b r) : List Int), .int .i64 (r1 + 1)]), (36, .arr 1 (.int .i64) (out : List Int)), (80, .arr 1 (.int .i64) (((([] : List Int) ++ (List.take (Int.toNat (pick (Rdr.b r) r1 (((List.length out) + 1 : Nat) : Int))) (List.drop 0 out))) ++ ([((i : Nat) : Int)] : List Int)) : List Int))]⟩ [(((List.length (([] : List Int) ++ (List.take (Int.toNat (pick (Rdr.b r) r1 (((List.length out) + 1 : Nat) : Int))) (List.drop 0 out))) : Nat) : Int) + ((List.length ([((i : Nat) : Int)] : List Int) : Nat) : Int) ≤ 4294967296)] ?_ ?_)
    ·
     refine ⟨?_, trivial⟩
     ·
      simp only [List.length_append, List.length_cons, List.length_nil, List.length_take, List.length_drop, List.nil_append] at *; omega
    refine AW.r0 hC [0, 1, 5, 6] [0, 80] ⟨[(0, .ref 0 0 0), (1, .int .i64 n), (5, .arr 80 1), (6, .int .i64 ((i : Nat) : Int))], [(0, .box 0 [.data (.slice (.int .u8)) ((Rdr.b r) : List Int), .int .i64 (r1 + 1)]), (80, .arr 1 (.int .i64) ((((([] : List Int) ++ (List.take (Int.toNat (pick (Rdr.b r) r1 (((List.length out) + 1 : Nat) : Int))) (List.drop 0 out))) ++ ([((i : Nat) : Int)] : List Int)) ++ (List.take (List.length out - (Int.toNat (pick (Rdr.b r) r1 (((List.length out) + 1 : Nat) : Int)))) (List.drop (Int.toNat (pick (Rdr.b r) r1 (((List.length out) + 1 : Nat) : Int))) out))) : List Int))]⟩ [(0 ≤ (pick (Rdr.b r) r1 (((List.length out) + 1 : Nat) : Int)) ∧ (pick (Rdr.b r) r1 (((List.length out) + 1 : Nat) : Int)) ≤ ((List.length out : Nat) : Int)), (((List.length ((([] : List Int) ++ (List.take (Int.toNat (pick (Rdr.b r) r1 (((List.length out) + 1 : Nat) : Int))) (List.drop 0 out))) ++ ([((i : Nat) : Int)] : List Int)) : Nat) : Int) + ((List.length (List.take (List.length out - (Int.toNat (pick (Rdr.b r) r1 (((List.length out) + 1 : Nat) : Int)))) (List.drop (Int.toNat (pick (Rdr.b r) r1 (((List.length out) + 1 : Nat) : Int))) out)) : Nat) : Int) ≤ 4294967296)] ?_ ?_
    ·
     refine ⟨?_, ?_, trivial⟩
     ·
      omega
     ·
      simp only [List.length_append, List.length_cons, List.length_nil, List.length_take, List.length_drop, List.nil_append] at *; omega
    refine AW.r0 hC [0, 1, 5, 6] [0, 80] ⟨[(0, .ref 0 0 0), (1, .int .i64 n), (5, .arr 80 1), (6, .int .i64 ((i + 1 : Nat) : Int))], [(0, .box 0 [.data (.slice (.int .u8)) ((Rdr.b r) : List Int), .int .i64 (r1 + 1)]), (80, .arr 1 (.int .i64) ((((([] : List Int) ++ (List.take (Int.toNat (pick (Rdr.b r) r1 (((List.length out) + 1 : Nat) : Int))) (List.drop 0 out))) ++ ([((i : Nat) : Int)] : List Int)) ++ (List.take (List.length out - (Int.toNat (pick (Rdr.b r) r1 (((List.length out) + 1 : Nat) : Int)))) (List.drop (Int.toNat (pick (Rdr.b r) r1 (((List.length out) + 1 : Nat) : Int))) out))) : List Int))]⟩ [(-9223372036854775808 ≤ ((i + 1 : Nat) : Int) ∧ ((i + 1 : Nat) : Int) ≤ 9223372036854775807)] ?_ ?_
    ·
     refine ⟨?_, trivial⟩
     ·
      omega
    refine AW.backR (x := (i, r1, out)) (i + 1, (r1 + 1), (((([] : List Int) ++ (List.take (Int.toNat (pick (Rdr.b r) r1 (((List.length out) + 1 : Nat) : Int))) (List.drop 0 out))) ++ ([((i : Nat) : Int)] : List Int)) ++ (List.take (List.length out - (Int.toNat (pick (Rdr.b r) r1 (((List.length out) + 1 : Nat) : Int)))) (List.drop (Int.toNat (pick (Rdr.b r) r1 (((List.length out) + 1 : Nat) : Int))) out)))) (Turn.of [0, 1, 5, 6] [0, 80] [(80, 36)] [0, 1, 5, 6] [0, 36] (by kernel_rfl)) ⟨?_, k15q, ?_, e17⟩ ?_
    ·
     show (0 ≤ (r1 + 1) ∧ (r1 + 1) ≤ r.p + ((i + 1) : Int)) ∧ (List.length (((([] : List Int) ++ (List.take (Int.toNat (pick (Rdr.b r) r1 (((List.length out) + 1 : Nat) : Int))) (List.drop 0 out))) ++ ([((i : Nat) : Int)] : List Int)) ++ (List.take (List.length out - (Int.toNat (pick (Rdr.b r) r1 (((List.length out) + 1 : Nat) : Int)))) (List.drop (Int.toNat (pick (Rdr.b r) r1 (((List.length out) + 1 : Nat) : Int))) out))) = (i + 1) ∧ (i + 1) ≤ 1000)
     simp only [List.length_append, List.length_cons, List.length_nil, List.length_take, List.length_drop, List.nil_append]
     omega
    ·
     show Int.toNat (n - (((i + 1) : Nat) : Int)) < k15q
     omega
    ·
     show Int.toNat (n - (((i + 1) : Nat) : Int)) < Int.toNat (n - ((i : Nat) : Int))
     omega
   ·
    intro h18
    have h18q : ¬ (((i : Nat) : Int) < n) := (of_decide_eq_false h18)
    have e19 := e14.trans (Go.Am.bif_f h18)
    refine AW.kp [5] [0, 36] ⟨[(5, .arr 36 1)], [(0, .box 0 [.data (.slice (.int .u8)) ((Rdr.b r) : List Int), .int .i64 r1]), (36, .arr 1 (.int .i64) (out : List Int))]⟩ ?_
    refine AW.exit ?_
    refine AW.meet (r1, out) (by kernel_rfl) ⟨?_, e19⟩
    show (0 ≤ r1 ∧ r1 ≤ r.p + 1000) ∧ (List.length out ≤ 1000)
    omega
 ·
  intro x hR
  obtain ⟨r1, out⟩ := x
  obtain ⟨hJ0, e20⟩ := hR
  replace hJ0 : (0 ≤ r1 ∧ r1 ≤ r.p + 1000) ∧ (List.length out ≤ 1000) := hJ0
  have e21 := e0.trans (Go.Am.then_eq e20)
  refine AW.seq (AW.r1 hC [4] [0, 36] ⟨[(4, .arr 36 1)], [(0, .box 0 [.data (.slice (.int .u8)) ((Rdr.b r) : List Int), .int .i64 r1]), (36, .arr 1 (.int .i64) (out : List Int))]⟩ ?_)
  exact AW.ret (AW.retE (β := (List Int) × Rdr) (fun v => [⟨(.slice (.int .i64)), v.1⟩]) (fun v => [⟨(.named 2), v.2⟩]) (v := (out, (Rdr.mk (Rdr.b r) r1))) e21 (by kernel_rfl) rfl rfl)

theorem shuffled_l0_p (r : Rdr) (n : Int) : ∀ (k i : Nat) (p : Int) (a : List Int), a.length = i → Int.toNat (n - (i : Int)) < k → (shuffled_l0 r n k i p a).1 = p + ((Int.toNat (n - (i : Int)) : Nat) : Int) ∧ (shuffled_l0 r n k i p a).2.length = i + Int.toNat (n - (i : Int)) := by
 intro k
 induction k with
 | zero => intro i p a _ h; omega
 | succ k ih =>
  intro i p a ha hk
  unfold shuffled_l0
  by_cases h : ((i : Nat) : Int) < n
  ·
   rw [decide_eq_true h, cond_true]
   have hp := pick_ok (n := (((List.length a) + 1 : Nat) : Int)) r.b p (by omega)
   have := ih (i + 1) (p + 1) ((((([] : List Int) ++ (List.take (Int.toNat (pick (Rdr.b r) p (((List.length a) + 1 : Nat) : Int))) (List.drop 0 a))) ++ ([((i : Nat) : Int)] : List Int)) ++ (List.take (List.length a - (Int.toNat (pick (Rdr.b r) p (((List.length a) + 1 : Nat) : Int)))) (List.drop (Int.toNat (pick (Rdr.b r) p (((List.length a) + 1 : Nat) : Int))) a)))) (by
    simp only [List.length_append, List.length_cons, List.length_nil, List.length_take, List.length_drop, List.nil_append]
    omega) (by omega)
   rw [this.1, this.2]
   omega
  ·
   rw [decide_eq_false h, cond_false]
   simp only
   omega

theorem shuffled_p (r : Rdr) (n : Int) : (shuffled r n).2.p = r.p + ((Int.toNat n : Nat) : Int) ∧ (shuffled r n).1.length = Int.toNat n := by
 have := shuffled_l0_p r n (Int.toNat (n - ((0 : Nat) : Int)) + 1) 0 r.p [] rfl (Nat.lt_succ_self _)
 unfold shuffled
 dsimp only [Go.Am.andThen]
 omega

def randomTree_r : Nat → Rdr → (List Int) → (JoinTree × Rdr)
 | 0, r, list => (JoinTree.zero, Rdr.zero)
 | fuel + 1, r, list => (bif (((List.length list : Nat) : Int) == 1) then ((JoinTree.mk (List.getD list 0 0) ([] : List JoinTree)), r) else ((JoinTree.mk 0 ([(((randomTree_r fuel) (Rdr.mk (Rdr.b r) ((Rdr.p r) + 1)) (List.take (Int.toNat (1 + (pick (Rdr.b r) (Rdr.p r) (((List.length list : Nat) : Int) - 1)))) list)).1), (((randomTree_r fuel) (((randomTree_r fuel) (Rdr.mk (Rdr.b r) ((Rdr.p r) + 1)) (List.take (Int.toNat (1 + (pick (Rdr.b r) (Rdr.p r) (((List.length list : Nat) : Int) - 1)))) list)).2) (List.drop (Int.toNat (1 + (pick (Rdr.b r) (Rdr.p r) (((List.length list : Nat) : Int) - 1)))) list)).1)] : List JoinTree)), (((randomTree_r fuel) (((randomTree_r fuel) (Rdr.mk (Rdr.b r) ((Rdr.p r) + 1)) (List.take (Int.toNat (1 + (pick (Rdr.b r) (Rdr.p r) (((List.length list : Nat) : Int) - 1)))) list)).2) (List.drop (Int.toNat (1 + (pick (Rdr.b r) (Rdr.p r) (((List.length list : Nat) : Int) - 1)))) list)).2)))

def randomTree (r : Rdr) (list : List Int) : JoinTree × Rdr := randomTree_r (List.length list + 1) r list

def randomTree_spn (fuel : Nat) : FnSpec := mkSpecB [.box 2, .val (.slice (.int .i64))] [.val (.named 3)] (fun (r : Rdr) (list : List Int) => ((0 ≤ r.p ∧ r.p + (List.length list : Int) ≤ 1000000000000) ∧ (1 ≤ List.length list ∧ List.length list ≤ 1000)) ∧ List.length list < fuel) (fun (r : Rdr) (list : List Int) => [⟨(.named 3), ((randomTree_r fuel r list).1)⟩]) (fun (r : Rdr) (list : List Int) => [⟨(.named 2), ((randomTree_r fuel r list).2)⟩])

def randomTree_sp : FnSpec := mkSpecB [.box 2, .val (.slice (.int .i64))] [.val (.named 3)] (fun (r : Rdr) (list : List Int) => (0 ≤ r.p ∧ r.p + (List.length list : Int) ≤ 1000000000000) ∧ (1 ≤ List.length list ∧ List.length list ≤ 1000)) (fun (r : Rdr) (list : List Int) => [⟨(.named 3), ((randomTree r list).1)⟩]) (fun (r : Rdr) (list : List Int) => [⟨(.named 2), ((randomTree r list).2)⟩])

theorem randomTree_p : ∀ (f : Nat) (r : Rdr) (l : List Int), 1 ≤ l.length → l.length < f → r.p ≤ (randomTree_r f r l).2.p ∧ (randomTree_r f r l).2.p ≤ r.p + (l.length : Int) - 1 := by
 intro f
 induction f with
 | zero => intro r l _ h; omega
 | succ f ih =>
  intro r l h1 h2
  unfold randomTree_r
  cases h : (((List.length l : Nat) : Int) == 1) with
  | true => rw [cond_true]; show r.p ≤ r.p ∧ r.p ≤ _; omega
  | false =>
   have hn := beq_neg h
   have hk := pick_ok (n := (((List.length l : Nat) : Int) - 1)) r.b r.p (by omega)
   rw [cond_false]
   generalize pick (Rdr.b r) (Rdr.p r) (((List.length l : Nat) : Int) - 1) = k at *
   have a := ih (Rdr.mk (Rdr.b r) ((Rdr.p r) + 1)) (List.take (Int.toNat (1 + k)) l) (by rw [List.length_take]; omega) (by rw [List.length_take]; omega)
   have b := ih ((randomTree_r f) (Rdr.mk (Rdr.b r) ((Rdr.p r) + 1)) (List.take (Int.toNat (1 + k)) l)).2 (List.drop (Int.toNat (1 + k)) l) (by rw [List.length_drop]; omega) (by rw [List.length_drop]; omega)
   simp only [List.length_take, List.length_drop] at a b ⊢
   omega

theorem randomTree_okn (fuel : Nat) : FnOK Try.prog 85 (randomTree_spn fuel) := by
 induction fuel with
 | zero => exact FnOK.never Try.func85 (by kernel_rfl) rfl (fun _ _ h => absurd h.2 (Nat.not_lt_zero _))
 | succ fuel ih => ?_
 have hC : CtxOK Try.prog (mkCtx tyL [(51, pickS), (85, (randomTree_spn fuel))]) := CtxOK.cons pickS_ok (CtxOK.cons ih (CtxOK.nil tyOK))
 have hM : Try.prog.follows .mixedOrders = true := Try.checked.mixed
 refine FnOK.of_body Try.func85 (by kernel_rfl) rfl (C := (mkCtx tyL [(51, pickS), (85, (randomTree_spn fuel))])) hC.ty (by kernel_rfl) ?_
 intro (r : Rdr) (list : List Int) hwf hpre E
 have hpre : ((0 ≤ r.p ∧ r.p + (List.length list : Int) ≤ 1000000000000) ∧ (1 ≤ List.length list ∧ List.length list ≤ 1000)) ∧ List.length list < fuel + 1 := hpre
 have hw_r : Wf ⟨(.named 2), (r : Rdr)⟩ := hwf _ (List.Mem.head _)
 have hl_r_b : ((List.length (Rdr.b r) : Nat) : Int) ≤ 9223372036854775807 := (hw_r.field (tv := ⟨(.slice (.int .u8)), Rdr.b r⟩) (List.Mem.head _)).len
 have hr_r_p : -9223372036854775808 ≤ Rdr.p r ∧ Rdr.p r ≤ 9223372036854775807 := (hw_r.field (tv := ⟨(.int .i64), Rdr.p r⟩) (List.Mem.tail _ (List.Mem.head _))).int_inv
 have hw_list : Wf ⟨(.slice (.int .i64)), (list : List Int)⟩ := hwf _ (List.Mem.tail _ (List.Mem.head _))
 have hl_list : ((List.length list : Nat) : Int) ≤ 9223372036854775807 := hw_list.len
 have e0 : randomTree_r (fuel + 1) r list = randomTree_r (fuel + 1) r list := rfl
 refine AW.seq (AW.r1 hC [0, 1, 4] [0, 16] ⟨[(0, .ref 0 0 0), (1, .data (.slice (.int .i64)) (list : List Int)), (4, .ref 16 1 0)], [(0, .box 0 [.data (.slice (.int .u8)) ((Rdr.b r) : List Int), .int .i64 (Rdr.p r)]), (16, .box 1 [.int .i64 0, .nilsl])]⟩ ?_)
 refine AW.seq (AW.seq (AW.r1 hC [0, 1, 4, 8] [0, 16] ⟨[(0, .ref 0 0 0), (1, .data (.slice (.int .i64)) (list : List Int)), (4, .ref 16 1 0), (8, .bool (((List.length list : Nat) : Int) == 1))], [(0, .box 0 [.data (.slice (.int .u8)) ((Rdr.b r) : List Int), .int .i64 (Rdr.p r)]), (16, .box 1 [.int .i64 0, .nilsl])]⟩ ?_))
 refine AW.cd (((List.length list : Nat) : Int) == 1) ?_ ?_
 ·
  intro h1
  have h1q : ((List.length list : Nat) : Int) = 1 := (Go.Am.beq_pos h1)
  have e2 := e0.trans (Go.Am.bif_t h1)
  refine AW.seq (AW.r0 hC [4] [0, 16] ⟨[(4, .ref 16 1 0)], [(0, .box 0 [.data (.slice (.int .u8)) ((Rdr.b r) : List Int), .int .i64 (Rdr.p r)]), (16, .box 1 [.int .i64 (List.getD list 0 0), .nilsl])]⟩ [(0 ≤ (0 : Int) ∧ (0 : Int) < ((List.length list : Nat) : Int))] ?_ ?_)
  ·
   refine ⟨?_, trivial⟩
   ·
    omega
  exact AW.ret (AW.retE (β := JoinTree × Rdr) (fun v => [⟨(.named 3), v.1⟩]) (fun v => [⟨(.named 2), v.2⟩]) (v := ((JoinTree.mk (List.getD list 0 0) ([] : List JoinTree)), r)) e2 (by kernel_rfl) rfl rfl)
 ·
  intro h3
  have h3q : ((List.length list : Nat) : Int) ≠ 1 := (Go.Am.beq_neg h3)
  have e4 := e0.trans (Go.Am.bif_f h3)
  refine AW.kp [0, 1, 4] [0, 16] ⟨[(0, .ref 0 0 0), (1, .data (.slice (.int .i64)) (list : List Int)), (4, .ref 16 1 0)], [(0, .box 0 [.data (.slice (.int .u8)) ((Rdr.b r) : List Int), .int .i64 (Rdr.p r)]), (16, .box 1 [.int .i64 0, .nilsl])]⟩ ?_
  refine AW.skip (AW.seq (AW.r0 hC [0, 1, 4, 5] [0, 16] ⟨[(0, .ref 0 0 0), (1, .data (.slice (.int .i64)) (list : List Int)), (4, .ref 16 1 0), (5, .int .i64 (1 + (pick (Rdr.b r) (Rdr.p r) (((List.length list : Nat) : Int) - 1))))], [(0, .box 0 [.data (.slice (.int .u8)) ((Rdr.b r) : List Int), .int .i64 ((Rdr.p r) + 1)]), (16, .box 1 [.int .i64 0, .nilsl])]⟩ [(-9223372036854775808 ≤ (((List.length list : Nat) : Int) - 1) ∧ (((List.length list : Nat) : Int) - 1) ≤ 9223372036854775807), (0 ≤ r.p ∧ r.p ≤ 1099511627776), (-9223372036854775808 ≤ (1 + (pick (Rdr.b r) (Rdr.p r) (((List.length list : Nat) : Int) - 1))) ∧ (1 + (pick (Rdr.b r) (Rdr.p r) (((List.length list : Nat) : Int) - 1))) ≤ 9223372036854775807)] ?_ ?_))
  ·
   refine ⟨?_, ?_, ?_, trivial⟩
   ·
    omega
   ·
    omega
   ·
    have hk := pick_ok (n := (((List.length list : Nat) : Int) - 1)) r.b r.p (by omega); have hq := randomTree_p fuel (Rdr.mk r.b (r.p + 1)) (List.take (Int.toNat (1 + (pick (Rdr.b r) (Rdr.p r) (((List.length list : Nat) : Int) - 1)))) list) (by rw [List.length_take]; omega) (by rw [List.length_take]; omega); simp only [List.length_take] at hq; omega
  refine AW.seq (AW.d0 hC hM [4] [0, 16, 116] ⟨[(4, .ref 16 1 0)], [(0, .box 0 [.data (.slice (.int .u8)) ((Rdr.b (((randomTree_r fuel) (((randomTree_r fuel) (Rdr.mk (Rdr.b r) ((Rdr.p r) + 1)) (List.take (Int.toNat (1 + (pick (Rdr.b r) (Rdr.p r) (((List.length list : Nat) : Int) - 1)))) list)).2) (List.drop (Int.toNat (1 + (pick (Rdr.b r) (Rdr.p r) (((List.length list : Nat) : Int) - 1)))) list)).2)) : List Int), .int .i64 (Rdr.p (((randomTree_r fuel) (((randomTree_r fuel) (Rdr.mk (Rdr.b r) ((Rdr.p r) + 1)) (List.take (Int.toNat (1 + (pick (Rdr.b r) (Rdr.p r) (((List.length list : Nat) : Int) - 1)))) list)).2) (List.drop (Int.toNat (1 + (pick (Rdr.b r) (Rdr.p r) (((List.length list : Nat) : Int) - 1)))) list)).2))]), (16, .box 1 [.int .i64 0, .arr 116 1]), (116, .arr 1 (.named 3) (([(((randomTree_r fuel) (Rdr.mk (Rdr.b r) ((Rdr.p r) + 1)) (List.take (Int.toNat (1 + (pick (Rdr.b r) (Rdr.p r) (((List.length list : Nat) : Int) - 1)))) list)).1), (((randomTree_r fuel) (((randomTree_r fuel) (Rdr.mk (Rdr.b r) ((Rdr.p r) + 1)) (List.take (Int.toNat (1 + (pick (Rdr.b r) (Rdr.p r) (((List.length list : Nat) : Int) - 1)))) list)).2) (List.drop (Int.toNat (1 + (pick (Rdr.b r) (Rdr.p r) (((List.length list : Nat) : Int) - 1)))) list)).1)] : List JoinTree) : List JoinTree))]⟩ [(0 ≤ (1 + (pick (Rdr.b r) (Rdr.p r) (((List.length list : Nat) : Int) - 1))) ∧ (1 + (pick (Rdr.b r) (Rdr.p r) (((List.length list : Nat) : Int) - 1))) ≤ ((List.length list : Nat) : Int)), (((0 ≤ (Rdr.mk (Rdr.b r) ((Rdr.p r) + 1)).p ∧ (Rdr.mk (Rdr.b r) ((Rdr.p r) + 1)).p + (List.length (List.take (Int.toNat (1 + (pick (Rdr.b r) (Rdr.p r) (((List.length list : Nat) : Int) - 1)))) list) : Int) ≤ 1000000000000) ∧ (1 ≤ List.length (List.take (Int.toNat (1 + (pick (Rdr.b r) (Rdr.p r) (((List.length list : Nat) : Int) - 1)))) list) ∧ List.length (List.take (Int.toNat (1 + (pick (Rdr.b r) (Rdr.p r) (((List.length list : Nat) : Int) - 1)))) list) ≤ 1000)) ∧ List.length (List.take (Int.toNat (1 + (pick (Rdr.b r) (Rdr.p r) (((List.length list : Nat) : Int) - 1)))) list) < fuel), (0 ≤ (1 + (pick (Rdr.b r) (Rdr.p r) (((List.length list : Nat) : Int) - 1))) ∧ (1 + (pick (Rdr.b r) (Rdr.p r) (((List.length list : Nat) : Int) - 1))) ≤ ((List.length list : Nat) : Int)), (((0 ≤ (((randomTree_r fuel) (Rdr.mk (Rdr.b r) ((Rdr.p r) + 1)) (List.take (Int.toNat (1 + (pick (Rdr.b r) (Rdr.p r) (((List.length list : Nat) : Int) - 1)))) list)).2).p ∧ (((randomTree_r fuel) (Rdr.mk (Rdr.b r) ((Rdr.p r) + 1)) (List.take (Int.toNat (1 + (pick (Rdr.b r) (Rdr.p r) (((List.length list : Nat) : Int) - 1)))) list)).2).p + (List.length (List.drop (Int.toNat (1 + (pick (Rdr.b r) (Rdr.p r) (((List.length list : Nat) : Int) - 1)))) list) : Int) ≤ 1000000000000) ∧ (1 ≤ List.length (List.drop (Int.toNat (1 + (pick (Rdr.b r) (Rdr.p r) (((List.length list : Nat) : Int) - 1)))) list) ∧ List.length (List.drop (Int.toNat (1 + (pick (Rdr.b r) (Rdr.p r) (((List.length list : Nat) : Int) - 1)))) list) ≤ 1000)) ∧ List.length (List.drop (Int.toNat (1 + (pick (Rdr.b r) (Rdr.p r) (((List.length list : Nat) : Int) - 1)))) list) < fuel)] ?_ ?_)
  ·
   refine ⟨?_, ?_, ?_, ?_, trivial⟩
   ·
    have hk := pick_ok (n := (((List.length list : Nat) : Int) - 1)) r.b r.p (by omega); have hq := randomTree_p fuel (Rdr.mk r.b (r.p + 1)) (List.take (Int.toNat (1 + (pick (Rdr.b r) (Rdr.p r) (((List.length list : Nat) : Int) - 1)))) list) (by rw [List.length_take]; omega) (by rw [List.length_take]; omega); simp only [List.length_take] at hq; omega
   ·
    have hk := pick_ok (n := (((List.length list : Nat) : Int) - 1)) r.b r.p (by omega)
    have hq := randomTree_p fuel (Rdr.mk r.b (r.p + 1)) (List.take (Int.toNat (1 + (pick (Rdr.b r) (Rdr.p r) (((List.length list : Nat) : Int) - 1)))) list) (by rw [List.length_take]; omega) (by rw [List.length_take]; omega)
    simp only [List.length_take] at hq
    simp only [List.length_take, List.length_drop]
    omega
   ·
    have hk := pick_ok (n := (((List.length list : Nat) : Int) - 1)) r.b r.p (by omega); have hq := randomTree_p fuel (Rdr.mk r.b (r.p + 1)) (List.take (Int.toNat (1 + (pick (Rdr.b r) (Rdr.p r) (((List.length list : Nat) : Int) - 1)))) list) (by rw [List.length_take]; omega) (by rw [List.length_take]; omega); simp only [List.length_take] at hq; omega
   ·
    have hk := pick_ok (n := (((List.length list : Nat) : Int) - 1)) r.b r.p (by omega)
    have hq := randomTree_p fuel (Rdr.mk r.b (r.p + 1)) (List.take (Int.toNat (1 + (pick (Rdr.b r) (Rdr.p r) (((List.length list : Nat) : Int) - 1)))) list) (by rw [List.length_take]; omega) (by rw [List.length_take]; omega)
    simp only [List.length_take] at hq
    simp only [List.length_take, List.length_drop]
    omega
  exact AW.ret (AW.retE (β := JoinTree × Rdr) (fun v => [⟨(.named 3), v.1⟩]) (fun v => [⟨(.named 2), v.2⟩]) (v := ((JoinTree.mk 0 ([(((randomTree_r fuel) (Rdr.mk (Rdr.b r) ((Rdr.p r) + 1)) (List.take (Int.toNat (1 + (pick (Rdr.b r) (Rdr.p r) (((List.length list : Nat) : Int) - 1)))) list)).1), (((randomTree_r fuel) (((randomTree_r fuel) (Rdr.mk (Rdr.b r) ((Rdr.p r) + 1)) (List.take (Int.toNat (1 + (pick (Rdr.b r) (Rdr.p r) (((List.length list : Nat) : Int) - 1)))) list)).2) (List.drop (Int.toNat (1 + (pick (Rdr.b r) (Rdr.p r) (((List.length list : Nat) : Int) - 1)))) list)).1)] : List JoinTree)), (((randomTree_r fuel) (((randomTree_r fuel) (Rdr.mk (Rdr.b r) ((Rdr.p r) + 1)) (List.take (Int.toNat (1 + (pick (Rdr.b r) (Rdr.p r) (((List.length list : Nat) : Int) - 1)))) list)).2) (List.drop (Int.toNat (1 + (pick (Rdr.b r) (Rdr.p r) (((List.length list : Nat) : Int) - 1)))) list)).2))) e4 (by kernel_rfl) rfl rfl)

theorem randomTree_fu : AllTV (randomTree_sp.ps.map PK.ty) (fun tvs => randomTree_sp.pre tvs → ∃ k, (randomTree_spn k).pre tvs ∧ (randomTree_spn k).fn tvs = randomTree_sp.fn tvs ∧ (randomTree_spn k).bx tvs = randomTree_sp.bx tvs) :=
 (fun (r : Rdr) (list : List Int) h => ⟨List.length list + 1, (show ((0 ≤ r.p ∧ r.p + (List.length list : Int) ≤ 1000000000000) ∧ (1 ≤ List.length list ∧ List.length list ≤ 1000)) ∧ List.length list < List.length list + 1 from ⟨h, Nat.lt_succ_self _⟩), (show (randomTree_spn (List.length list + 1)).fn [⟨(.named 2), (r : Rdr)⟩, ⟨(.slice (.int .i64)), (list : List Int)⟩] = ([⟨(.named 3), ((randomTree_r (List.length list + 1) r list).1)⟩] : List TV) from by kernel_rfl).trans (show ([⟨(.named 3), ((randomTree_r (List.length list + 1) r list).1)⟩] : List TV) = randomTree_sp.fn [⟨(.named 2), (r : Rdr)⟩, ⟨(.slice (.int .i64)), (list : List Int)⟩] from by kernel_rfl), (show (randomTree_spn (List.length list + 1)).bx _ = ([⟨(.named 2), ((randomTree_r (List.length list + 1) r list).2)⟩] : List TV) from by kernel_rfl).trans (by kernel_rfl)⟩)

theorem randomTree_ok : FnOK Try.prog 85 randomTree_sp := FnOK.of_fuel randomTree_okn (fun _ => rfl) (fun _ => rfl) (AllTV.get randomTree_fu)

def anyTree (r : Rdr) (n : Int) : JoinTree × Rdr := (bif ((pick (Rdr.b ((shuffled r n).2)) (Rdr.p ((shuffled r n).2)) 14) == 0) then ((JoinTree.mk (JoinTree.Leaf ((randomTree (Rdr.mk (Rdr.b ((shuffled r n).2)) (((Rdr.p ((shuffled r n).2)) + 1) + 1)) (List.set ((shuffled r n).1) 0 (one (Rdr.b ((shuffled r n).2)) ((Rdr.p ((shuffled r n).2)) + 1) ([(-1), n, 0] : List Int)))).1)) (JoinTree.Kids ((randomTree (Rdr.mk (Rdr.b ((shuffled r n).2)) (((Rdr.p ((shuffled r n).2)) + 1) + 1)) (List.set ((shuffled r n).1) 0 (one (Rdr.b ((shuffled r n).2)) ((Rdr.p ((shuffled r n).2)) + 1) ([(-1), n, 0] : List Int)))).1))), ((randomTree (Rdr.mk (Rdr.b ((shuffled r n).2)) (((Rdr.p ((shuffled r n).2)) + 1) + 1)) (List.set ((shuffled r n).1) 0 (one (Rdr.b ((shuffled r n).2)) ((Rdr.p ((shuffled r n).2)) + 1) ([(-1), n, 0] : List Int)))).2)) else (bif ((pick (Rdr.b ((shuffled r n).2)) (Rdr.p ((shuffled r n).2)) 14) == 1) then ((JoinTree.mk 0 ([(JoinTree.mk 0 ([] : List JoinTree))] : List JoinTree)), (Rdr.mk (Rdr.b ((shuffled r n).2)) ((Rdr.p ((shuffled r n).2)) + 1))) else (bif ((pick (Rdr.b ((shuffled r n).2)) (Rdr.p ((shuffled r n).2)) 14) == 2) then ((JoinTree.mk (JoinTree.Leaf ((randomTree (Rdr.mk (Rdr.b ((shuffled r n).2)) (((Rdr.p ((shuffled r n).2)) + 1) + 1)) (List.take (Int.toNat (1 + (pick (Rdr.b ((shuffled r n).2)) ((Rdr.p ((shuffled r n).2)) + 1) ((List.length ((shuffled r n).1) : Nat) : Int)))) (List.drop 0 ((shuffled r n).1)))).1)) (JoinTree.Kids ((randomTree (Rdr.mk (Rdr.b ((shuffled r n).2)) (((Rdr.p ((shuffled r n).2)) + 1) + 1)) (List.take (Int.toNat (1 + (pick (Rdr.b ((shuffled r n).2)) ((Rdr.p ((shuffled r n).2)) + 1) ((List.length ((shuffled r n).1) : Nat) : Int)))) (List.drop 0 ((shuffled r n).1)))).1))), ((randomTree (Rdr.mk (Rdr.b ((shuffled r n).2)) (((Rdr.p ((shuffled r n).2)) + 1) + 1)) (List.take (Int.toNat (1 + (pick (Rdr.b ((shuffled r n).2)) ((Rdr.p ((shuffled r n).2)) + 1) ((List.length ((shuffled r n).1) : Nat) : Int)))) (List.drop 0 ((shuffled r n).1)))).2)) else ((JoinTree.mk (JoinTree.Leaf ((randomTree (Rdr.mk (Rdr.b ((shuffled r n).2)) ((Rdr.p ((shuffled r n).2)) + 1)) ((shuffled r n).1)).1)) (JoinTree.Kids ((randomTree (Rdr.mk (Rdr.b ((shuffled r n).2)) ((Rdr.p ((shuffled r n).2)) + 1)) ((shuffled r n).1)).1))), ((randomTree (Rdr.mk (Rdr.b ((shuffled r n).2)) ((Rdr.p ((shuffled r n).2)) + 1)) ((shuffled r n).1)).2)))))

def anyTree_sp : FnSpec := mkSpecB [.box 2, .val (.int .i64)] [.val (.named 3)] (fun (r : Rdr) (n : Int) => (0 ≤ r.p ∧ r.p ≤ 100000000000) ∧ (1 ≤ n ∧ n ≤ 10)) (fun (r : Rdr) (n : Int) => [⟨(.named 3), ((anyTree r n).1)⟩]) (fun (r : Rdr) (n : Int) => [⟨(.named 2), ((anyTree r n).2)⟩])

theorem anyTree_ok : FnOK Try.prog 65 anyTree_sp := by
 have hC : CtxOK Try.prog (mkCtx tyL [(51, pickS), (72, oneS), (73, shuffled_sp), (85, randomTree_sp)]) := CtxOK.cons pickS_ok (CtxOK.cons oneS_ok (CtxOK.cons shuffled_ok (CtxOK.cons randomTree_ok (CtxOK.nil tyOK))))
 refine FnOK.of_body Try.func65 (by kernel_rfl) rfl (C := (mkCtx tyL [(51, pickS), (72, oneS), (73, shuffled_sp), (85, randomTree_sp)])) hC.ty (by kernel_rfl) ?_
 intro (r : Rdr) (n : Int) hwf hpre E
 have hpre : (0 ≤ r.p ∧ r.p ≤ 100000000000) ∧ (1 ≤ n ∧ n ≤ 10) := hpre
 have hw_r : Wf ⟨(.named 2), (r : Rdr)⟩ := hwf _ (List.Mem.head _)
 have hl_r_b : ((List.length (Rdr.b r) : Nat) : Int) ≤ 9223372036854775807 := (hw_r.field (tv := ⟨(.slice (.int .u8)), Rdr.b r⟩) (List.Mem.head _)).len
 have hr_r_p : -9223372036854775808 ≤ Rdr.p r ∧ Rdr.p r ≤ 9223372036854775807 := (hw_r.field (tv := ⟨(.int .i64), Rdr.p r⟩) (List.Mem.tail _ (List.Mem.head _))).int_inv
 have hw_n : Wf ⟨(.int .i64), (n : Int)⟩ := hwf _ (List.Mem.tail _ (List.Mem.head _))
 have hr_n : -9223372036854775808 ≤ n ∧ n ≤ 9223372036854775807 := hw_n.int_inv
 have hS := shuffled_p r n
 have hkk := pick_ok (n := ((List.length (shuffled r n).1 : Nat) : Int)) (shuffled r n).2.b ((shuffled r n).2.p + 1) (by omega)
 have e0 : anyTree r n = anyTree r n := rfl
 refine AW.seq (AW.r1 hC [0, 1, 4] [0, 16] ⟨[(0, .ref 0 0 0), (1, .int .i64 n), (4, .ref 16 1 0)], [(0, .box 0 [.data (.slice (.int .u8)) ((Rdr.b r) : List Int), .int .i64 (Rdr.p r)]), (16, .box 1 [.int .i64 0, .nilsl])]⟩ ?_)
 refine AW.seq (AW.r0 hC [0, 1, 4, 5] [0, 16, 32] ⟨[(0, .ref 0 0 0), (1, .int .i64 n), (4, .ref 16 1 0), (5, .arr 32 1)], [(0, .box 0 [.data (.slice (.int .u8)) ((Rdr.b ((shuffled r n).2)) : List Int), .int .i64 (Rdr.p ((shuffled r n).2))]), (16, .box 1 [.int .i64 0, .nilsl]), (32, .arr 1 (.int .i64) (((shuffled r n).1) : List Int))]⟩ [((0 ≤ r.p ∧ r.p ≤ 1000000000000) ∧ n ≤ 1000)] ?_ ?_)
 ·
  refine ⟨?_, trivial⟩
  ·
   omega
 refine AW.seq (AW.seq (AW.r0 hC [0, 1, 4, 5, 10] [0, 16, 32] ⟨[(0, .ref 0 0 0), (1, .int .i64 n), (4, .ref 16 1 0), (5, .arr 32 1), (10, .int .i64 (pick (Rdr.b ((shuffled r n).2)) (Rdr.p ((shuffled r n).2)) 14))], [(0, .box 0 [.data (.slice (.int .u8)) ((Rdr.b ((shuffled r n).2)) : List Int), .int .i64 ((Rdr.p ((shuffled r n).2)) + 1)]), (16, .box 1 [.int .i64 0, .nilsl]), (32, .arr 1 (.int .i64) (((shuffled r n).1) : List Int))]⟩ [(0 ≤ ((shuffled r n).2).p ∧ ((shuffled r n).2).p ≤ 1099511627776)] ?_ ?_))
 ·
  refine ⟨?_, trivial⟩
  ·
   omega
 refine AW.block (AW.seq (AW.r1 hC [0, 1, 4, 5, 10, 11] [0, 16, 32] ⟨[(0, .ref 0 0 0), (1, .int .i64 n), (4, .ref 16 1 0), (5, .arr 32 1), (10, .int .i64 (pick (Rdr.b ((shuffled r n).2)) (Rdr.p ((shuffled r n).2)) 14)), (11, .bool ((pick (Rdr.b ((shuffled r n).2)) (Rdr.p ((shuffled r n).2)) 14) == 0))], [(0, .box 0 [.data (.slice (.int .u8)) ((Rdr.b ((shuffled r n).2)) : List Int), .int .i64 ((Rdr.p ((shuffled r n).2)) + 1)]), (16, .box 1 [.int .i64 0, .nilsl]), (32, .arr 1 (.int .i64) (((shuffled r n).1) : List Int))]⟩ ?_))
 refine AW.cd ((pick (Rdr.b ((shuffled r n).2)) (Rdr.p ((shuffled r n).2)) 14) == 0) ?_ ?_
 ·
  intro h1
  have h1q : (pick (Rdr.b ((shuffled r n).2)) (Rdr.p ((shuffled r n).2)) 14) = 0 := (Go.Am.beq_pos h1)
  have e2 := e0.trans (Go.Am.bif_t h1)
  refine AW.r0 hC [0, 4, 5] [0, 16, 32] ⟨[(0, .ref 0 0 0), (4, .ref 16 1 0), (5, .arr 32 1)], [(0, .box 0 [.data (.slice (.int .u8)) ((Rdr.b ((shuffled r n).2)) : List Int), .int .i64 (((Rdr.p ((shuffled r n).2)) + 1) + 1)]), (16, .box 1 [.int .i64 0, .nilsl]), (32, .arr 1 (.int .i64) ((List.set ((shuffled r n).1) 0 (one (Rdr.b ((shuffled r n).2)) ((Rdr.p ((shuffled r n).2)) + 1) ([(-1), n, 0] : List Int))) : List Int))]⟩ [((0 ≤ (Rdr.mk (Rdr.b ((shuffled r n).2)) ((Rdr.p ((shuffled r n).2)) + 1)).p ∧ (Rdr.mk (Rdr.b ((shuffled r n).2)) ((Rdr.p ((shuffled r n).2)) + 1)).p ≤ 1099511627775) ∧ 1 ≤ (List.length ([(-1), n, 0] : List Int) : Int)), (0 ≤ (0 : Int) ∧ (0 : Int) < ((List.length ((shuffled r n).1) : Nat) : Int))] ?_ ?_
  ·
   refine ⟨?_, ?_, trivial⟩
   ·
    simp only [List.length_set, List.length_take, List.length_drop, List.length_cons, List.length_nil]; omega
   ·
    omega
  refine AW.seq (AW.r0 hC [4] [0, 16] ⟨[(4, .ref 16 1 0)], [(0, .box 0 [.data (.slice (.int .u8)) ((Rdr.b ((randomTree (Rdr.mk (Rdr.b ((shuffled r n).2)) (((Rdr.p ((shuffled r n).2)) + 1) + 1)) (List.set ((shuffled r n).1) 0 (one (Rdr.b ((shuffled r n).2)) ((Rdr.p ((shuffled r n).2)) + 1) ([(-1), n, 0] : List Int)))).2)) : List Int), .int .i64 (Rdr.p ((randomTree (Rdr.mk (Rdr.b ((shuffled r n).2)) (((Rdr.p ((shuffled r n).2)) + 1) + 1)) (List.set ((shuffled r n).1) 0 (one (Rdr.b ((shuffled r n).2)) ((Rdr.p ((shuffled r n).2)) + 1) ([(-1), n, 0] : List Int)))).2))]), (16, .box 1 [.int .i64 (JoinTree.Leaf ((randomTree (Rdr.mk (Rdr.b ((shuffled r n).2)) (((Rdr.p ((shuffled r n).2)) + 1) + 1)) (List.set ((shuffled r n).1) 0 (one (Rdr.b ((shuffled r n).2)) ((Rdr.p ((shuffled r n).2)) + 1) ([(-1), n, 0] : List Int)))).1)), .data (.slice (.named 3)) ((JoinTree.Kids ((randomTree (Rdr.mk (Rdr.b ((shuffled r n).2)) (((Rdr.p ((shuffled r n).2)) + 1) + 1)) (List.set ((shuffled r n).1) 0 (one (Rdr.b ((shuffled r n).2)) ((Rdr.p ((shuffled r n).2)) + 1) ([(-1), n, 0] : List Int)))).1)) : List JoinTree)])]⟩ [((0 ≤ (Rdr.mk (Rdr.b ((shuffled r n).2)) (((Rdr.p ((shuffled r n).2)) + 1) + 1)).p ∧ (Rdr.mk (Rdr.b ((shuffled r n).2)) (((Rdr.p ((shuffled r n).2)) + 1) + 1)).p + (List.length (List.set ((shuffled r n).1) 0 (one (Rdr.b ((shuffled r n).2)) ((Rdr.p ((shuffled r n).2)) + 1) ([(-1), n, 0] : List Int))) : Int) ≤ 1000000000000) ∧ (1 ≤ List.length (List.set ((shuffled r n).1) 0 (one (Rdr.b ((shuffled r n).2)) ((Rdr.p ((shuffled r n).2)) + 1) ([(-1), n, 0] : List Int))) ∧ List.length (List.set ((shuffled r n).1) 0 (one (Rdr.b ((shuffled r n).2)) ((Rdr.p ((shuffled r n).2)) + 1) ([(-1), n, 0] : List Int))) ≤ 1000))] ?_ ?_)
  ·
   refine ⟨?_, trivial⟩
   ·
    simp only [List.length_set, List.length_take, List.length_drop, List.length_cons, List.length_nil]; omega
  exact AW.ret (AW.retE (β := JoinTree × Rdr) (fun v => [⟨(.named 3), v.1⟩]) (fun v => [⟨(.named 2), v.2⟩]) (v := ((JoinTree.mk (JoinTree.Leaf ((randomTree (Rdr.mk (Rdr.b ((shuffled r n).2)) (((Rdr.p ((shuffled r n).2)) + 1) + 1)) (List.set ((shuffled r n).1) 0 (one (Rdr.b ((shuffled r n).2)) ((Rdr.p ((shuffled r n).2)) + 1) ([(-1), n, 0] : List Int)))).1)) (JoinTree.Kids ((randomTree (Rdr.mk (Rdr.b ((shuffled r n).2)) (((Rdr.p ((shuffled r n).2)) + 1) + 1)) (List.set ((shuffled r n).1) 0 (one (Rdr.b ((shuffled r n).2)) ((Rdr.p ((shuffled r n).2)) + 1) ([(-1), n, 0] : List Int)))).1))), ((randomTree (Rdr.mk (Rdr.b ((shuffled r n).2)) (((Rdr.p ((shuffled r n).2)) + 1) + 1)) (List.set ((shuffled r n).1) 0 (one (Rdr.b ((shuffled r n).2)) ((Rdr.p ((shuffled r n).2)) + 1) ([(-1), n, 0] : List Int)))).2))) e2 (by kernel_rfl) rfl rfl)
 ·
  intro h3
  have h3q : (pick (Rdr.b ((shuffled r n).2)) (Rdr.p ((shuffled r n).2)) 14) ≠ 0 := (Go.Am.beq_neg h3)
  have e4 := e0.trans (Go.Am.bif_f h3)
  refine AW.seq (AW.r1 hC [0, 4, 5, 10, 19] [0, 16, 32] ⟨[(0, .ref 0 0 0), (4, .ref 16 1 0), (5, .arr 32 1), (10, .int .i64 (pick (Rdr.b ((shuffled r n).2)) (Rdr.p ((shuffled r n).2)) 14)), (19, .bool ((pick (Rdr.b ((shuffled r n).2)) (Rdr.p ((shuffled r n).2)) 14) == 1))], [(0, .box 0 [.data (.slice (.int .u8)) ((Rdr.b ((shuffled r n).2)) : List Int), .int .i64 ((Rdr.p ((shuffled r n).2)) + 1)]), (16, .box 1 [.int .i64 0, .nilsl]), (32, .arr 1 (.int .i64) (((shuffled r n).1) : List Int))]⟩ ?_)
  refine AW.cd ((pick (Rdr.b ((shuffled r n).2)) (Rdr.p ((shuffled r n).2)) 14) == 1) ?_ ?_
  ·
   intro h5
   have h5q : (pick (Rdr.b ((shuffled r n).2)) (Rdr.p ((shuffled r n).2)) 14) = 1 := (Go.Am.beq_pos h5)
   have e6 := e4.trans (Go.Am.bif_t h5)
   refine AW.seq (AW.r1 hC [4] [0, 16, 88] ⟨[(4, .ref 16 1 0)], [(0, .box 0 [.data (.slice (.int .u8)) ((Rdr.b ((shuffled r n).2)) : List Int), .int .i64 ((Rdr.p ((shuffled r n).2)) + 1)]), (16, .box 1 [.int .i64 0, .arr 88 1]), (88, .arr 1 (.named 3) (([(JoinTree.mk 0 ([] : List JoinTree))] : List JoinTree) : List JoinTree))]⟩ ?_)
   exact AW.ret (AW.retE (β := JoinTree × Rdr) (fun v => [⟨(.named 3), v.1⟩]) (fun v => [⟨(.named 2), v.2⟩]) (v := ((JoinTree.mk 0 ([(JoinTree.mk 0 ([] : List JoinTree))] : List JoinTree)), (Rdr.mk (Rdr.b ((shuffled r n).2)) ((Rdr.p ((shuffled r n).2)) + 1)))) e6 (by kernel_rfl) rfl rfl)
  ·
   intro h7
   have h7q : (pick (Rdr.b ((shuffled r n).2)) (Rdr.p ((shuffled r n).2)) 14) ≠ 1 := (Go.Am.beq_neg h7)
   have e8 := e4.trans (Go.Am.bif_f h7)
   refine AW.seq (AW.r1 hC [0, 4, 5, 24] [0, 16, 32] ⟨[(0, .ref 0 0 0), (4, .ref 16 1 0), (5, .arr 32 1), (24, .bool ((pick (Rdr.b ((shuffled r n).2)) (Rdr.p ((shuffled r n).2)) 14) == 2))], [(0, .box 0 [.data (.slice (.int .u8)) ((Rdr.b ((shuffled r n).2)) : List Int), .int .i64 ((Rdr.p ((shuffled r n).2)) + 1)]), (16, .box 1 [.int .i64 0, .nilsl]), (32, .arr 1 (.int .i64) (((shuffled r n).1) : List Int))]⟩ ?_)
   refine AW.cd ((pick (Rdr.b ((shuffled r n).2)) (Rdr.p ((shuffled r n).2)) 14) == 2) ?_ ?_
   ·
    intro h9
    have h9q : (pick (Rdr.b ((shuffled r n).2)) (Rdr.p ((shuffled r n).2)) 14) = 2 := (Go.Am.beq_pos h9)
    have e10 := e8.trans (Go.Am.bif_t h9)
    refine AW.r0 hC [0, 4, 5] [0, 16, 32] ⟨[(0, .ref 0 0 0), (4, .ref 16 1 0), (5, .sub 32 1 0 (Int.toNat (1 + (pick (Rdr.b ((shuffled r n).2)) ((Rdr.p ((shuffled r n).2)) + 1) ((List.length ((shuffled r n).1) : Nat) : Int)))))], [(0, .box 0 [.data (.slice (.int .u8)) ((Rdr.b ((shuffled r n).2)) : List Int), .int .i64 (((Rdr.p ((shuffled r n).2)) + 1) + 1)]), (16, .box 1 [.int .i64 0, .nilsl]), (32, .arr 1 (.int .i64) (((shuffled r n).1) : List Int))]⟩ [(0 ≤ (Rdr.mk (Rdr.b ((shuffled r n).2)) ((Rdr.p ((shuffled r n).2)) + 1)).p ∧ (Rdr.mk (Rdr.b ((shuffled r n).2)) ((Rdr.p ((shuffled r n).2)) + 1)).p ≤ 1099511627776), (-9223372036854775808 ≤ (1 + (pick (Rdr.b ((shuffled r n).2)) ((Rdr.p ((shuffled r n).2)) + 1) ((List.length ((shuffled r n).1) : Nat) : Int))) ∧ (1 + (pick (Rdr.b ((shuffled r n).2)) ((Rdr.p ((shuffled r n).2)) + 1) ((List.length ((shuffled r n).1) : Nat) : Int))) ≤ 9223372036854775807), (0 ≤ (1 + (pick (Rdr.b ((shuffled r n).2)) ((Rdr.p ((shuffled r n).2)) + 1) ((List.length ((shuffled r n).1) : Nat) : Int))) ∧ (1 + (pick (Rdr.b ((shuffled r n).2)) ((Rdr.p ((shuffled r n).2)) + 1) ((List.length ((shuffled r n).1) : Nat) : Int))) ≤ ((List.length ((shuffled r n).1) : Nat) : Int))] ?_ ?_
    ·
     refine ⟨?_, ?_, ?_, trivial⟩
     ·
      simp only [List.length_set, List.length_take, List.length_drop, List.length_cons, List.length_nil]; omega
     ·
      omega
     ·
      omega
    refine AW.seq (AW.r0 hC [4] [0, 16] ⟨[(4, .ref 16 1 0)], [(0, .box 0 [.data (.slice (.int .u8)) ((Rdr.b ((randomTree (Rdr.mk (Rdr.b ((shuffled r n).2)) (((Rdr.p ((shuffled r n).2)) + 1) + 1)) (List.take (Int.toNat (1 + (pick (Rdr.b ((shuffled r n).2)) ((Rdr.p ((shuffled r n).2)) + 1) ((List.length ((shuffled r n).1) : Nat) : Int)))) (List.drop 0 ((shuffled r n).1)))).2)) : List Int), .int .i64 (Rdr.p ((randomTree (Rdr.mk (Rdr.b ((shuffled r n).2)) (((Rdr.p ((shuffled r n).2)) + 1) + 1)) (List.take (Int.toNat (1 + (pick (Rdr.b ((shuffled r n).2)) ((Rdr.p ((shuffled r n).2)) + 1) ((List.length ((shuffled r n).1) : Nat) : Int)))) (List.drop 0 ((shuffled r n).1)))).2))]), (16, .box 1 [.int .i64 (JoinTree.Leaf ((randomTree (Rdr.mk (Rdr.b ((shuffled r n).2)) (((Rdr.p ((shuffled r n).2)) + 1) + 1)) (List.take (Int.toNat (1 + (pick (Rdr.b ((shuffled r n).2)) ((Rdr.p ((shuffled r n).2)) + 1) ((List.length ((shuffled r n).1) : Nat) : Int)))) (List.drop 0 ((shuffled r n).1)))).1)), .data (.slice (.named 3)) ((JoinTree.Kids ((randomTree (Rdr.mk (Rdr.b ((shuffled r n).2)) (((Rdr.p ((shuffled r n).2)) + 1) + 1)) (List.take (Int.toNat (1 + (pick (Rdr.b ((shuffled r n).2)) ((Rdr.p ((shuffled r n).2)) + 1) ((List.length ((shuffled r n).1) : Nat) : Int)))) (List.drop 0 ((shuffled r n).1)))).1)) : List JoinTree)])]⟩ [((0 ≤ (Rdr.mk (Rdr.b ((shuffled r n).2)) (((Rdr.p ((shuffled r n).2)) + 1) + 1)).p ∧ (Rdr.mk (Rdr.b ((shuffled r n).2)) (((Rdr.p ((shuffled r n).2)) + 1) + 1)).p + (List.length (List.take (Int.toNat (1 + (pick (Rdr.b ((shuffled r n).2)) ((Rdr.p ((shuffled r n).2)) + 1) ((List.length ((shuffled r n).1) : Nat) : Int)))) (List.drop 0 ((shuffled r n).1))) : Int) ≤ 1000000000000) ∧ (1 ≤ List.length (List.take (Int.toNat (1 + (pick (Rdr.b ((shuffled r n).2)) ((Rdr.p ((shuffled r n).2)) + 1) ((List.length ((shuffled r n).1) : Nat) : Int)))) (List.drop 0 ((shuffled r n).1))) ∧ List.length (List.take (Int.toNat (1 + (pick (Rdr.b ((shuffled r n).2)) ((Rdr.p ((shuffled r n).2)) + 1) ((List.length ((shuffled r n).1) : Nat) : Int)))) (List.drop 0 ((shuffled r n).1))) ≤ 1000))] ?_ ?_)
    ·
     refine ⟨?_, trivial⟩
     ·
      simp only [List.length_set, List.length_take, List.length_drop, List.length_cons, List.length_nil]; omega
    exact AW.ret (AW.retE (β := JoinTree × Rdr) (fun v => [⟨(.named 3), v.1⟩]) (fun v => [⟨(.named 2), v.2⟩]) (v := ((JoinTree.mk (JoinTree.Leaf ((randomTree (Rdr.mk (Rdr.b ((shuffled r n).2)) (((Rdr.p ((shuffled r n).2)) + 1) + 1)) (List.take (Int.toNat (1 + (pick (Rdr.b ((shuffled r n).2)) ((Rdr.p ((shuffled r n).2)) + 1) ((List.length ((shuffled r n).1) : Nat) : Int)))) (List.drop 0 ((shuffled r n).1)))).1)) (JoinTree.Kids ((randomTree (Rdr.mk (Rdr.b ((shuffled r n).2)) (((Rdr.p ((shuffled r n).2)) + 1) + 1)) (List.take (Int.toNat (1 + (pick (Rdr.b ((shuffled r n).2)) ((Rdr.p ((shuffled r n).2)) + 1) ((List.length ((shuffled r n).1) : Nat) : Int)))) (List.drop 0 ((shuffled r n).1)))).1))), ((randomTree (Rdr.mk (Rdr.b ((shuffled r n).2)) (((Rdr.p ((shuffled r n).2)) + 1) + 1)) (List.take (Int.toNat (1 + (pick (Rdr.b ((shuffled r n).2)) ((Rdr.p ((shuffled r n).2)) + 1) ((List.length ((shuffled r n).1) : Nat) : Int)))) (List.drop 0 ((shuffled r n).1)))).2))) e10 (by kernel_rfl) rfl rfl)
   ·
    intro h11
    have h11q : (pick (Rdr.b ((shuffled r n).2)) (Rdr.p ((shuffled r n).2)) 14) ≠ 2 := (Go.Am.beq_neg h11)
    have e12 := e8.trans (Go.Am.bif_f h11)
    refine AW.kp [0, 4, 5] [0, 16, 32] ⟨[(0, .ref 0 0 0), (4, .ref 16 1 0), (5, .arr 32 1)], [(0, .box 0 [.data (.slice (.int .u8)) ((Rdr.b ((shuffled r n).2)) : List Int), .int .i64 ((Rdr.p ((shuffled r n).2)) + 1)]), (16, .box 1 [.int .i64 0, .nilsl]), (32, .arr 1 (.int .i64) (((shuffled r n).1) : List Int))]⟩ ?_
    refine AW.skip (AW.seq (AW.r0 hC [4] [0, 16] ⟨[(4, .ref 16 1 0)], [(0, .box 0 [.data (.slice (.int .u8)) ((Rdr.b ((randomTree (Rdr.mk (Rdr.b ((shuffled r n).2)) ((Rdr.p ((shuffled r n).2)) + 1)) ((shuffled r n).1)).2)) : List Int), .int .i64 (Rdr.p ((randomTree (Rdr.mk (Rdr.b ((shuffled r n).2)) ((Rdr.p ((shuffled r n).2)) + 1)) ((shuffled r n).1)).2))]), (16, .box 1 [.int .i64 (JoinTree.Leaf ((randomTree (Rdr.mk (Rdr.b ((shuffled r n).2)) ((Rdr.p ((shuffled r n).2)) + 1)) ((shuffled r n).1)).1)), .data (.slice (.named 3)) ((JoinTree.Kids ((randomTree (Rdr.mk (Rdr.b ((shuffled r n).2)) ((Rdr.p ((shuffled r n).2)) + 1)) ((shuffled r n).1)).1)) : List JoinTree)])]⟩ [((0 ≤ (Rdr.mk (Rdr.b ((shuffled r n).2)) ((Rdr.p ((shuffled r n).2)) + 1)).p ∧ (Rdr.mk (Rdr.b ((shuffled r n).2)) ((Rdr.p ((shuffled r n).2)) + 1)).p + (List.length ((shuffled r n).1) : Int) ≤ 1000000000000) ∧ (1 ≤ List.length ((shuffled r n).1) ∧ List.length ((shuffled r n).1) ≤ 1000))] ?_ ?_))
    ·
     refine ⟨?_, trivial⟩
     ·
      simp only [List.length_set, List.length_take, List.length_drop, List.length_cons, List.length_nil]; omega
    exact AW.ret (AW.retE (β := JoinTree × Rdr) (fun v => [⟨(.named 3), v.1⟩]) (fun v => [⟨(.named 2), v.2⟩]) (v := ((JoinTree.mk (JoinTree.Leaf ((randomTree (Rdr.mk (Rdr.b ((shuffled r n).2)) ((Rdr.p ((shuffled r n).2)) + 1)) ((shuffled r n).1)).1)) (JoinTree.Kids ((randomTree (Rdr.mk (Rdr.b ((shuffled r n).2)) ((Rdr.p ((shuffled r n).2)) + 1)) ((shuffled r n).1)).1))), ((randomTree (Rdr.mk (Rdr.b ((shuffled r n).2)) ((Rdr.p ((shuffled r n).2)) + 1)) ((shuffled r n).1)).2))) e12 (by kernel_rfl) rfl rfl)

theorem anyGraph_l0_len (r : Rdr) : ∀ (k i : Nat) (p : Int) (a : List Int), Int.toNat ((1 + (pick (Rdr.b r) (Rdr.p r) 5)) - (i : Int)) < k → (anyGraph_l0 r k i p a).2.length = a.length + Int.toNat ((1 + (pick (Rdr.b r) (Rdr.p r) 5)) - (i : Int)) := by
 intro k
 induction k with
 | zero => intro i p a h; omega
 | succ k ih =>
  intro i p a hk
  unfold anyGraph_l0
  by_cases h : ((i : Nat) : Int) < 1 + pick (Rdr.b r) (Rdr.p r) 5
  ·
   rw [decide_eq_true h, cond_true, ih (i + 1) _ _ (by omega)]
   simp only [List.length_append, List.length_cons, List.length_nil]
   omega
  ·
   rw [decide_eq_false h, cond_false]
   simp only
   omega

theorem anyGraph_rows (r : Rdr) : 1 ≤ (anyGraph r).1.Rows.length ∧ (anyGraph r).1.Rows.length ≤ 10 := by
 have h5 := pick_ok (n := 5) r.b r.p (by decide)
 have a := anyGraph_l0_len r (Int.toNat ((1 + (pick (Rdr.b r) (Rdr.p r) 5)) - ((0 : Nat) : Int)) + 1) 0 ((Rdr.p r) + 1) [] (Nat.lt_succ_self _)
 dsimp only [anyGraph, Go.Am.andThen]
 generalize anyGraph_l0 r (Int.toNat ((1 + (pick (Rdr.b r) (Rdr.p r) 5)) - ((0 : Nat) : Int)) + 1) 0 ((Rdr.p r) + 1) [] = x at *
 obtain ⟨p, l⟩ := x
 simp only [List.length_nil] at a ⊢
 generalize anyGraph_l1 r (Int.toNat (pick (Rdr.b r) p 6) + 1) (pick (Rdr.b r) p 6) (p + 1) [] = y
 obtain ⟨q, m⟩ := y
 simp only
 cases (pick (Rdr.b r) q 18 == 0) with
 | true => simp only [cond_true, List.length_set]; omega
 | false =>
  cases (pick (Rdr.b r) q 18 == 1) with
  | true => simp only [cond_true, cond_false]; omega
  | false =>
   cases (pick (Rdr.b r) q 18 == 2) with
   | true => simp only [cond_true, cond_false, List.length_append, List.length_cons, List.length_nil]; omega
   | false => simp only [cond_false]; omega

def DrawTreeCost (code : List Int) : Graph × JoinTree := (((anyGraph (newReader code)).1), (JoinTree.mk (JoinTree.Leaf ((anyTree ((anyGraph (newReader code)).2) ((List.length (Graph.Rows ((anyGraph (newReader code)).1)) : Nat) : Int)).1)) (JoinTree.Kids ((anyTree ((anyGraph (newReader code)).2) ((List.length (Graph.Rows ((anyGraph (newReader code)).1)) : Nat) : Int)).1))))

def DrawTreeCost_sp : FnSpec := mkSpec [.val (.slice (.int .u8))] [.val (.named 1), .val (.named 3)] (fun (code : List Int) => True) (fun (code : List Int) => [⟨(.named 1), ((DrawTreeCost code).1)⟩, ⟨(.named 3), ((DrawTreeCost code).2)⟩])

theorem DrawTreeCost_ok : FnOK Try.prog 31 DrawTreeCost_sp := by
 have hC : CtxOK Try.prog (mkCtx tyL [(49, newReader_sp), (50, anyGraph_sp), (65, anyTree_sp)]) := CtxOK.cons newReader_ok (CtxOK.cons anyGraph_ok (CtxOK.cons anyTree_ok (CtxOK.nil tyOK)))
 have hM : Try.prog.follows .mixedOrders = true := Try.checked.mixed
 refine FnOK.of_body Try.func31 (by kernel_rfl) rfl (C := (mkCtx tyL [(49, newReader_sp), (50, anyGraph_sp), (65, anyTree_sp)])) hC.ty (by kernel_rfl) ?_
 intro (code : List Int) hwf hpre E
 have hpre : True := hpre
 have hw_code : Wf ⟨(.slice (.int .u8)), (code : List Int)⟩ := hwf _ (List.Mem.head _)
 have hl_code : ((List.length code : Nat) : Int) ≤ 9223372036854775807 := hw_code.len
 have h0 := newReader_p code
 have hg := anyGraph_p (newReader code)
 have hr := anyGraph_rows (newReader code)
 have e0 : DrawTreeCost code = DrawTreeCost code := rfl
 refine AW.seq (AW.r1 hC [0, 2, 3] [8, 12] ⟨[(0, .data (.slice (.int .u8)) (code : List Int)), (2, .ref 8 1 0), (3, .ref 12 1 0)], [(8, .box 1 [.nilsl, .nilsl]), (12, .box 1 [.int .i64 0, .nilsl])]⟩ ?_)
 refine AW.seq (AW.r0 hC [2, 3, 4] [8, 12, 28] ⟨[(2, .ref 8 1 0), (3, .ref 12 1 0), (4, .ref 28 1 0)], [(8, .box 1 [.nilsl, .nilsl]), (12, .box 1 [.int .i64 0, .nilsl]), (28, .box 1 [.data (.slice (.int .u8)) ((Rdr.b (newReader code)) : List Int), .int .i64 (Rdr.p (newReader code))])]⟩ [(True)] ?_ ?_)
 ·
  refine ⟨?_, trivial⟩
  ·
   trivial
 refine AW.seq (AW.r0 hC [2, 3, 4, 5] [8, 12, 20, 28] ⟨[(2, .ref 8 1 0), (3, .ref 12 1 0), (4, .ref 28 1 0), (5, .ref 20 1 0)], [(8, .box 1 [.nilsl, .nilsl]), (12, .box 1 [.int .i64 0, .nilsl]), (20, .box 1 [.data (.slice (.int .i64)) ((Graph.Rows ((anyGraph (newReader code)).1)) : List Int), .data (.slice (.named 0)) ((Graph.Edges ((anyGraph (newReader code)).1)) : List Edge)]), (28, .box 1 [.data (.slice (.int .u8)) ((Rdr.b ((anyGraph (newReader code)).2)) : List Int), .int .i64 (Rdr.p ((anyGraph (newReader code)).2))])]⟩ [(0 ≤ (newReader code).p ∧ (newReader code).p ≤ 1000000000000)] ?_ ?_)
 ·
  refine ⟨?_, trivial⟩
  ·
   omega
 refine AW.seq (AW.d0 hC hM [2, 3] [8, 12] ⟨[(2, .ref 8 1 0), (3, .ref 12 1 0)], [(8, .box 1 [.data (.slice (.int .i64)) ((Graph.Rows ((anyGraph (newReader code)).1)) : List Int), .data (.slice (.named 0)) ((Graph.Edges ((anyGraph (newReader code)).1)) : List Edge)]), (12, .box 1 [.int .i64 (JoinTree.Leaf ((anyTree ((anyGraph (newReader code)).2) ((List.length (Graph.Rows ((anyGraph (newReader code)).1)) : Nat) : Int)).1)), .data (.slice (.named 3)) ((JoinTree.Kids ((anyTree ((anyGraph (newReader code)).2) ((List.length (Graph.Rows ((anyGraph (newReader code)).1)) : Nat) : Int)).1)) : List JoinTree)])]⟩ [((0 ≤ ((anyGraph (newReader code)).2).p ∧ ((anyGraph (newReader code)).2).p ≤ 100000000000) ∧ (1 ≤ ((List.length (Graph.Rows ((anyGraph (newReader code)).1)) : Nat) : Int) ∧ ((List.length (Graph.Rows ((anyGraph (newReader code)).1)) : Nat) : Int) ≤ 10))] ?_ ?_)
 ·
  refine ⟨?_, trivial⟩
  ·
   omega
 exact AW.ret (AW.retE (β := Graph × JoinTree) (fun v => [⟨(.named 1), v.1⟩, ⟨(.named 3), v.2⟩]) (fun v => []) (v := (((anyGraph (newReader code)).1), (JoinTree.mk (JoinTree.Leaf ((anyTree ((anyGraph (newReader code)).2) ((List.length (Graph.Rows ((anyGraph (newReader code)).1)) : Nat) : Int)).1)) (JoinTree.Kids ((anyTree ((anyGraph (newReader code)).2) ((List.length (Graph.Rows ((anyGraph (newReader code)).1)) : Nat) : Int)).1))))) e0 (by kernel_rfl) rfl rfl)

end
end Go.Proofs.Ytpoohhjlpepmfaa
