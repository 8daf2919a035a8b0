/-
  A part of the proof of this claim (AoQ3): what functions of the program compute, and plain facts of that. No conditions.
-/
import Derived.Test.YtclennmbceaoeaaAo8
import Derived.Test.YtclennmbceaoeaaAnG
import Derived.Test.YtclennmbceaoeaaAoQ1
import Derived.Test.YtclennmbceaoeaaAoX
set_option linter.all false
namespace Go.Proofs.Ytclennmbceaoeaa
open Go Go.Am
noncomputable section

def shuffled_l0 (r : Rdr) (n : Int) : Nat → Nat → Int → (List Int) → Int × (List Int)
 | 0, i, r1, out => (r1, out)
 | k + 1, i, r1, out => (bif (decide (((i : Nat) : Int) < n)) then (shuffled_l0 r n k (i + 1) (r1 + 1) (((([] : List Int) ++ (List.take (Int.toNat (pick (Rdr.b r) r1 (((List.length out) + 1 : Nat) : Int))) (List.drop 0 out))) ++ ([((i : Nat) : Int)] : List Int)) ++ (List.take (List.length out - (Int.toNat (pick (Rdr.b r) r1 (((List.length out) + 1 : Nat) : Int)))) (List.drop (Int.toNat (pick (Rdr.b r) r1 (((List.length out) + 1 : Nat) : Int))) out)))) else (r1, out))

def shuffled (r : Rdr) (n : Int) : (List Int) × Rdr := (Go.Am.andThen (shuffled_l0 r n (Int.toNat (n - ((0 : Nat) : Int)) + 1) 0 (Rdr.p r) ([] : List Int)) (fun z => (fun (r1 : Int) (out : List Int) => (out, (Rdr.mk (Rdr.b r) r1))) z.1 z.2))

def shuffled_sp : FnSpec := mkSpecB [.box 2, .val (.int .i64)] [.own (.int .i64)] (fun (r : Rdr) (n : Int) => (0 ≤ r.p ∧ r.p ≤ 1000000000000) ∧ n ≤ 1000) (fun (r : Rdr) (n : Int) => [⟨(.slice (.int .i64)), ((shuffled r n).1)⟩]) (fun (r : Rdr) (n : Int) => [⟨(.named 2), ((shuffled r n).2)⟩])

theorem shuffled_ok : FnOK Try.prog 20 shuffled_sp := by
 have hC : CtxOK Try.prog (mkCtx tyL [(37, pickS)]) := CtxOK.cons pickS_ok (CtxOK.nil tyOK); refine FnOK.of_body Try.func20 (by kernel_rfl) rfl (C := (mkCtx tyL [(37, pickS)])) hC.ty (by kernel_rfl) ?_; intro (r : Rdr) (n : Int) hwf hpre E; have hpre : (0 ≤ r.p ∧ r.p ≤ 1000000000000) ∧ n ≤ 1000 := hpre; have hw_r : Wf ⟨(.named 2), (r : Rdr)⟩ := hwf _ (List.Mem.head _); have hl_r_b : ((List.length (Rdr.b r) : Nat) : Int) ≤ 9223372036854775807 := (hw_r.field (tv := ⟨(.slice (.int .u8)), Rdr.b r⟩) (List.Mem.head _)).len; have hr_r_p : -9223372036854775808 ≤ Rdr.p r ∧ Rdr.p r ≤ 9223372036854775807 := (hw_r.field (tv := ⟨(.int .i64), Rdr.p r⟩) (List.Mem.tail _ (List.Mem.head _))).int_inv; have hw_n : Wf ⟨(.int .i64), (n : Int)⟩ := hwf _ (List.Mem.tail _ (List.Mem.head _)); have hr_n : -9223372036854775808 ≤ n ∧ n ≤ 9223372036854775807 := hw_n.int_inv; have e0 : shuffled r n = shuffled r n := rfl; refine AW.seq (AW.r1U hC [0, 1] [0] [] [] ?_); refine AW.seq (AW.r1U hC [0, 1, 5] [0, 36] [(5, .arr 36 1)] [(36, .arr 1 (.int .i64) (([] : List Int) : List Int))] ?_); refine AW.seq (AW.seq (AW.r1U hC [0, 1, 5, 6] [0, 36] [(6, .int .i64 0)] [] ?_)); refine AW.cutQ (α := Int × (List Int)) (fun x => ⟨[(5, .arr 36 1)], [(0, .box 0 [.data (.slice (.int .u8)) ((Rdr.b r) : List Int), .int .i64 x.1]), (36, .arr 1 (.int .i64) (x.2 : List Int))]⟩) (fun x => ((0 ≤ x.1 ∧ x.1 ≤ r.p + 1000) ∧ (List.length x.2 ≤ 1000)) ∧ (shuffled_l0 r n (Int.toNat (n - ((0 : Nat) : Int)) + 1) 0 (Rdr.p r) ([] : List Int)) = x) ?_ ?_
 ·
  skip; refine AW.block (AW.loopR (α := Nat × Int × (List Int)) (fun x => ⟨[(0, .ref 0 0 0), (1, .int .i64 n), (5, .arr 36 1), (6, .int .i64 ((x.1 : Nat) : Int))], [(0, .box 0 [.data (.slice (.int .u8)) ((Rdr.b r) : List Int), .int .i64 x.2.1]), (36, .arr 1 (.int .i64) (x.2.2 : List Int))]⟩) (fun x => ((0 ≤ x.2.1 ∧ x.2.1 ≤ r.p + (x.1 : Int)) ∧ (List.length x.2.2 = x.1 ∧ x.1 ≤ 1000)) ∧ ∃ k, Int.toNat (n - ((x.1 : Nat) : Int)) < k ∧ (shuffled_l0 r n (Int.toNat (n - ((0 : Nat) : Int)) + 1) 0 (Rdr.p r) ([] : List Int)) = shuffled_l0 r n k x.1 x.2.1 x.2.2) (fun x => Int.toNat (n - ((x.1 : Nat) : Int))) (0, (Rdr.p r), ([] : List Int)) (by kernel_rfl) ⟨?_, _, Nat.lt_succ_self _, rfl⟩ ?_)
  · first | exact ⟨by omega, rfl, by omega⟩ | (dsimp only; exact ⟨by omega, rfl, by omega⟩) | (show (0 ≤ (Rdr.p r) ∧ (Rdr.p r) ≤ r.p + (0 : Int)) ∧ (List.length ([] : List Int) = 0 ∧ 0 ≤ 1000); exact ⟨by omega, rfl, by omega⟩)
  ·
   intro x hR; obtain ⟨i, r1, out⟩ := x; obtain ⟨hI0, k15, hk13, e14⟩ := hR; (first | dsimp only at e14 | skip); replace hI0 : (0 ≤ r1 ∧ r1 ≤ r.p + (i : Int)) ∧ (List.length out = i ∧ i ≤ 1000) := hI0; replace hk13 : Int.toNat (n - ((i : Nat) : Int)) < k15 := hk13; obtain ⟨k15q, rfl⟩ : ∃ k, k15 = k + 1 := ⟨k15 - 1, by omega⟩; have hk := pick_ok (n := (((List.length out) + 1 : Nat) : Int)) r.b r1 (by omega); refine AW.seq (AW.seq (AW.r1U hC [0, 1, 5, 6, 12] [0, 36] [(12, .bool (decide (((i : Nat) : Int) < n)))] [] ?_)); refine AW.cdE e14 ?_ ?_
   ·
    intro h16q e17; refine AW.kpU [0, 1, 5, 6] [0, 36] [] [] ?_; refine AW.skip (AW.seq (AW.block (AW.seq (AW.r0U hC [0, 1, 5, 6, 7] [0, 36] [(7, .int .i64 (pick (Rdr.b r) r1 (((List.length out) + 1 : Nat) : Int)))] [(0, .box 0 [.data (.slice (.int .u8)) ((Rdr.b r) : List Int), .int .i64 (r1 + 1)])] [(-9223372036854775808 ≤ (((List.length out) + 1 : Nat) : Int) ∧ (((List.length out) + 1 : Nat) : Int) ≤ 9223372036854775807), (0 ≤ (Rdr.mk (Rdr.b r) r1).p ∧ (Rdr.mk (Rdr.b r) r1).p ≤ 1099511627776)] ?_ ?_))))
    ·
     refine ⟨?_, ?_, trivial⟩
     · first | (omega) | ((simp only [List.length_append, List.length_cons, List.length_nil, List.length_take, List.length_drop, List.nil_append] at *; omega))
     · first | (omega) | ((simp only [List.length_append, List.length_cons, List.length_nil, List.length_take, List.length_drop, List.nil_append] at *; omega))
    refine AW.seq (AW.r0U hC [0, 1, 5, 6, 7, 8] [0, 36, 80] [(8, .arr 80 1)] [(80, .arr 1 (.int .i64) ((([] : List Int) ++ (List.take (Int.toNat (pick (Rdr.b r) r1 (((List.length out) + 1 : Nat) : Int))) (List.drop 0 out))) : List Int))] [(0 ≤ (pick (Rdr.b r) r1 (((List.length out) + 1 : Nat) : Int)) ∧ (pick (Rdr.b r) r1 (((List.length out) + 1 : Nat) : Int)) ≤ ((List.length out : Nat) : Int)), (0 + ((List.length (List.take (Int.toNat (pick (Rdr.b r) r1 (((List.length out) + 1 : Nat) : Int))) (List.drop 0 out)) : Nat) : Int) ≤ 4294967296)] ?_ ?_)
    ·
     refine ⟨?_, ?_, trivial⟩
     · first | (omega) | ((simp only [List.length_append, List.length_cons, List.length_nil, List.length_take, List.length_drop, List.nil_append] at *; omega))
     · first | (omega) | ((simp only [List.length_append, List.length_cons, List.length_nil, List.length_take, List.length_drop, List.nil_append] at *; omega))
    refine AW.seq (AW.r0U hC [0, 1, 5, 6, 7, 8] [0, 36, 80] [] [(80, .arr 1 (.int .i64) (((([] : List Int) ++ (List.take (Int.toNat (pick (Rdr.b r) r1 (((List.length out) + 1 : Nat) : Int))) (List.drop 0 out))) ++ ([((i : Nat) : Int)] : List Int)) : List Int))] [(((List.length (([] : List Int) ++ (List.take (Int.toNat (pick (Rdr.b r) r1 (((List.length out) + 1 : Nat) : Int))) (List.drop 0 out))) : Nat) : Int) + ((List.length ([((i : Nat) : Int)] : List Int) : Nat) : Int) ≤ 4294967296)] ?_ ?_)
    ·
     refine ⟨?_, trivial⟩
     · first | (omega) | ((simp only [List.length_append, List.length_cons, List.length_nil, List.length_take, List.length_drop, List.nil_append] at *; omega))
    refine AW.r0U hC [0, 1, 5, 6] [0, 80] [(5, .arr 80 1)] [(80, .arr 1 (.int .i64) ((((([] : List Int) ++ (List.take (Int.toNat (pick (Rdr.b r) r1 (((List.length out) + 1 : Nat) : Int))) (List.drop 0 out))) ++ ([((i : Nat) : Int)] : List Int)) ++ (List.take (List.length out - (Int.toNat (pick (Rdr.b r) r1 (((List.length out) + 1 : Nat) : Int)))) (List.drop (Int.toNat (pick (Rdr.b r) r1 (((List.length out) + 1 : Nat) : Int))) out))) : List Int))] [(0 ≤ (pick (Rdr.b r) r1 (((List.length out) + 1 : Nat) : Int)) ∧ (pick (Rdr.b r) r1 (((List.length out) + 1 : Nat) : Int)) ≤ ((List.length out : Nat) : Int)), (((List.length ((([] : List Int) ++ (List.take (Int.toNat (pick (Rdr.b r) r1 (((List.length out) + 1 : Nat) : Int))) (List.drop 0 out))) ++ ([((i : Nat) : Int)] : List Int)) : Nat) : Int) + ((List.length (List.take (List.length out - (Int.toNat (pick (Rdr.b r) r1 (((List.length out) + 1 : Nat) : Int)))) (List.drop (Int.toNat (pick (Rdr.b r) r1 (((List.length out) + 1 : Nat) : Int))) out)) : Nat) : Int) ≤ 4294967296)] ?_ ?_
    ·
     refine ⟨?_, ?_, trivial⟩
     · first | (omega) | ((simp only [List.length_append, List.length_cons, List.length_nil, List.length_take, List.length_drop, List.nil_append] at *; omega))
     · first | (omega) | ((simp only [List.length_append, List.length_cons, List.length_nil, List.length_take, List.length_drop, List.nil_append] at *; omega))
    refine AW.r0U hC [0, 1, 5, 6] [0, 80] [(6, .int .i64 ((i + 1 : Nat) : Int))] [] [(-9223372036854775808 ≤ ((i + 1 : Nat) : Int) ∧ ((i + 1 : Nat) : Int) ≤ 9223372036854775807)] ?_ ?_
    ·
     refine ⟨?_, trivial⟩
     · first | (omega) | ((simp only [List.length_append, List.length_cons, List.length_nil, List.length_take, List.length_drop, List.nil_append] at *; omega))
    refine AW.backR (x := (i, r1, out)) (i + 1, (r1 + 1), (((([] : List Int) ++ (List.take (Int.toNat (pick (Rdr.b r) r1 (((List.length out) + 1 : Nat) : Int))) (List.drop 0 out))) ++ ([((i : Nat) : Int)] : List Int)) ++ (List.take (List.length out - (Int.toNat (pick (Rdr.b r) r1 (((List.length out) + 1 : Nat) : Int)))) (List.drop (Int.toNat (pick (Rdr.b r) r1 (((List.length out) + 1 : Nat) : Int))) out)))) (Turn.of [0, 1, 5, 6] [0, 80] [(80, 36)] [0, 1, 5, 6] [0, 36] (by kernel_rfl)) ⟨?_, k15q, ?_, e17⟩ ?_
    · first | simp only [List.length_append, List.length_cons, List.length_nil, List.length_take, List.length_drop, List.nil_append]; omega | (dsimp only; simp only [List.length_append, List.length_cons, List.length_nil, List.length_take, List.length_drop, List.nil_append]; omega) | (show (0 ≤ (r1 + 1) ∧ (r1 + 1) ≤ r.p + ((i + 1) : Int)) ∧ (List.length (((([] : List Int) ++ (List.take (Int.toNat (pick (Rdr.b r) r1 (((List.length out) + 1 : Nat) : Int))) (List.drop 0 out))) ++ ([((i : Nat) : Int)] : List Int)) ++ (List.take (List.length out - (Int.toNat (pick (Rdr.b r) r1 (((List.length out) + 1 : Nat) : Int)))) (List.drop (Int.toNat (pick (Rdr.b r) r1 (((List.length out) + 1 : Nat) : Int))) out))) = (i + 1) ∧ (i + 1) ≤ 1000); simp only [List.length_append, List.length_cons, List.length_nil, List.length_take, List.length_drop, List.nil_append]; omega)
    · first | omega | (simp only [lens]; omega) | (dsimp only; omega) | (dsimp only; (simp only [lens]; omega)) | (show Int.toNat (n - (((i + 1) : Nat) : Int)) < k15q; omega) | (show Int.toNat (n - (((i + 1) : Nat) : Int)) < k15q; (simp only [lens]; omega))
    · first | omega | (simp only [lens]; omega) | (dsimp only; omega) | (dsimp only; (simp only [lens]; omega)) | (show Int.toNat (n - (((i + 1) : Nat) : Int)) < Int.toNat (n - ((i : Nat) : Int)); omega) | (show Int.toNat (n - (((i + 1) : Nat) : Int)) < Int.toNat (n - ((i : Nat) : Int)); (simp only [lens]; omega))
   · intro h18q e19; refine AW.kpU [5] [0, 36] [] [] ?_; refine AW.exit ?_; refine AW.meet (r1, out) (by kernel_rfl) ⟨?_, e19⟩; first | omega | (dsimp only; omega) | (show (0 ≤ r1 ∧ r1 ≤ r.p + 1000) ∧ (List.length out ≤ 1000); omega)
 · intro x hR; obtain ⟨r1, out⟩ := x; obtain ⟨hJ0, e20⟩ := hR; replace hJ0 : (0 ≤ r1 ∧ r1 ≤ r.p + 1000) ∧ (List.length out ≤ 1000) := hJ0; have e21 := e0.trans (Go.Am.then_eq e20); (first | dsimp only at e21 | skip); refine AW.seq (AW.r1U hC [4] [0, 36] [(4, .arr 36 1)] [] ?_); exact AW.ret (AW.retE (β := (List Int) × Rdr) (fun v => [⟨(.slice (.int .i64)), v.1⟩]) (fun v => [⟨(.named 2), v.2⟩]) (v := (out, (Rdr.mk (Rdr.b r) r1))) e21 (by kernel_rfl) rfl rfl)

theorem anyGraph_l0_len (r : Rdr) : ∀ (k i : Nat) (p : Int) (a : List Int), Int.toNat ((1 + (pick (Rdr.b r) (Rdr.p r) 5)) - (i : Int)) < k → (anyGraph_l0 r k i p a).2.length = a.length + Int.toNat ((1 + (pick (Rdr.b r) (Rdr.p r) 5)) - (i : Int)) := by
 intro k
 induction k with
 | zero => intro i p a h; omega
 | succ k ih =>
  intro i p a hk; unfold anyGraph_l0; by_cases h : ((i : Nat) : Int) < 1 + pick (Rdr.b r) (Rdr.p r) 5
  · rw [decide_eq_true h, cond_true, ih (i + 1) _ _ (by omega)]; simp only [List.length_append, List.length_cons, List.length_nil]; omega
  · rw [decide_eq_false h, cond_false]; simp only; omega

theorem anyGraph_rows (r : Rdr) : 1 ≤ (anyGraph r).1.Rows.length ∧ (anyGraph r).1.Rows.length ≤ 10 := by
 have h5 := pick_ok (n := 5) r.b r.p (by decide); have a := anyGraph_l0_len r (Int.toNat ((1 + (pick (Rdr.b r) (Rdr.p r) 5)) - ((0 : Nat) : Int)) + 1) 0 ((Rdr.p r) + 1) [] (Nat.lt_succ_self _); dsimp only [anyGraph, Go.Am.andThen]; generalize anyGraph_l0 r (Int.toNat ((1 + (pick (Rdr.b r) (Rdr.p r) 5)) - ((0 : Nat) : Int)) + 1) 0 ((Rdr.p r) + 1) [] = x at *; obtain ⟨p, l⟩ := x; simp only [List.length_nil] at a ⊢; generalize anyGraph_l1 r (Int.toNat (pick (Rdr.b r) p 6) + 1) (pick (Rdr.b r) p 6) (p + 1) [] = y; obtain ⟨q, m⟩ := y; simp only
 cases (pick (Rdr.b r) q 18 == 0) with
 | true => simp only [cond_true, List.length_set]; omega
 | false =>
  cases (pick (Rdr.b r) q 18 == 1) with
  | true => simp only [cond_true, cond_false]; omega
  | false =>
   cases (pick (Rdr.b r) q 18 == 2) with
   | true => simp only [cond_true, cond_false, List.length_append, List.length_cons, List.length_nil]; omega
   | false => simp only [cond_false]; omega

end
end Go.Proofs.Ytclennmbceaoeaa


namespace Go.Proofs.Ytclennmbceaoeaa
open Go Go.Am
noncomputable section

theorem shuf_step (a : List Int) (q i : Nat) (hq : q ≤ a.length) : (((([] : List Int) ++ (List.take q (List.drop 0 a))) ++ ([((i : Nat) : Int)] : List Int)) ++ (List.take (List.length a - q) (List.drop q a))).Perm (a ++ [((i : Nat) : Int)]) := by
 have e : List.take (List.length a - q) (List.drop q a) = List.drop q a := List.take_of_length_le (by rw [List.length_drop]; exact Nat.le_refl _); rw [List.nil_append, List.drop_zero, e, List.append_assoc]; have h1 : (List.take q a ++ ([((i : Nat) : Int)] ++ List.drop q a)).Perm (List.take q a ++ (List.drop q a ++ [((i : Nat) : Int)])) := List.Perm.append_left _ List.perm_append_comm; refine h1.trans ?_; rw [← List.append_assoc, List.take_append_drop]

theorem shuffled_l0_perm (r : Rdr) (n : Int) : ∀ (k i : Nat) (p : Int) (a : List Int), a.Perm ((List.range i).map fun j => ((j : Nat) : Int)) → Int.toNat (n - (i : Int)) < k → (shuffled_l0 r n k i p a).2.Perm ((List.range (i + Int.toNat (n - (i : Int)))).map fun j => ((j : Nat) : Int)) := by
 intro k
 induction k with
 | zero => intro i p a _ h; omega
 | succ k ih =>
  intro i p a ha hk
  have hl : a.length = i := by have := ha.length_eq; simpa using this
  unfold shuffled_l0; by_cases h : ((i : Nat) : Int) < n
  ·
   rw [decide_eq_true h, cond_true]; have hp := pick_ok (n := (((List.length a) + 1 : Nat) : Int)) r.b p (by omega); have hs := shuf_step a (Int.toNat (pick (Rdr.b r) p (((List.length a) + 1 : Nat) : Int))) i (by omega)
   have h2 : (a ++ [((i : Nat) : Int)]).Perm ((List.range (i + 1)).map fun j => ((j : Nat) : Int)) := by
    rw [List.range_succ, List.map_append]; exact List.Perm.append_right _ ha
   have := ih (i + 1) (p + 1) _ (hs.trans h2) (by omega)
   rw [show i + 1 + Int.toNat (n - ((i + 1 : Nat) : Int)) = i + Int.toNat (n - (i : Int)) by omega] at this
   exact this
  · rw [decide_eq_false h, cond_false, show i + Int.toNat (n - (i : Int)) = i by omega]; exact ha

theorem shuffled_perm (r : Rdr) (n : Int) : (shuffled r n).1.Perm ((List.range (Int.toNat n)).map fun j => ((j : Nat) : Int)) := by
 have := shuffled_l0_perm r n (Int.toNat (n - ((0 : Nat) : Int)) + 1) 0 r.p [] (List.Perm.refl _) (Nat.lt_succ_self _)
 rw [show 0 + Int.toNat (n - ((0 : Nat) : Int)) = Int.toNat n by omega] at this
 exact this

def DrawOrders (code : List Int) : Graph × (List Int) := (((anyGraph (newReader code)).1), ((shuffled ((anyGraph (newReader code)).2) ((List.length (Graph.Rows ((anyGraph (newReader code)).1)) : Nat) : Int)).1))

def DrawOrders_sp : FnSpec := mkSpec [.val (.slice (.int .u8))] [.val (.named 1), .val (.slice (.int .i64))] (fun (code : List Int) => True) (fun (code : List Int) => [⟨(.named 1), ((DrawOrders code).1)⟩, ⟨(.slice (.int .i64)), ((DrawOrders code).2)⟩])

theorem DrawOrders_ok : FnOK Try.prog 5 DrawOrders_sp := by
 have hC : CtxOK Try.prog (mkCtx tyL [(18, newReader_sp), (19, anyGraph_sp), (20, shuffled_sp)]) := CtxOK.cons newReader_ok (CtxOK.cons anyGraph_ok (CtxOK.cons shuffled_ok (CtxOK.nil tyOK))); have hM : Try.prog.follows .mixedOrders = true := Try.checked.mixed; refine FnOK.of_body Try.func5 (by kernel_rfl) rfl (C := (mkCtx tyL [(18, newReader_sp), (19, anyGraph_sp), (20, shuffled_sp)])) hC.ty (by kernel_rfl) ?_; intro (code : List Int) hwf hpre E; have hpre : True := hpre; have hw_code : Wf ⟨(.slice (.int .u8)), (code : List Int)⟩ := hwf _ (List.Mem.head _); have hl_code : ((List.length code : Nat) : Int) ≤ 9223372036854775807 := hw_code.len; have h0 := newReader_p code; have hg := anyGraph_p (newReader code); have hr := anyGraph_rows (newReader code); have e0 : DrawOrders code = DrawOrders code := rfl; refine AW.seq (AW.r1U hC [0, 2] [8] [(2, .ref 8 1 0)] [(8, .box 1 [.nilsl, .nilsl])] ?_); refine AW.seq (AW.r0U hC [2, 4] [8, 28] [(4, .ref 28 1 0)] [(28, .box 1 [.data (.slice (.int .u8)) ((Rdr.b (newReader code)) : List Int), .int .i64 (Rdr.p (newReader code))])] [(True)] ?_ ?_)
 ·
  refine ⟨?_, trivial⟩
  · trivial
 refine AW.seq (AW.r0U hC [2, 4, 5] [8, 20, 28] [(5, .ref 20 1 0)] [(20, .box 1 [.data (.slice (.int .i64)) ((Graph.Rows ((anyGraph (newReader code)).1)) : List Int), .data (.slice (.named 0)) ((Graph.Edges ((anyGraph (newReader code)).1)) : List Edge)]), (28, .box 1 [.data (.slice (.int .u8)) ((Rdr.b ((anyGraph (newReader code)).2)) : List Int), .int .i64 (Rdr.p ((anyGraph (newReader code)).2))])] [(0 ≤ (newReader code).p ∧ (newReader code).p ≤ 1000000000000)] ?_ ?_)
 ·
  refine ⟨?_, trivial⟩
  · first | (omega) | ((dsimp only; omega)) | ((simp only [lens] at *; omega))
 refine AW.seq (AW.d0U hC hM [2, 3] [8, 60] [(3, .arr 60 1)] [(8, .box 1 [.data (.slice (.int .i64)) ((Graph.Rows ((anyGraph (newReader code)).1)) : List Int), .data (.slice (.named 0)) ((Graph.Edges ((anyGraph (newReader code)).1)) : List Edge)]), (60, .arr 1 (.int .i64) (((shuffled ((anyGraph (newReader code)).2) ((List.length (Graph.Rows ((anyGraph (newReader code)).1)) : Nat) : Int)).1) : List Int))] [((0 ≤ ((anyGraph (newReader code)).2).p ∧ ((anyGraph (newReader code)).2).p ≤ 1000000000000) ∧ ((List.length (Graph.Rows ((anyGraph (newReader code)).1)) : Nat) : Int) ≤ 1000)] ?_ ?_)
 ·
  refine ⟨?_, trivial⟩
  · first | (omega) | ((dsimp only; omega)) | ((simp only [lens] at *; omega))
 exact AW.ret (AW.retE (β := Graph × (List Int)) (fun v => [⟨(.named 1), v.1⟩, ⟨(.slice (.int .i64)), v.2⟩]) (fun v => []) (v := (((anyGraph (newReader code)).1), ((shuffled ((anyGraph (newReader code)).2) ((List.length (Graph.Rows ((anyGraph (newReader code)).1)) : Nat) : Int)).1))) e0 (by kernel_rfl) rfl rfl)

end
end Go.Proofs.Ytclennmbceaoeaa


namespace Go.Proofs.Ytclennmbceaoeaa
open Go Go.Am
noncomputable section

theorem and_or : ∀ (u : Fin 32) (i j : Fin 5), i.val ≠ j.val → bits .and .i64 (u.val : Int) ((1 : Int) * 2 ^ j.val) = 0 → bits .and .i64 (bits .or .i64 (u.val : Int) ((1 : Int) * 2 ^ i.val)) ((1 : Int) * 2 ^ j.val) = 0 := by decide +kernel

theorem comp_of {n : Nat} (hn : n ≤ 5) : ∀ (t l : List Int) (u : Int), 0 ≤ u ∧ u < 32 → l.length + t.length = n → t.Nodup → (∀ x ∈ t, ∃ i : Nat, x = (i : Int) ∧ i < n ∧ bits .and .i64 u ((1 : Int) * 2 ^ i) = 0) → Comp n l u t := by
 intro t
 induction t with
 | nil => intro l u _ hl _ _; exact .nil hl
 | cons x t ih =>
  intro l u hu hl hd hx; obtain ⟨i, rfl, hi, hb⟩ := hx x (List.Mem.head _); have hd := List.nodup_cons.1 hd; simp only [List.length_cons] at hl; refine .cons hi (by omega) hb (ih _ _ (bit_b hu hn hi).2 (by simp only [List.length_append, List.length_cons, List.length_nil]; omega) hd.2 ?_); intro y hy; obtain ⟨j, rfl, hj, hc⟩ := hx y (List.Mem.tail _ hy); refine ⟨j, rfl, hj, ?_⟩; have hne : i ≠ j := fun e => hd.1 (e ▸ hy); have := and_or ⟨u.toNat, by omega⟩ ⟨i, by omega⟩ ⟨j, by omega⟩ hne
  simp only [Int.toNat_of_nonneg hu.1] at this
  exact this hc

theorem and0 : ∀ i : Fin 5, bits .and .i64 0 ((1 : Int) * 2 ^ i.val) = 0 := by decide

theorem perm_comp {n : Nat} (hn : n ≤ 5) {t : List Int} (h : t.Perm ((List.range n).map fun j => ((j : Nat) : Int))) : Comp n [] 0 t := by
 refine comp_of hn t [] 0 (by decide) (by have := h.length_eq; simpa using this) ?_ ?_
 · rw [h.nodup_iff]; exact List.pairwise_map.2 (List.nodup_range.imp fun h e => h (by omega))
 · intro x hx; obtain ⟨i, hi, rfl⟩ := List.mem_map.1 (h.mem_iff.1 hx); have hi := List.mem_range.1 hi; exact ⟨i, rfl, hi, and0 ⟨i, by omega⟩⟩

theorem perm_RL {n : Nat} {t : List Int} (h : t.Perm ((List.range n).map fun j => ((j : Nat) : Int))) : RL n t ∧ t.length = n := by
 refine ⟨fun i hi => ?_, by have := h.length_eq; simpa using this⟩; rw [getD_at _ _ hi]; obtain ⟨j, hj, e⟩ := List.mem_map.1 (h.mem_iff.1 (List.getElem_mem hi)); have hj := List.mem_range.1 hj; omega

theorem drawn_perm (code : List Int) : (DrawOrders code).2.Perm ((List.range (DrawOrders code).1.Rows.length).map fun j => ((j : Nat) : Int)) := by
 have h := shuffled_perm (anyGraph (newReader code)).2 ((List.length (Graph.Rows ((anyGraph (newReader code)).1)) : Nat) : Int); rw [Int.toNat_natCast] at h; exact h

theorem iSize_eq {g : Graph} (hV : VG g) {m : Int} (hm : 0 ≤ m ∧ m < 32) : iSubsetSize g m = (bif decide (m < 1) || decide (gAll g < m) then -1 else subsetSize g m) := by
 unfold iSubsetSize; rw [size_eq hV hm.1 (by omega), ValidGraph_iff.2 hV]; rfl

theorem iSize_b {g : Graph} (hV : VG g) {m : Int} (hm : 0 ≤ m ∧ m < 32) : -1 ≤ iSubsetSize g m ∧ iSubsetSize g m ≤ 1000000000000000 := by
 have := sSize_b hV hm.1 hm.2; rw [iSize_eq hV hm]
 cases (decide (m < 1) || decide (gAll g < m)) with
 | true => rw [cond_true]; decide
 | false => rw [cond_false]; omega

structure Fnd (code : List Int) : Prop where
 vg : VG (DrawOrders code).1
 ol : (iBestOrder (DrawOrders code).1).1.length = (DrawOrders code).1.Rows.length
 orl : RL (DrawOrders code).1.Rows.length (iBestOrder (DrawOrders code).1).1
 dl : (DrawOrders code).2.length = (DrawOrders code).1.Rows.length
 drl : RL (DrawOrders code).1.Rows.length (DrawOrders code).2

theorem fnd {code : List Int} (h : ¬ (iBestOrder (DrawOrders code).1).2 < 0) : Fnd code := by
 obtain ⟨hV, u, hP, hl, _⟩ := order_good _ (by omega : 0 ≤ (iBestOrder (DrawOrders code).1).2); obtain ⟨h1, h2⟩ := perm_RL (drawn_perm code); exact ⟨hV, hl, (hP.mu hV).km.rl, h2, h1⟩

theorem or_step {g : Graph} (hV : VG g) {l : List Int} (h : RL g.Rows.length l) {i : Nat} (hi : i < l.length) {m : Int} (hm : 0 ≤ m ∧ m < 32) :
  (0 ≤ bits .or .i64 m ((1 : Int) * 2 ^ Int.toNat (List.getD l i 0)) ∧ bits .or .i64 m ((1 : Int) * 2 ^ Int.toNat (List.getD l i 0)) < 32) ∧
  -1 ≤ iSubsetSize g (bits .or .i64 m ((1 : Int) * 2 ^ Int.toNat (List.getD l i 0))) ∧ iSubsetSize g (bits .or .i64 m ((1 : Int) * 2 ^ Int.toNat (List.getD l i 0))) ≤ 1000000000000000 := by
 have a := (oc_step hV h hi hm).1; exact ⟨a, iSize_b hV a⟩

end
end Go.Proofs.Ytclennmbceaoeaa
