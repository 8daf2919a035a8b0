/-
  A part of the proof of this claim (AxE): what functions of the program compute, and plain facts of that. No conditions.
-/
import Derived.Test.YtgbapklfgjnggaaAxD
import Derived.Test.YtgbapklfgjnggaaAxX
set_option linter.all false
namespace Go.Proofs.Ytgbapklfgjnggaa
open Go Go.Am
noncomputable section

def equalTrees_l0 (self : JoinTree → JoinTree → Bool) (a : JoinTree) (b : JoinTree) : Nat → Nat → Unit ⊕ Bool
 | 0, i => .inl ()
 | k + 1, i => (bif (decide (((i : Nat) : Int) < ((List.length (JoinTree.Kids a) : Nat) : Int))) then (bif (!(self (List.getD (JoinTree.Kids a) i JoinTree.zero) (List.getD (JoinTree.Kids b) i JoinTree.zero))) then (.inr false) else (equalTrees_l0 self a b k (i + 1))) else (.inl ()))

def equalTrees_r : Nat → JoinTree → JoinTree → Bool
 | 0, a, b => false
 | fuel + 1, a, b => (bif (bif ((JoinTree.Leaf a) != (JoinTree.Leaf b)) then true else (((List.length (JoinTree.Kids a) : Nat) : Int) != ((List.length (JoinTree.Kids b) : Nat) : Int))) then false else (Sum.elim (fun _ => true) (fun r => r) (equalTrees_l0 (equalTrees_r fuel) a b ((List.length (JoinTree.Kids a)) - 0 + 1) 0)))

def equalTrees (a : JoinTree) (b : JoinTree) : Bool := equalTrees_r (SizeOf.sizeOf a + 1) a b

def equalTrees_spn (fuel : Nat) : FnSpec := mkSpec [.val (.named 3), .val (.named 3)] [.val .bool] (fun (a : JoinTree) (b : JoinTree) => (True) ∧ SizeOf.sizeOf a < fuel) (fun (a : JoinTree) (b : JoinTree) => [⟨.bool, (equalTrees_r fuel a b)⟩])

def equalTrees_sp : FnSpec := mkSpec [.val (.named 3), .val (.named 3)] [.val .bool] (fun (a : JoinTree) (b : JoinTree) => True) (fun (a : JoinTree) (b : JoinTree) => [⟨.bool, (equalTrees a b)⟩])

theorem equalTrees_okn (fuel : Nat) : FnOK Try.prog 40 (equalTrees_spn fuel) := by
 induction fuel with
 | zero => exact FnOK.never Try.func40 (by kernel_rfl) rfl (fun _ _ h => absurd h.2 (Nat.not_lt_zero _))
 | succ fuel ih => ?_
 have hC : CtxOK Try.prog (mkCtx tyL [(40, (equalTrees_spn fuel))]) := CtxOK.cons ih (CtxOK.nil tyOK)
 have hM : Try.prog.follows .mixedOrders = true := Try.checked.mixed
 refine FnOK.of_body Try.func40 (by kernel_rfl) rfl (C := (mkCtx tyL [(40, (equalTrees_spn fuel))])) hC.ty (by kernel_rfl) ?_
 intro (a : JoinTree) (b : JoinTree) hwf hpre E
 have hpre : (True) ∧ SizeOf.sizeOf a < fuel + 1 := hpre
 have hw_a : Wf ⟨(.named 3), (a : JoinTree)⟩ := hwf _ (List.Mem.head _)
 have hr_a_Leaf : -9223372036854775808 ≤ JoinTree.Leaf a ∧ JoinTree.Leaf a ≤ 9223372036854775807 := (hw_a.field (tv := ⟨(.int .i64), JoinTree.Leaf a⟩) (List.Mem.head _)).int_inv
 have hl_a_Kids : ((List.length (JoinTree.Kids a) : Nat) : Int) ≤ 9223372036854775807 := (hw_a.field (tv := ⟨(.slice (.named 3)), JoinTree.Kids a⟩) (List.Mem.tail _ (List.Mem.head _))).len
 have hw_b : Wf ⟨(.named 3), (b : JoinTree)⟩ := hwf _ (List.Mem.tail _ (List.Mem.head _))
 have hr_b_Leaf : -9223372036854775808 ≤ JoinTree.Leaf b ∧ JoinTree.Leaf b ≤ 9223372036854775807 := (hw_b.field (tv := ⟨(.int .i64), JoinTree.Leaf b⟩) (List.Mem.head _)).int_inv
 have hl_b_Kids : ((List.length (JoinTree.Kids b) : Nat) : Int) ≤ 9223372036854775807 := (hw_b.field (tv := ⟨(.slice (.named 3)), JoinTree.Kids b⟩) (List.Mem.tail _ (List.Mem.head _))).len
 have e0 : equalTrees_r (fuel + 1) a b = equalTrees_r (fuel + 1) a b := rfl
 refine AW.seq (AW.r1 hC [2, 3] [8, 12] ⟨[(2, .ref 8 1 0), (3, .ref 12 1 0)], [(8, .box 1 [.int .i64 (JoinTree.Leaf a), .data (.slice (.named 3)) ((JoinTree.Kids a) : List JoinTree)]), (12, .box 1 [.int .i64 (JoinTree.Leaf b), .data (.slice (.named 3)) ((JoinTree.Kids b) : List JoinTree)])]⟩ ?_)
 refine AW.seq (AW.seq (AW.r0U hC [2, 3, 19] [8, 12] [(19, .bool (bif ((JoinTree.Leaf a) != (JoinTree.Leaf b)) then true else (((List.length (JoinTree.Kids a) : Nat) : Int) != ((List.length (JoinTree.Kids b) : Nat) : Int))))] [] [((((JoinTree.Leaf a) != (JoinTree.Leaf b)) = false) → ((((JoinTree.Leaf a) != (JoinTree.Leaf b)) = false))), ((((JoinTree.Leaf a) != (JoinTree.Leaf b)) = false) → ((((JoinTree.Leaf a) != (JoinTree.Leaf b)) = false))), ((((JoinTree.Leaf a) != (JoinTree.Leaf b)) = false) → ((((JoinTree.Leaf a) != (JoinTree.Leaf b)) = false))), ((((JoinTree.Leaf a) != (JoinTree.Leaf b)) = false) → ((((JoinTree.Leaf a) != (JoinTree.Leaf b)) = false))), ((((JoinTree.Leaf a) != (JoinTree.Leaf b)) = false) → ((((JoinTree.Leaf a) != (JoinTree.Leaf b)) = false))), ((((JoinTree.Leaf a) != (JoinTree.Leaf b)) = false) → ((((JoinTree.Leaf a) != (JoinTree.Leaf b)) = false))), ((((JoinTree.Leaf a) != (JoinTree.Leaf b)) = false) → ((((JoinTree.Leaf a) != (JoinTree.Leaf b)) = false)))] ?_ ?_))
 ·
  refine ⟨?_, ?_, ?_, ?_, ?_, ?_, ?_, trivial⟩
  ·
   intro g1
   have g1p0 : (JoinTree.Leaf a) = (JoinTree.Leaf b) := (Go.Am.bne_neg g1)
   assumption
  ·
   intro g2
   have g2p0 : (JoinTree.Leaf a) = (JoinTree.Leaf b) := (Go.Am.bne_neg g2)
   assumption
  ·
   intro g3
   have g3p0 : (JoinTree.Leaf a) = (JoinTree.Leaf b) := (Go.Am.bne_neg g3)
   assumption
  ·
   intro g4
   have g4p0 : (JoinTree.Leaf a) = (JoinTree.Leaf b) := (Go.Am.bne_neg g4)
   assumption
  ·
   intro g5
   have g5p0 : (JoinTree.Leaf a) = (JoinTree.Leaf b) := (Go.Am.bne_neg g5)
   assumption
  ·
   intro g6
   have g6p0 : (JoinTree.Leaf a) = (JoinTree.Leaf b) := (Go.Am.bne_neg g6)
   assumption
  ·
   intro g7
   have g7p0 : (JoinTree.Leaf a) = (JoinTree.Leaf b) := (Go.Am.bne_neg g7)
   assumption
 refine AW.cd (bif ((JoinTree.Leaf a) != (JoinTree.Leaf b)) then true else (((List.length (JoinTree.Kids a) : Nat) : Int) != ((List.length (JoinTree.Kids b) : Nat) : Int))) ?_ ?_
 ·
  intro h8
  have h8q : ((JoinTree.Leaf a) ≠ (JoinTree.Leaf b)) ∨ (((List.length (JoinTree.Kids a) : Nat) : Int) ≠ ((List.length (JoinTree.Kids b) : Nat) : Int)) := (Or.imp (fun h => (Go.Am.bne_pos h)) (fun h => (Go.Am.bne_pos h)) (Go.Am.or_pos h8))
  have e9 := e0.trans (Go.Am.bif_t h8)
  refine AW.seq (AW.r1 hC [4] [] ⟨[(4, .bool false)], []⟩ ?_)
  exact AW.ret (AW.retE (β := Bool) (fun v => [⟨.bool, v⟩]) (fun v => []) (v := false) e9 (by kernel_rfl) rfl rfl)
 ·
  intro h10
  have h10q : ((JoinTree.Leaf a) = (JoinTree.Leaf b)) ∧ (((List.length (JoinTree.Kids a) : Nat) : Int) = ((List.length (JoinTree.Kids b) : Nat) : Int)) := (And.imp (fun h => (Go.Am.bne_neg h)) (fun h => (Go.Am.bne_neg h)) (Go.Am.or_neg h10))
  have e11 := e0.trans (Go.Am.bif_f h10)
  refine AW.kpU [2, 3] [8, 12] [] [] ?_
  refine AW.skip (AW.seq (AW.seq (AW.r1U hC [2, 3, 5] [8, 12] [(5, .int .i64 0)] [] ?_)))
  refine AW.cutQ (α := Unit) (fun x => ⟨[], []⟩) (fun x => (True) ∧ (equalTrees_l0 (equalTrees_r fuel) a b ((List.length (JoinTree.Kids a)) - 0 + 1) 0) = (.inl ())) ?_ ?_
  ·
   skip
   refine AW.block (AW.loop (α := Nat) (fun x => ⟨[(2, .ref 8 1 0), (3, .ref 12 1 0), (5, .int .i64 ((x : Nat) : Int))], [(8, .box 1 [.int .i64 (JoinTree.Leaf a), .data (.slice (.named 3)) ((JoinTree.Kids a) : List JoinTree)]), (12, .box 1 [.int .i64 (JoinTree.Leaf b), .data (.slice (.named 3)) ((JoinTree.Kids b) : List JoinTree)])]⟩) (fun x => (True) ∧ ∃ k, (List.length (JoinTree.Kids a)) - x < k ∧ (equalTrees_l0 (equalTrees_r fuel) a b ((List.length (JoinTree.Kids a)) - 0 + 1) 0) = equalTrees_l0 (equalTrees_r fuel) a b k x) (fun x => (List.length (JoinTree.Kids a)) - x) 0 (by kernel_rfl) ⟨?_, _, Nat.lt_succ_self _, rfl⟩ ?_)
   ·
    show True
    exact trivial
   ·
    intro i hR
    obtain ⟨hI0, k41, hk39, e40⟩ := hR
    replace hI0 : True := hI0
    replace hk39 : (List.length (JoinTree.Kids a)) - i < k41 := hk39
    obtain ⟨k41q, rfl⟩ : ∃ k, k41 = k + 1 := ⟨k41 - 1, by omega⟩
    refine AW.seq (AW.seq (AW.r1U hC [2, 3, 5, 24] [8, 12] [(24, .bool (decide (((i : Nat) : Int) < ((List.length (JoinTree.Kids a) : Nat) : Int))))] [] ?_))
    refine AW.cd (decide (((i : Nat) : Int) < ((List.length (JoinTree.Kids a) : Nat) : Int))) ?_ ?_
    ·
     intro h42
     have h42q : ((i : Nat) : Int) < ((List.length (JoinTree.Kids a) : Nat) : Int) := (of_decide_eq_true h42)
     have e43 := e40.trans (Go.Am.bif_t h42)
     refine AW.kpU [2, 3, 5] [8, 12] [] [] ?_
     refine AW.skip (AW.seq (AW.block (AW.seq (AW.d0U hC hM [2, 3, 5, 38] [8, 12] [(38, .bool (!((equalTrees_r fuel) (List.getD (JoinTree.Kids a) i JoinTree.zero) (List.getD (JoinTree.Kids b) i JoinTree.zero))))] [] [(0 ≤ ((i : Nat) : Int) ∧ ((i : Nat) : Int) < ((List.length (JoinTree.Kids a) : Nat) : Int)), (0 ≤ ((i : Nat) : Int) ∧ ((i : Nat) : Int) < ((List.length (JoinTree.Kids b) : Nat) : Int)), ((True) ∧ SizeOf.sizeOf (List.getD (JoinTree.Kids a) i JoinTree.zero) < fuel)] ?_ ?_))))
     ·
      refine ⟨?_, ?_, ?_, trivial⟩
      ·
       omega
      ·
       omega
      ·
       exact ⟨trivial, Nat.lt_of_lt_of_le (kid_lt (by omega)) (Nat.le_of_lt_succ hpre.2)⟩
     refine AW.cd (!((equalTrees_r fuel) (List.getD (JoinTree.Kids a) i JoinTree.zero) (List.getD (JoinTree.Kids b) i JoinTree.zero))) ?_ ?_
     ·
      intro h44
      have h44q : ((equalTrees_r fuel) (List.getD (JoinTree.Kids a) i JoinTree.zero) (List.getD (JoinTree.Kids b) i JoinTree.zero)) = false := (Go.Am.not_pos h44)
      have e45 := e43.trans (Go.Am.bif_t h44)
      refine AW.seq (AW.r1 hC [4] [] ⟨[(4, .bool false)], []⟩ ?_)
      refine AW.ret ?_
      have e46 := e11.trans (Go.Am.elim_r e45)
      exact AW.retE (β := Bool) (fun v => [⟨.bool, v⟩]) (fun v => []) (v := false) e46 (by kernel_rfl) rfl rfl
     ·
      intro h47
      have h47q : ((equalTrees_r fuel) (List.getD (JoinTree.Kids a) i JoinTree.zero) (List.getD (JoinTree.Kids b) i JoinTree.zero)) = true := (Go.Am.not_neg h47)
      have e48 := e43.trans (Go.Am.bif_f h47)
      refine AW.kpU [2, 3, 5] [8, 12] [] [] ?_
      refine AW.skip (AW.r0U hC [2, 3, 5] [8, 12] [(5, .int .i64 ((i + 1 : Nat) : Int))] [] [(-9223372036854775808 ≤ ((i + 1 : Nat) : Int) ∧ ((i + 1 : Nat) : Int) ≤ 9223372036854775807)] ?_ ?_)
      ·
       refine ⟨?_, trivial⟩
       ·
        omega
      refine AW.back (x := i) (i + 1) (by kernel_rfl) ⟨?_, k41q, ?_, e48⟩ ?_
      ·
       show True
       assumption
      ·
       show (List.length (JoinTree.Kids a)) - (i + 1) < k41q
       omega
      ·
       show (List.length (JoinTree.Kids a)) - (i + 1) < (List.length (JoinTree.Kids a)) - i
       omega
    ·
     intro h49
     have h49q : ¬ (((i : Nat) : Int) < ((List.length (JoinTree.Kids a) : Nat) : Int)) := (of_decide_eq_false h49)
     have e50 := e40.trans (Go.Am.bif_f h49)
     refine AW.kp [] [] ⟨[], []⟩ ?_
     refine AW.exit ?_
     refine AW.meet () (by kernel_rfl) ⟨?_, e50⟩
     show True
     assumption
  ·
   intro x hR
   obtain ⟨hJ0, e51⟩ := hR
   replace hJ0 : True := hJ0
   have e52 := e11.trans (Go.Am.elim_l e51)
   refine AW.seq (AW.r1 hC [4] [] ⟨[(4, .bool true)], []⟩ ?_)
   exact AW.ret (AW.retE (β := Bool) (fun v => [⟨.bool, v⟩]) (fun v => []) (v := true) e52 (by kernel_rfl) rfl rfl)

theorem equalTrees_fu : AllTV (equalTrees_sp.ps.map PK.ty) (fun tvs => equalTrees_sp.pre tvs → ∃ k, (equalTrees_spn k).pre tvs ∧ (equalTrees_spn k).fn tvs = equalTrees_sp.fn tvs ∧ (equalTrees_spn k).bx tvs = equalTrees_sp.bx tvs) :=
 (fun (a : JoinTree) (b : JoinTree) h => ⟨SizeOf.sizeOf a + 1, (show (True) ∧ SizeOf.sizeOf a < SizeOf.sizeOf a + 1 from ⟨h, Nat.lt_succ_self _⟩), (show (equalTrees_spn (SizeOf.sizeOf a + 1)).fn [⟨(.named 3), (a : JoinTree)⟩, ⟨(.named 3), (b : JoinTree)⟩] = ([⟨.bool, (equalTrees_r (SizeOf.sizeOf a + 1) a b)⟩] : List TV) from by kernel_rfl).trans (show ([⟨.bool, (equalTrees_r (SizeOf.sizeOf a + 1) a b)⟩] : List TV) = equalTrees_sp.fn [⟨(.named 3), (a : JoinTree)⟩, ⟨(.named 3), (b : JoinTree)⟩] from by kernel_rfl), by kernel_rfl⟩)

theorem equalTrees_ok : FnOK Try.prog 40 equalTrees_sp := FnOK.of_fuel equalTrees_okn (fun _ => rfl) (fun _ => rfl) (AllTV.get equalTrees_fu)

end
end Go.Proofs.Ytgbapklfgjnggaa
