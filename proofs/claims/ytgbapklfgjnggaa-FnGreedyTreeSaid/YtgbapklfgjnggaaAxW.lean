/-
  A part of the proof of this claim (AxW): what functions of the program compute, and plain facts of that. No conditions.
-/
import Derived.Test.YtgbapklfgjnggaaAxV
set_option linter.all false
namespace Go.Proofs.Ytgbapklfgjnggaa
open Go Go.Am
noncomputable section

theorem gn5 {g : Graph} (h : VG g) : 1 ≤ List.length g.Rows ∧ List.length g.Rows ≤ 5 := ⟨h.n1, h.n5⟩

structure FO (f : List Int) : Prop where
 le : f.length ≤ 32
 part : ∀ m : Nat, m < f.length → List.getD f m 0 = 0 ∨ Part m (List.getD f m 0)

theorem FO.at {f : List Int} (h : FO f) {m : Int} (h0 : 0 ≤ m) (hm : m < (f.length : Int)) (hz : List.getD f (Int.toNat m) 0 ≠ 0) :
  (1 ≤ List.getD f (Int.toNat m) 0 ∧ List.getD f (Int.toNat m) 0 < m) ∧ 1 ≤ bits .andNot .i64 m (List.getD f (Int.toNat m) 0) ∧ bits .andNot .i64 m (List.getD f (Int.toNat m) 0) < m := by
 have hl := h.le
 have hp := (h.part (Int.toNat m) (by omega)).resolve_left hz
 have hm' : ((Int.toNat m : Nat) : Int) = m := by omega
 have hp' : 1 ≤ List.getD f (Int.toNat m) 0 ∧ List.getD f (Int.toNat m) 0 < m ∧ bits .andNot .i64 (List.getD f (Int.toNat m) 0) m = 0 := by
  have := hp
  unfold Part at this
  rwa [hm'] at this
 have hr := part_rest (m := m) (p := List.getD f (Int.toNat m) 0) (by omega) hp'
 have h1 := hp.1
 have h2 := hp.2.1
 omega

theorem sh_lt {m : Int} {l : Nat} (h : 1 < m / 2 ^ l) : m / 2 ^ (l + 1) < m / 2 ^ l := by
 rw [Int.pow_succ, ← Int.ediv_ediv_of_nonneg (by have := Int.pow_pos (n := 2) (m := l) (by decide); omega)]
 omega

theorem sh_b {m : Int} (h0 : 0 ≤ m) (h32 : m < 32) {l : Nat} (h : 1 < m / 2 ^ l) : l < 5 := by
 refine Nat.lt_of_not_le fun hl => ?_
 have h2 : 2 ^ 5 ≤ 2 ^ l := Nat.pow_le_pow_right (by decide) hl
 have h3 : ((2 : Int) ^ l) = ((2 ^ l : Nat) : Int) := by push_cast; rfl
 rw [Int.ediv_eq_zero_of_lt h0 (by omega)] at h
 omega

def treeOf_l0 (mask : Int) : Nat → Nat → Nat
 | 0, leaf => leaf
 | k + 1, leaf => (bif (decide (1 < (mask / 2 ^ leaf))) then (treeOf_l0 mask k (leaf + 1)) else leaf)

def treeOf_r : Nat → (List Int) → Int → JoinTree
 | 0, firsts, mask => JoinTree.zero
 | fuel + 1, firsts, mask => (bif ((List.getD firsts (Int.toNat mask) 0) == 0) then (Go.Am.andThen (treeOf_l0 mask (Int.toNat (mask / 2 ^ 0) + 1) 0) (fun z => (fun (leaf : Nat) => (JoinTree.mk ((leaf : Nat) : Int) ([] : List JoinTree))) z)) else (JoinTree.mk 0 ([((treeOf_r fuel) firsts (List.getD firsts (Int.toNat mask) 0)), ((treeOf_r fuel) firsts (bits .andNot .i64 mask (List.getD firsts (Int.toNat mask) 0)))] : List JoinTree)))

def treeOf (firsts : List Int) (mask : Int) : JoinTree := treeOf_r (Int.toNat mask + 1) firsts mask

def treeOf_spn (fuel : Nat) : FnSpec := mkSpec [.val (.slice (.int .i64)), .val (.int .i64)] [.val (.named 3)] (fun (firsts : List Int) (mask : Int) => (FO firsts ∧ 0 ≤ mask ∧ mask < ((List.length firsts : Nat) : Int)) ∧ Int.toNat mask < fuel) (fun (firsts : List Int) (mask : Int) => [⟨(.named 3), (treeOf_r fuel firsts mask)⟩])

def treeOf_sp : FnSpec := mkSpec [.val (.slice (.int .i64)), .val (.int .i64)] [.val (.named 3)] (fun (firsts : List Int) (mask : Int) => FO firsts ∧ 0 ≤ mask ∧ mask < ((List.length firsts : Nat) : Int)) (fun (firsts : List Int) (mask : Int) => [⟨(.named 3), (treeOf firsts mask)⟩])

theorem treeOf_okn (fuel : Nat) : FnOK Try.prog 64 (treeOf_spn fuel) := by
 induction fuel with
 | zero => exact FnOK.never Try.func64 (by kernel_rfl) rfl (fun _ _ h => absurd h.2 (Nat.not_lt_zero _))
 | succ fuel ih => ?_
 have hC : CtxOK Try.prog (mkCtx tyL [(64, (treeOf_spn fuel))]) := CtxOK.cons ih (CtxOK.nil tyOK)
 refine FnOK.of_body Try.func64 (by kernel_rfl) rfl (C := (mkCtx tyL [(64, (treeOf_spn fuel))])) hC.ty (by kernel_rfl) ?_
 intro (firsts : List Int) (mask : Int) hwf hpre E
 have hpre : (FO firsts ∧ 0 ≤ mask ∧ mask < ((List.length firsts : Nat) : Int)) ∧ Int.toNat mask < fuel + 1 := hpre
 have hw_firsts : Wf ⟨(.slice (.int .i64)), (firsts : List Int)⟩ := hwf _ (List.Mem.head _)
 have hl_firsts : ((List.length firsts : Nat) : Int) ≤ 9223372036854775807 := hw_firsts.len
 have hw_mask : Wf ⟨(.int .i64), (mask : Int)⟩ := hwf _ (List.Mem.tail _ (List.Mem.head _))
 have hr_mask : -9223372036854775808 ≤ mask ∧ mask ≤ 9223372036854775807 := hw_mask.int_inv
 have hF := hpre.1.1.le
 have e0 : treeOf_r (fuel + 1) firsts mask = treeOf_r (fuel + 1) firsts mask := rfl
 refine AW.seq (AW.r1U hC [0, 1, 4] [16] [(4, .ref 16 1 0)] [(16, .box 1 [.int .i64 0, .nilsl])] ?_)
 refine AW.seq (AW.r0U hC [0, 1, 4, 5] [16] [(5, .int .i64 (List.getD firsts (Int.toNat mask) 0))] [] [(0 ≤ mask ∧ mask < ((List.length firsts : Nat) : Int))] ?_ ?_)
 ·
  refine ⟨?_, trivial⟩
  ·
   omega
 refine AW.seq (AW.seq (AW.r1U hC [0, 1, 4, 5, 12] [16] [(12, .bool ((List.getD firsts (Int.toNat mask) 0) == 0))] [] ?_))
 refine AW.cd ((List.getD firsts (Int.toNat mask) 0) == 0) ?_ ?_
 ·
  intro h1
  have h1q : (List.getD firsts (Int.toNat mask) 0) = 0 := (Go.Am.beq_pos h1)
  have e2 := e0.trans (Go.Am.bif_t h1)
  refine AW.seq (AW.r1U hC [1, 4, 6] [16] [(6, .int .i64 0)] [] ?_)
  refine AW.seq (AW.cutQ (α := Nat) (fun x => ⟨[(4, .ref 16 1 0), (6, .int .i64 ((x : Nat) : Int))], [(16, .box 1 [.int .i64 0, .nilsl])]⟩) (fun x => (x ≤ 5) ∧ (treeOf_l0 mask (Int.toNat (mask / 2 ^ 0) + 1) 0) = x) ?_ ?_)
  ·
   skip
   refine AW.block (AW.loop (α := Nat) (fun x => ⟨[(1, .int .i64 mask), (4, .ref 16 1 0), (6, .int .i64 ((x : Nat) : Int))], [(16, .box 1 [.int .i64 0, .nilsl])]⟩) (fun x => (x ≤ 5) ∧ ∃ k, Int.toNat (mask / 2 ^ x) < k ∧ (treeOf_l0 mask (Int.toNat (mask / 2 ^ 0) + 1) 0) = treeOf_l0 mask k x) (fun x => Int.toNat (mask / 2 ^ x)) 0 (by kernel_rfl) ⟨?_, _, Nat.lt_succ_self _, rfl⟩ ?_)
   ·
    show 0 ≤ 5
    omega
   ·
    intro leaf hR
    obtain ⟨hI0, k17, hk15, e16⟩ := hR
    replace hI0 : leaf ≤ 5 := hI0
    replace hk15 : Int.toNat (mask / 2 ^ leaf) < k17 := hk15
    obtain ⟨k17q, rfl⟩ : ∃ k, k17 = k + 1 := ⟨k17 - 1, by omega⟩
    refine AW.seq (AW.seq (AW.r0U hC [1, 4, 6, 16] [16] [(16, .bool (decide (1 < (mask / 2 ^ leaf))))] [] [(0 ≤ ((leaf : Nat) : Int) ∧ ((leaf : Nat) : Int) ≤ 64)] ?_ ?_))
    ·
     refine ⟨?_, trivial⟩
     ·
      omega
    refine AW.cd (decide (1 < (mask / 2 ^ leaf))) ?_ ?_
    ·
     intro h18
     have h18q : 1 < (mask / 2 ^ leaf) := (of_decide_eq_true h18)
     have e19 := e16.trans (Go.Am.bif_t h18)
     refine AW.kpU [1, 4, 6] [16] [] [] ?_
     refine AW.skip (AW.block (AW.r0U hC [1, 4, 6] [16] [(6, .int .i64 ((leaf + 1 : Nat) : Int))] [] [(-9223372036854775808 ≤ ((leaf + 1 : Nat) : Int) ∧ ((leaf + 1 : Nat) : Int) ≤ 9223372036854775807)] ?_ ?_))
     ·
      refine ⟨?_, trivial⟩
      ·
       omega
     refine AW.back (x := leaf) (leaf + 1) (by kernel_rfl) ⟨?_, k17q, ?_, e19⟩ ?_
     ·
      show (leaf + 1) ≤ 5
      have := sh_b (m := mask) (l := leaf) (by omega) (by omega) (by omega)
      omega
     ·
      show Int.toNat (mask / 2 ^ (leaf + 1)) < k17q
      have h := sh_lt (m := mask) (l := leaf) (by omega)
      omega
     ·
      show Int.toNat (mask / 2 ^ (leaf + 1)) < Int.toNat (mask / 2 ^ leaf)
      have h := sh_lt (m := mask) (l := leaf) (by omega)
      omega
    ·
     intro h20
     have h20q : ¬ (1 < (mask / 2 ^ leaf)) := (of_decide_eq_false h20)
     have e21 := e16.trans (Go.Am.bif_f h20)
     refine AW.kpU [4, 6] [16] [] [] ?_
     refine AW.exit ?_
     refine AW.meet leaf (by kernel_rfl) ⟨?_, e21⟩
     show leaf ≤ 5
     exact hI0
  ·
   intro leaf hR
   obtain ⟨hJ0, e22⟩ := hR
   replace hJ0 : leaf ≤ 5 := hJ0
   have e23 := e2.trans (Go.Am.then_eq e22)
   refine AW.seq (AW.r1U hC [4] [16] [] [(16, .box 1 [.int .i64 ((leaf : Nat) : Int), .nilsl])] ?_)
   exact AW.ret (AW.retE (β := JoinTree) (fun v => [⟨(.named 3), v⟩]) (fun v => []) (v := (JoinTree.mk ((leaf : Nat) : Int) ([] : List JoinTree))) e23 (by kernel_rfl) rfl rfl)
 ·
  intro h24
  have h24q : (List.getD firsts (Int.toNat mask) 0) ≠ 0 := (Go.Am.beq_neg h24)
  have e25 := e0.trans (Go.Am.bif_f h24)
  refine AW.kpU [0, 1, 4, 5] [16] [] [] ?_
  refine AW.skip (AW.seq (AW.r0U hC [4] [16, 116] [] [(16, .box 1 [.int .i64 0, .arr 116 1]), (116, .arr 1 (.named 3) (([((treeOf_r fuel) firsts (List.getD firsts (Int.toNat mask) 0)), ((treeOf_r fuel) firsts (bits .andNot .i64 mask (List.getD firsts (Int.toNat mask) 0)))] : List JoinTree) : List JoinTree))] [((FO firsts ∧ 0 ≤ (List.getD firsts (Int.toNat mask) 0) ∧ (List.getD firsts (Int.toNat mask) 0) < ((List.length firsts : Nat) : Int)) ∧ Int.toNat (List.getD firsts (Int.toNat mask) 0) < fuel), ((FO firsts ∧ 0 ≤ (bits .andNot .i64 mask (List.getD firsts (Int.toNat mask) 0)) ∧ (bits .andNot .i64 mask (List.getD firsts (Int.toNat mask) 0)) < ((List.length firsts : Nat) : Int)) ∧ Int.toNat (bits .andNot .i64 mask (List.getD firsts (Int.toNat mask) 0)) < fuel)] ?_ ?_))
  ·
   refine ⟨?_, ?_, trivial⟩
   ·
    have hz := hpre.1.1.at hpre.1.2.1 hpre.1.2.2 (by omega)
    exact ⟨⟨hpre.1.1, by omega⟩, by omega⟩
   ·
    have hz := hpre.1.1.at hpre.1.2.1 hpre.1.2.2 (by omega)
    exact ⟨⟨hpre.1.1, by omega⟩, by omega⟩
  exact AW.ret (AW.retE (β := JoinTree) (fun v => [⟨(.named 3), v⟩]) (fun v => []) (v := (JoinTree.mk 0 ([((treeOf_r fuel) firsts (List.getD firsts (Int.toNat mask) 0)), ((treeOf_r fuel) firsts (bits .andNot .i64 mask (List.getD firsts (Int.toNat mask) 0)))] : List JoinTree))) e25 (by kernel_rfl) rfl rfl)

theorem treeOf_fu : AllTV (treeOf_sp.ps.map PK.ty) (fun tvs => treeOf_sp.pre tvs → ∃ k, (treeOf_spn k).pre tvs ∧ (treeOf_spn k).fn tvs = treeOf_sp.fn tvs ∧ (treeOf_spn k).bx tvs = treeOf_sp.bx tvs) :=
 (fun (firsts : List Int) (mask : Int) h => ⟨Int.toNat mask + 1, (show (FO firsts ∧ 0 ≤ mask ∧ mask < ((List.length firsts : Nat) : Int)) ∧ Int.toNat mask < Int.toNat mask + 1 from ⟨h, Nat.lt_succ_self _⟩), (show (treeOf_spn (Int.toNat mask + 1)).fn [⟨(.slice (.int .i64)), (firsts : List Int)⟩, ⟨(.int .i64), (mask : Int)⟩] = ([⟨(.named 3), (treeOf_r (Int.toNat mask + 1) firsts mask)⟩] : List TV) from by kernel_rfl).trans (show ([⟨(.named 3), (treeOf_r (Int.toNat mask + 1) firsts mask)⟩] : List TV) = treeOf_sp.fn [⟨(.slice (.int .i64)), (firsts : List Int)⟩, ⟨(.int .i64), (mask : Int)⟩] from by kernel_rfl), by kernel_rfl⟩)

theorem treeOf_ok : FnOK Try.prog 64 treeOf_sp := FnOK.of_fuel treeOf_okn (fun _ => rfl) (fun _ => rfl) (AllTV.get treeOf_fu)

end
end Go.Proofs.Ytgbapklfgjnggaa
