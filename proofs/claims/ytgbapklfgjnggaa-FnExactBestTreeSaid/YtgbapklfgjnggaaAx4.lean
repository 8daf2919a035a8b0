/-
  A part of the proof of this claim (Ax4): what functions of the program compute, and plain facts of that. No conditions.
-/
import Derived.Test.YtgbapklfgjnggaaAxL
set_option linter.all false
namespace Go.Proofs.Ytgbapklfgjnggaa
open Go Go.Am
noncomputable section

theorem kid_lt {t : JoinTree} {i : Nat} (h : i < t.Kids.length) : SizeOf.sizeOf (t.Kids.getD i JoinTree.zero) < SizeOf.sizeOf t := by
 cases t with
 | mk l ks =>
  have := List.sizeOf_lt_of_mem (getD_mem ks i JoinTree.zero h)
  simp only [JoinTree.mk.sizeOf_spec, JoinTree.Kids] at *
  omega

def szJoinTree_l0 (self : JoinTree → Int → Int) (a : JoinTree) : Nat → Int → Nat → Int ⊕ Int
 | 0, left1, i => .inl left1
 | k + 1, left1, i => (bif (decide (((i : Nat) : Int) < ((List.length (JoinTree.Kids a) : Nat) : Int))) then (bif (decide ((self (List.getD (JoinTree.Kids a) i JoinTree.zero) left1) < 0)) then (.inr (-1)) else (szJoinTree_l0 self a k (self (List.getD (JoinTree.Kids a) i JoinTree.zero) left1) (i + 1))) else (.inl left1))

def szJoinTree_c0 (self : JoinTree → Int → Int) (a : JoinTree) (left : Int) : Int :=
 (bif (decide ((left - ((List.length (JoinTree.Kids a) : Nat) : Int)) < 0)) then (-1) else (Sum.elim (fun z => (fun (left1 : Int) => left1) z) (fun r => r) (szJoinTree_l0 self a ((List.length (JoinTree.Kids a)) - 0 + 1) (left - ((List.length (JoinTree.Kids a) : Nat) : Int)) 0)))

def szJoinTree_r : Nat → JoinTree → Int → Int
 | 0, a, left => 0
 | fuel + 1, a, left => (Go.Am.andThen (szJoinTree_c0 (szJoinTree_r fuel) a left) (fun z => (fun (v8 : Int) => (bif (decide (v8 < 0)) then (-1) else v8)) z))

def szJoinTree (a : JoinTree) (left : Int) : Int := szJoinTree_r (SizeOf.sizeOf a + 1) a left

def Fits (a : JoinTree) : Prop := ∃ f l, SizeOf.sizeOf a < f ∧ (0 ≤ l ∧ l ≤ 1048576) ∧ 0 ≤ szJoinTree_r f a l

theorem Fits.of {a : JoinTree} (h : ¬ szJoinTree a 1048576 < 0) : Fits a := ⟨SizeOf.sizeOf a + 1, 1048576, Nat.lt_succ_self _, by omega, by unfold szJoinTree at h; omega⟩

theorem gSize_b {g : Graph} (hV : VG g) (m : Int) : 1 ≤ gSize g m ∧ gSize g m ≤ 1000000000000000 := by
 have h0 : ∀ (k : Nat) (n : Int) (i : Nat), 1 ≤ n → n ≤ 1000 ^ i → i ≤ g.Rows.length → 1 ≤ gSize_l0 g m k n i ∧ gSize_l0 g m k n i ≤ 1000000000000000 := by
  intro k
  induction k with
  | zero =>
   intro n i h1 h2 h3
   have := pow5 (i := i) (by have := hV.n5; omega)
   show 1 ≤ n ∧ n ≤ 1000000000000000
   omega
  | succ k ih =>
   intro n i h1 h2 h3
   unfold gSize_l0
   by_cases hi : i < g.Rows.length
   ·
    rw [lt_dec hi, cond_true]
    have hr := hV.rows _ (getD_mem g.Rows i 0 hi)
    have ht := times h1 h2 hr.1 hr.2
    cases (bits .and .i64 m ((1 : Int) * 2 ^ i) != 0) with
    | true => exact ih _ _ ht.1 ht.2 (by omega)
    | false => exact ih _ _ h1 (grow5 h2) (by omega)
   ·
    rw [ge_dec hi, cond_false]
    have := pow5 (i := i) (by have := hV.n5; omega)
    omega
 have h1 : ∀ (k : Nat) (n : Int) (i : Nat), 0 ≤ n → n ≤ 1000000000000000 → 0 ≤ gSize_l1 g m k n i ∧ gSize_l1 g m k n i ≤ 1000000000000000 := by
  intro k
  induction k with
  | zero => intro n i h1 h2; exact ⟨h1, h2⟩
  | succ k ih =>
   intro n i h1 h2
   unfold gSize_l1
   by_cases hi : i < g.Edges.length
   ·
    rw [lt_dec hi, cond_true]
    have he := hV.edges _ (getD_mem g.Edges i Edge.zero hi)
    have hd := divs h1 he.2.2.2.1
    cases (bif ((bits .and .i64 m ((1 : Int) * 2 ^ (Int.toNat (Edge.A (List.getD (Graph.Edges g) i Edge.zero))))) != 0) then ((bits .and .i64 m ((1 : Int) * 2 ^ (Int.toNat (Edge.B (List.getD (Graph.Edges g) i Edge.zero))))) != 0) else false) with
    | true => exact ih _ _ hd.1 (by omega)
    | false => exact ih _ _ h1 h2
   ·
    rw [ge_dec hi, cond_false]
    exact ⟨h1, h2⟩
 have a := h0 (g.Rows.length - 0 + 1) 1 0 (by decide) (by decide) (by omega)
 have b := h1 (g.Edges.length - 0 + 1) _ 0 (show 0 ≤ gSize_l0 g m (g.Rows.length - 0 + 1) 1 0 by omega) a.2
 simp only [gSize, Go.Am.andThen]
 split <;> omega

def eqJoinTree_l0 (self : JoinTree → JoinTree → Bool) (a : JoinTree) (b : JoinTree) : Nat → Nat → Unit ⊕ Bool
 | 0, i => .inl ()
 | k + 1, i => (bif (decide (((i : Nat) : Int) < ((List.length (JoinTree.Kids a) : Nat) : Int))) then (bif (!(self (List.getD (JoinTree.Kids a) i JoinTree.zero) (List.getD (JoinTree.Kids b) i JoinTree.zero))) then (.inr false) else (eqJoinTree_l0 self a b k (i + 1))) else (.inl ()))

def eqJoinTree_c0 (self : JoinTree → JoinTree → Bool) (a : JoinTree) (b : JoinTree) : Bool :=
 (bif (((List.length (JoinTree.Kids a) : Nat) : Int) != ((List.length (JoinTree.Kids b) : Nat) : Int)) then false else (Sum.elim (fun _ => true) (fun r => r) (eqJoinTree_l0 self a b ((List.length (JoinTree.Kids a)) - 0 + 1) 0)))

def eqJoinTree_r : Nat → JoinTree → JoinTree → Bool
 | 0, a, b => false
 | fuel + 1, a, b => (bif ((JoinTree.Leaf a) != (JoinTree.Leaf b)) then false else (Go.Am.andThen (eqJoinTree_c0 (eqJoinTree_r fuel) a b) (fun z => (fun (v14 : Bool) => (bif (!v14) then false else true)) z)))

def eqJoinTree (a : JoinTree) (b : JoinTree) : Bool := eqJoinTree_r (SizeOf.sizeOf a + 1) a b

def eqJoinTree_spn (fuel : Nat) : FnSpec := mkSpec [.val (.named 3), .val (.named 3)] [.val .bool] (fun (a : JoinTree) (b : JoinTree) => (True) ∧ SizeOf.sizeOf a < fuel) (fun (a : JoinTree) (b : JoinTree) => [⟨.bool, (eqJoinTree_r fuel a b)⟩])

def eqJoinTree_sp : FnSpec := mkSpec [.val (.named 3), .val (.named 3)] [.val .bool] (fun (a : JoinTree) (b : JoinTree) => True) (fun (a : JoinTree) (b : JoinTree) => [⟨.bool, (eqJoinTree a b)⟩])

theorem eqJoinTree_okn (fuel : Nat) : FnOK Try.prog 43 (eqJoinTree_spn fuel) := by
 induction fuel with
 | zero => exact FnOK.never Try.func43 (by kernel_rfl) rfl (fun _ _ h => absurd h.2 (Nat.not_lt_zero _))
 | succ fuel ih => ?_
 have hC : CtxOK Try.prog (mkCtx tyL [(43, (eqJoinTree_spn fuel))]) := CtxOK.cons ih (CtxOK.nil tyOK)
 have hM : Try.prog.follows .mixedOrders = true := Try.checked.mixed
 have hC1 := hC.rebase 1000
 refine FnOK.of_body Try.func43 (by kernel_rfl) rfl (C := (mkCtx tyL [(43, (eqJoinTree_spn fuel))])) hC.ty (by kernel_rfl) ?_
 intro (a : JoinTree) (b : JoinTree) hwf hpre E
 have hpre : (True) ∧ SizeOf.sizeOf a < fuel + 1 := hpre
 have hw_a : Wf ⟨(.named 3), (a : JoinTree)⟩ := hwf _ (List.Mem.head _)
 have hr_a_Leaf : -9223372036854775808 ≤ JoinTree.Leaf a ∧ JoinTree.Leaf a ≤ 9223372036854775807 := (hw_a.field (tv := ⟨(.int .i64), JoinTree.Leaf a⟩) (List.Mem.head _)).int_inv
 have hl_a_Kids : ((List.length (JoinTree.Kids a) : Nat) : Int) ≤ 9223372036854775807 := (hw_a.field (tv := ⟨(.slice (.named 3)), JoinTree.Kids a⟩) (List.Mem.tail _ (List.Mem.head _))).len
 have hw_b : Wf ⟨(.named 3), (b : JoinTree)⟩ := hwf _ (List.Mem.tail _ (List.Mem.head _))
 have hr_b_Leaf : -9223372036854775808 ≤ JoinTree.Leaf b ∧ JoinTree.Leaf b ≤ 9223372036854775807 := (hw_b.field (tv := ⟨(.int .i64), JoinTree.Leaf b⟩) (List.Mem.head _)).int_inv
 have hl_b_Kids : ((List.length (JoinTree.Kids b) : Nat) : Int) ≤ 9223372036854775807 := (hw_b.field (tv := ⟨(.slice (.named 3)), JoinTree.Kids b⟩) (List.Mem.tail _ (List.Mem.head _))).len
 have e0 : eqJoinTree_r (fuel + 1) a b = eqJoinTree_r (fuel + 1) a b := rfl
 refine AW.seq (AW.r1 hC [2, 3] [8, 12] ⟨[(2, .ref 8 1 0), (3, .ref 12 1 0)], [(8, .box 1 [.int .i64 (JoinTree.Leaf a), .data (.slice (.named 3)) ((JoinTree.Kids a) : List JoinTree)]), (12, .box 1 [.int .i64 (JoinTree.Leaf b), .data (.slice (.named 3)) ((JoinTree.Kids b) : List JoinTree)])]⟩ ?_)
 refine AW.seq (AW.seq (AW.r1 hC [2, 3, 9] [8, 12] ⟨[(2, .ref 8 1 0), (3, .ref 12 1 0), (9, .bool ((JoinTree.Leaf a) != (JoinTree.Leaf b)))], [(8, .box 1 [.int .i64 (JoinTree.Leaf a), .data (.slice (.named 3)) ((JoinTree.Kids a) : List JoinTree)]), (12, .box 1 [.int .i64 (JoinTree.Leaf b), .data (.slice (.named 3)) ((JoinTree.Kids b) : List JoinTree)])]⟩ ?_))
 refine AW.cd ((JoinTree.Leaf a) != (JoinTree.Leaf b)) ?_ ?_
 ·
  intro h1
  have h1q : (JoinTree.Leaf a) ≠ (JoinTree.Leaf b) := (Go.Am.bne_pos h1)
  have e2 := e0.trans (Go.Am.bif_t h1)
  refine AW.seq (AW.r1 hC [4] [] ⟨[(4, .bool false)], []⟩ ?_)
  exact AW.ret (AW.retE (β := Bool) (fun v => [⟨.bool, v⟩]) (fun v => []) (v := false) e2 (by kernel_rfl) rfl rfl)
 ·
  intro h3
  have h3q : (JoinTree.Leaf a) = (JoinTree.Leaf b) := (Go.Am.bne_neg h3)
  have e4 := e0.trans (Go.Am.bif_f h3)
  refine AW.kp [2, 3] [8, 12] ⟨[(2, .ref 8 1 0), (3, .ref 12 1 0)], [(8, .box 1 [.int .i64 (JoinTree.Leaf a), .data (.slice (.named 3)) ((JoinTree.Kids a) : List JoinTree)]), (12, .box 1 [.int .i64 (JoinTree.Leaf b), .data (.slice (.named 3)) ((JoinTree.Kids b) : List JoinTree)])]⟩ ?_
  refine AW.skip (AW.seq (AW.seq (AW.regionO [0, 1, 2, 3, 4, 5] (by rfl) ?_)))
  refine AWO.run hC false [] [0, 1, 2, 3] [4, 5] [11, 13] []
   ⟨[(11, .data (.slice (.named 3)) ((JoinTree.Kids a) : List JoinTree)), (13, .data (.slice (.named 3)) ((JoinTree.Kids b) : List JoinTree))], []⟩
   [] (by rfl) (by kernel_rfl) ?_ ?_
  ·
   exact trivial
  refine AWO.callJ hC.ty [14] [] (α := Bool) (fun x => ⟨[(14, .bool x)], []⟩) (fun x => (True) ∧ (eqJoinTree_c0 (eqJoinTree_r fuel) a b) = x) (vs := [.data (.slice (.named 3)) ((JoinTree.Kids a) : List JoinTree), .data (.slice (.named 3)) ((JoinTree.Kids b) : List JoinTree)]) (caps := []) (by rfl) rfl (.inl rfl) (by decide) (by kernel_rfl) (by kernel_rfl) Try.func75 (by kernel_rfl) rfl (by kernel_rfl) ?_ ?_
  ·
   intro o1 ho1
   have e91 : (eqJoinTree_c0 (eqJoinTree_r fuel) a b) = (eqJoinTree_c0 (eqJoinTree_r fuel) a b) := rfl
   refine AW.kp [0, 1] [] ⟨[(0, .data (.slice (.named 3)) ((JoinTree.Kids a) : List JoinTree)), (1, .data (.slice (.named 3)) ((JoinTree.Kids b) : List JoinTree))], []⟩ ?_
   refine AW.seq (AW.r1 hC1 [0, 1] [] ⟨[(0, .data (.slice (.named 3)) ((JoinTree.Kids a) : List JoinTree)), (1, .data (.slice (.named 3)) ((JoinTree.Kids b) : List JoinTree))], []⟩ ?_)
   refine AW.seq (AW.seq (AW.r1 hC1 [0, 1, 10] [] ⟨[(0, .data (.slice (.named 3)) ((JoinTree.Kids a) : List JoinTree)), (1, .data (.slice (.named 3)) ((JoinTree.Kids b) : List JoinTree)), (10, .bool (((List.length (JoinTree.Kids a) : Nat) : Int) != ((List.length (JoinTree.Kids b) : Nat) : Int)))], []⟩ ?_))
   refine AW.cd (((List.length (JoinTree.Kids a) : Nat) : Int) != ((List.length (JoinTree.Kids b) : Nat) : Int)) ?_ ?_
   ·
    intro h92
    have h92q : ((List.length (JoinTree.Kids a) : Nat) : Int) ≠ ((List.length (JoinTree.Kids b) : Nat) : Int) := (Go.Am.bne_pos h92)
    have e93 := e91.trans (Go.Am.bif_t h92)
    refine AW.seq (AW.r1 hC1 [4] [] ⟨[(4, .bool false)], []⟩ ?_)
    refine AW.ret ?_
    refine ⟨false, [.bool false], by kernel_rfl, by kernel_rfl, ?_, e93⟩
    show True
    exact trivial
   ·
    intro h94
    have h94q : ((List.length (JoinTree.Kids a) : Nat) : Int) = ((List.length (JoinTree.Kids b) : Nat) : Int) := (Go.Am.bne_neg h94)
    have e95 := e91.trans (Go.Am.bif_f h94)
    refine AW.kp [0, 1] [] ⟨[(0, .data (.slice (.named 3)) ((JoinTree.Kids a) : List JoinTree)), (1, .data (.slice (.named 3)) ((JoinTree.Kids b) : List JoinTree))], []⟩ ?_
    refine AW.skip (AW.seq (AW.seq (AW.r1 hC1 [0, 1, 5] [] ⟨[(0, .data (.slice (.named 3)) ((JoinTree.Kids a) : List JoinTree)), (1, .data (.slice (.named 3)) ((JoinTree.Kids b) : List JoinTree)), (5, .int .i64 0)], []⟩ ?_)))
    refine AW.cutQ (α := Unit) (fun x => ⟨[], []⟩) (fun x => (True) ∧ (eqJoinTree_l0 (eqJoinTree_r fuel) a b ((List.length (JoinTree.Kids a)) - 0 + 1) 0) = (.inl ())) ?_ ?_
    ·
     skip
     refine AW.block (AW.loop (α := Nat) (fun x => ⟨[(0, .data (.slice (.named 3)) ((JoinTree.Kids a) : List JoinTree)), (1, .data (.slice (.named 3)) ((JoinTree.Kids b) : List JoinTree)), (5, .int .i64 ((x : Nat) : Int))], []⟩) (fun x => (True) ∧ ∃ k, (List.length (JoinTree.Kids a)) - x < k ∧ (eqJoinTree_l0 (eqJoinTree_r fuel) a b ((List.length (JoinTree.Kids a)) - 0 + 1) 0) = eqJoinTree_l0 (eqJoinTree_r fuel) a b k x) (fun x => (List.length (JoinTree.Kids a)) - x) 0 (by kernel_rfl) ⟨?_, _, Nat.lt_succ_self _, rfl⟩ ?_)
     ·
      show True
      exact trivial
     ·
      intro i hR
      obtain ⟨hI0, k125, hk123, e124⟩ := hR
      replace hI0 : True := hI0
      replace hk123 : (List.length (JoinTree.Kids a)) - i < k125 := hk123
      obtain ⟨k125q, rfl⟩ : ∃ k, k125 = k + 1 := ⟨k125 - 1, by omega⟩
      refine AW.seq (AW.seq (AW.r1 hC1 [0, 1, 5, 14] [] ⟨[(0, .data (.slice (.named 3)) ((JoinTree.Kids a) : List JoinTree)), (1, .data (.slice (.named 3)) ((JoinTree.Kids b) : List JoinTree)), (5, .int .i64 ((i : Nat) : Int)), (14, .bool (decide (((i : Nat) : Int) < ((List.length (JoinTree.Kids a) : Nat) : Int))))], []⟩ ?_))
      refine AW.cd (decide (((i : Nat) : Int) < ((List.length (JoinTree.Kids a) : Nat) : Int))) ?_ ?_
      ·
       intro h126
       have h126q : ((i : Nat) : Int) < ((List.length (JoinTree.Kids a) : Nat) : Int) := (of_decide_eq_true h126)
       have e127 := e124.trans (Go.Am.bif_t h126)
       refine AW.kp [0, 1, 5] [] ⟨[(0, .data (.slice (.named 3)) ((JoinTree.Kids a) : List JoinTree)), (1, .data (.slice (.named 3)) ((JoinTree.Kids b) : List JoinTree)), (5, .int .i64 ((i : Nat) : Int))], []⟩ ?_
       refine AW.skip (AW.seq (AW.block (AW.seq (AW.d0 hC1 hM [0, 1, 5, 26] [] ⟨[(0, .data (.slice (.named 3)) ((JoinTree.Kids a) : List JoinTree)), (1, .data (.slice (.named 3)) ((JoinTree.Kids b) : List JoinTree)), (5, .int .i64 ((i : Nat) : Int)), (26, .bool (!((eqJoinTree_r fuel) (List.getD (JoinTree.Kids a) i JoinTree.zero) (List.getD (JoinTree.Kids b) i JoinTree.zero))))], []⟩ [(0 ≤ ((i : Nat) : Int) ∧ ((i : Nat) : Int) < ((List.length (JoinTree.Kids a) : Nat) : Int)), (0 ≤ ((i : Nat) : Int) ∧ ((i : Nat) : Int) < ((List.length (JoinTree.Kids b) : Nat) : Int)), ((True) ∧ SizeOf.sizeOf (List.getD (JoinTree.Kids a) i JoinTree.zero) < fuel)] ?_ ?_))))
       ·
        refine ⟨?_, ?_, ?_, trivial⟩
        ·
         omega
        ·
         omega
        ·
         exact ⟨trivial, Nat.lt_of_lt_of_le (kid_lt (by omega)) (Nat.le_of_lt_succ hpre.2)⟩
       refine AW.cd (!((eqJoinTree_r fuel) (List.getD (JoinTree.Kids a) i JoinTree.zero) (List.getD (JoinTree.Kids b) i JoinTree.zero))) ?_ ?_
       ·
        intro h128
        have h128q : ((eqJoinTree_r fuel) (List.getD (JoinTree.Kids a) i JoinTree.zero) (List.getD (JoinTree.Kids b) i JoinTree.zero)) = false := (Go.Am.not_pos h128)
        have e129 := e127.trans (Go.Am.bif_t h128)
        refine AW.seq (AW.r1 hC1 [4] [] ⟨[(4, .bool false)], []⟩ ?_)
        refine AW.ret ?_
        have e130 := e95.trans (Go.Am.elim_r e129)
        refine ⟨false, [.bool false], by kernel_rfl, by kernel_rfl, ?_, e130⟩
        show True
        exact trivial
       ·
        intro h131
        have h131q : ((eqJoinTree_r fuel) (List.getD (JoinTree.Kids a) i JoinTree.zero) (List.getD (JoinTree.Kids b) i JoinTree.zero)) = true := (Go.Am.not_neg h131)
        have e132 := e127.trans (Go.Am.bif_f h131)
        refine AW.kp [0, 1, 5] [] ⟨[(0, .data (.slice (.named 3)) ((JoinTree.Kids a) : List JoinTree)), (1, .data (.slice (.named 3)) ((JoinTree.Kids b) : List JoinTree)), (5, .int .i64 ((i : Nat) : Int))], []⟩ ?_
        refine AW.skip (AW.r0 hC1 [0, 1, 5] [] ⟨[(0, .data (.slice (.named 3)) ((JoinTree.Kids a) : List JoinTree)), (1, .data (.slice (.named 3)) ((JoinTree.Kids b) : List JoinTree)), (5, .int .i64 ((i + 1 : Nat) : Int))], []⟩ [(-9223372036854775808 ≤ ((i + 1 : Nat) : Int) ∧ ((i + 1 : Nat) : Int) ≤ 9223372036854775807)] ?_ ?_)
        ·
         refine ⟨?_, trivial⟩
         ·
          omega
        refine AW.back (x := i) (i + 1) (by kernel_rfl) ⟨?_, k125q, ?_, e132⟩ ?_
        ·
         show True
         assumption
        ·
         show (List.length (JoinTree.Kids a)) - (i + 1) < k125q
         omega
        ·
         show (List.length (JoinTree.Kids a)) - (i + 1) < (List.length (JoinTree.Kids a)) - i
         omega
      ·
       intro h133
       have h133q : ¬ (((i : Nat) : Int) < ((List.length (JoinTree.Kids a) : Nat) : Int)) := (of_decide_eq_false h133)
       have e134 := e124.trans (Go.Am.bif_f h133)
       refine AW.kp [] [] ⟨[], []⟩ ?_
       refine AW.exit ?_
       refine AW.meet () (by kernel_rfl) ⟨?_, e134⟩
       show True
       assumption
    ·
     intro x hR
     obtain ⟨hJ0, e135⟩ := hR
     replace hJ0 : True := hJ0
     have e136 := e95.trans (Go.Am.elim_l e135)
     refine AW.seq (AW.r1 hC1 [4] [] ⟨[(4, .bool true)], []⟩ ?_)
     refine AW.ret ?_
     refine ⟨true, [.bool true], by kernel_rfl, by kernel_rfl, ?_, e136⟩
     show True
     exact trivial
  ·
   intro v14 hR
   obtain ⟨hK0, e137⟩ := hR
   replace hK0 : True := hK0
   have e138 := e4.trans (Go.Am.then_eq e137)
   refine AWO.run hC false [] [5] [] [15] []
    ⟨[(15, .bool (!v14))], []⟩
    [] (by rfl) (by kernel_rfl) ?_ ?_
   ·
    exact trivial
   refine AWO.nil ?_
   refine AW.cd (!v14) ?_ ?_
   ·
    intro h139
    have h139q : v14 = false := (Go.Am.not_pos h139)
    have e140 := e138.trans (Go.Am.bif_t h139)
    refine AW.seq (AW.r1 hC [4] [] ⟨[(4, .bool false)], []⟩ ?_)
    exact AW.ret (AW.retE (β := Bool) (fun v => [⟨.bool, v⟩]) (fun v => []) (v := false) e140 (by kernel_rfl) rfl rfl)
   ·
    intro h141
    have h141q : v14 = true := (Go.Am.not_neg h141)
    have e142 := e138.trans (Go.Am.bif_f h141)
    refine AW.kp [] [] ⟨[], []⟩ ?_
    refine AW.skip (AW.seq (AW.r1 hC [4] [] ⟨[(4, .bool true)], []⟩ ?_))
    exact AW.ret (AW.retE (β := Bool) (fun v => [⟨.bool, v⟩]) (fun v => []) (v := true) e142 (by kernel_rfl) rfl rfl)

theorem eqJoinTree_fu : AllTV (eqJoinTree_sp.ps.map PK.ty) (fun tvs => eqJoinTree_sp.pre tvs → ∃ k, (eqJoinTree_spn k).pre tvs ∧ (eqJoinTree_spn k).fn tvs = eqJoinTree_sp.fn tvs ∧ (eqJoinTree_spn k).bx tvs = eqJoinTree_sp.bx tvs) :=
 (fun (a : JoinTree) (b : JoinTree) h => ⟨SizeOf.sizeOf a + 1, (show (True) ∧ SizeOf.sizeOf a < SizeOf.sizeOf a + 1 from ⟨h, Nat.lt_succ_self _⟩), (show (eqJoinTree_spn (SizeOf.sizeOf a + 1)).fn [⟨(.named 3), (a : JoinTree)⟩, ⟨(.named 3), (b : JoinTree)⟩] = ([⟨.bool, (eqJoinTree_r (SizeOf.sizeOf a + 1) a b)⟩] : List TV) from by kernel_rfl).trans (show ([⟨.bool, (eqJoinTree_r (SizeOf.sizeOf a + 1) a b)⟩] : List TV) = eqJoinTree_sp.fn [⟨(.named 3), (a : JoinTree)⟩, ⟨(.named 3), (b : JoinTree)⟩] from by kernel_rfl), by kernel_rfl⟩)

theorem eqJoinTree_ok : FnOK Try.prog 43 eqJoinTree_sp := FnOK.of_fuel eqJoinTree_okn (fun _ => rfl) (fun _ => rfl) (AllTV.get eqJoinTree_fu)

end
end Go.Proofs.Ytgbapklfgjnggaa
