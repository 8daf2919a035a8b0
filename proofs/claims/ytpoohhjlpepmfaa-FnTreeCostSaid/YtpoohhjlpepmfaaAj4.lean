/-
  A part of the proof of this claim (Aj4): what functions of the program compute, and plain facts of that. No conditions.
-/
import Derived.Test.YtpoohhjlpepmfaaAjL
set_option linter.all false
namespace Go.Proofs.Ytpoohhjlpepmfaa
open Go Go.Am
noncomputable section

theorem kid_lt {t : JoinTree} {i : Nat} (h : i < t.Kids.length) : SizeOf.sizeOf (t.Kids.getD i JoinTree.zero) < SizeOf.sizeOf t := by
 cases t with
 | mk l ks =>
  have := List.sizeOf_lt_of_mem (getD_mem ks i JoinTree.zero h)
  simp only [JoinTree.mk.sizeOf_spec, JoinTree.Kids] at *
  omega

def szJoinTree_l0 (self : JoinTree → Int → Int) (a : JoinTree) : Nat → Int → Nat → Int ⊕ Int
 | 0, left1, i => .inl left1
 | k + 1, left1, i => (bif (decide (((i : Nat) : Int) < ((List.length (JoinTree.Kids a) : Nat) : Int))) then (bif (decide ((self (List.getD (JoinTree.Kids a) i JoinTree.zero) left1) < 0)) then (.inr (-1)) else (szJoinTree_l0 self a k (self (List.getD (JoinTree.Kids a) i JoinTree.zero) left1) (i + 1))) else (.inl left1))

def szJoinTree_c0 (self : JoinTree → Int → Int) (a : JoinTree) (left : Int) : Int :=
 (bif (decide ((left - ((List.length (JoinTree.Kids a) : Nat) : Int)) < 0)) then (-1) else (Sum.elim (fun z => (fun (left1 : Int) => left1) z) (fun r => r) (szJoinTree_l0 self a ((List.length (JoinTree.Kids a)) - 0 + 1) (left - ((List.length (JoinTree.Kids a) : Nat) : Int)) 0)))

def szJoinTree_r : Nat → JoinTree → Int → Int
 | 0, a, left => 0
 | fuel + 1, a, left => (Go.Am.andThen (szJoinTree_c0 (szJoinTree_r fuel) a left) (fun z => (fun (v8 : Int) => (bif (decide (v8 < 0)) then (-1) else v8)) z))

def szJoinTree (a : JoinTree) (left : Int) : Int := szJoinTree_r (SizeOf.sizeOf a + 1) a left

def szJoinTree_spn (fuel : Nat) : FnSpec := mkSpec [.val (.named 3), .val (.int .i64)] [.val (.int .i64)] (fun (a : JoinTree) (left : Int) => (0 ≤ left) ∧ SizeOf.sizeOf a < fuel) (fun (a : JoinTree) (left : Int) => [⟨(.int .i64), (szJoinTree_r fuel a left)⟩])

def szJoinTree_sp : FnSpec := mkSpec [.val (.named 3), .val (.int .i64)] [.val (.int .i64)] (fun (a : JoinTree) (left : Int) => 0 ≤ left) (fun (a : JoinTree) (left : Int) => [⟨(.int .i64), (szJoinTree a left)⟩])

theorem szJoinTree_okn (fuel : Nat) : FnOK Try.prog 46 (szJoinTree_spn fuel) := by
 induction fuel with
 | zero => exact FnOK.never Try.func46 (by kernel_rfl) rfl (fun _ _ h => absurd h.2 (Nat.not_lt_zero _))
 | succ fuel ih => ?_
 have hC : CtxOK Try.prog (mkCtx tyL [(46, (szJoinTree_spn fuel))]) := CtxOK.cons ih (CtxOK.nil tyOK)
 have hC1 := hC.rebase 1000
 refine FnOK.of_body Try.func46 (by kernel_rfl) rfl (C := (mkCtx tyL [(46, (szJoinTree_spn fuel))])) hC.ty (by kernel_rfl) ?_
 intro (a : JoinTree) (left : Int) hwf hpre E
 have hpre : (0 ≤ left) ∧ SizeOf.sizeOf a < fuel + 1 := hpre
 have hw_a : Wf ⟨(.named 3), (a : JoinTree)⟩ := hwf _ (List.Mem.head _)
 have hr_a_Leaf : -9223372036854775808 ≤ JoinTree.Leaf a ∧ JoinTree.Leaf a ≤ 9223372036854775807 := (hw_a.field (tv := ⟨(.int .i64), JoinTree.Leaf a⟩) (List.Mem.head _)).int_inv
 have hl_a_Kids : ((List.length (JoinTree.Kids a) : Nat) : Int) ≤ 9223372036854775807 := (hw_a.field (tv := ⟨(.slice (.named 3)), JoinTree.Kids a⟩) (List.Mem.tail _ (List.Mem.head _))).len
 have hw_left : Wf ⟨(.int .i64), (left : Int)⟩ := hwf _ (List.Mem.tail _ (List.Mem.head _))
 have hr_left : -9223372036854775808 ≤ left ∧ left ≤ 9223372036854775807 := hw_left.int_inv
 have e0 : szJoinTree_r (fuel + 1) a left = szJoinTree_r (fuel + 1) a left := rfl
 refine AW.seq (AW.r1 hC [1, 2] [8] ⟨[(1, .int .i64 left), (2, .ref 8 1 0)], [(8, .box 1 [.int .i64 (JoinTree.Leaf a), .data (.slice (.named 3)) ((JoinTree.Kids a) : List JoinTree)])]⟩ ?_)
 refine AW.seq (AW.regionO [0, 1, 2, 3, 4] (by rfl) ?_)
 refine AWO.run hC false [] [0, 1, 2] [3, 4] [6, 7] []
  ⟨[(6, .data (.slice (.named 3)) ((JoinTree.Kids a) : List JoinTree)), (7, .int .i64 left)], []⟩
  [] (by rfl) (by kernel_rfl) ?_ ?_
 ·
  exact trivial
 refine AWO.callJ hC.ty [8] [] (α := Int) (fun x => ⟨[(8, .int .i64 x)], []⟩) (fun x => (True) ∧ (szJoinTree_c0 (szJoinTree_r fuel) a left) = x) (vs := [.data (.slice (.named 3)) ((JoinTree.Kids a) : List JoinTree), .int .i64 left]) (caps := []) (by rfl) rfl (.inl rfl) (by decide) (by kernel_rfl) (by kernel_rfl) Try.func77 (by kernel_rfl) rfl (by kernel_rfl) ?_ ?_
 ·
  intro o1
  have e95 : (szJoinTree_c0 (szJoinTree_r fuel) a left) = (szJoinTree_c0 (szJoinTree_r fuel) a left) := rfl
  refine AW.kp [0, 1] [] ⟨[(0, .data (.slice (.named 3)) ((JoinTree.Kids a) : List JoinTree)), (1, .int .i64 left)], []⟩ ?_
  refine AW.seq (AW.r1 hC1 [0, 1] [] ⟨[(0, .data (.slice (.named 3)) ((JoinTree.Kids a) : List JoinTree)), (1, .int .i64 left)], []⟩ ?_)
  refine AW.seq (AW.r0 hC1 [0, 1] [] ⟨[(0, .data (.slice (.named 3)) ((JoinTree.Kids a) : List JoinTree)), (1, .int .i64 (left - ((List.length (JoinTree.Kids a) : Nat) : Int)))], []⟩ [(-9223372036854775808 ≤ (left - ((List.length (JoinTree.Kids a) : Nat) : Int)) ∧ (left - ((List.length (JoinTree.Kids a) : Nat) : Int)) ≤ 9223372036854775807)] ?_ ?_)
  ·
   refine ⟨?_, trivial⟩
   ·
    omega
  refine AW.seq (AW.seq (AW.r1 hC1 [0, 1, 11] [] ⟨[(0, .data (.slice (.named 3)) ((JoinTree.Kids a) : List JoinTree)), (1, .int .i64 (left - ((List.length (JoinTree.Kids a) : Nat) : Int))), (11, .bool (decide ((left - ((List.length (JoinTree.Kids a) : Nat) : Int)) < 0)))], []⟩ ?_))
  refine AW.cd (decide ((left - ((List.length (JoinTree.Kids a) : Nat) : Int)) < 0)) ?_ ?_
  ·
   intro h96
   have h96q : (left - ((List.length (JoinTree.Kids a) : Nat) : Int)) < 0 := (of_decide_eq_true h96)
   have e97 := e95.trans (Go.Am.bif_t h96)
   refine AW.seq (AW.r1 hC1 [4] [] ⟨[(4, .int .i64 (-1))], []⟩ ?_)
   refine AW.ret ?_
   refine ⟨(-1), [.int .i64 (-1)], by kernel_rfl, by kernel_rfl, ?_, e97⟩
   show True
   exact trivial
  ·
   intro h98
   have h98q : ¬ ((left - ((List.length (JoinTree.Kids a) : Nat) : Int)) < 0) := (of_decide_eq_false h98)
   have e99 := e95.trans (Go.Am.bif_f h98)
   refine AW.kp [0, 1] [] ⟨[(0, .data (.slice (.named 3)) ((JoinTree.Kids a) : List JoinTree)), (1, .int .i64 (left - ((List.length (JoinTree.Kids a) : Nat) : Int)))], []⟩ ?_
   refine AW.skip (AW.seq (AW.seq (AW.r1 hC1 [0, 1, 5] [] ⟨[(0, .data (.slice (.named 3)) ((JoinTree.Kids a) : List JoinTree)), (1, .int .i64 (left - ((List.length (JoinTree.Kids a) : Nat) : Int))), (5, .int .i64 0)], []⟩ ?_)))
   refine AW.cutQ (α := Int) (fun x => ⟨[(1, .int .i64 x)], []⟩) (fun x => (0 ≤ x) ∧ (szJoinTree_l0 (szJoinTree_r fuel) a ((List.length (JoinTree.Kids a)) - 0 + 1) (left - ((List.length (JoinTree.Kids a) : Nat) : Int)) 0) = (.inl x)) ?_ ?_
   ·
    skip
    refine AW.block (AW.loop (α := Int × Nat) (fun x => ⟨[(0, .data (.slice (.named 3)) ((JoinTree.Kids a) : List JoinTree)), (1, .int .i64 x.1), (5, .int .i64 ((x.2 : Nat) : Int))], []⟩) (fun x => (0 ≤ x.1) ∧ ∃ k, (List.length (JoinTree.Kids a)) - x.2 < k ∧ (szJoinTree_l0 (szJoinTree_r fuel) a ((List.length (JoinTree.Kids a)) - 0 + 1) (left - ((List.length (JoinTree.Kids a) : Nat) : Int)) 0) = szJoinTree_l0 (szJoinTree_r fuel) a k x.1 x.2) (fun x => (List.length (JoinTree.Kids a)) - x.2) ((left - ((List.length (JoinTree.Kids a) : Nat) : Int)), 0) (by kernel_rfl) ⟨?_, _, Nat.lt_succ_self _, rfl⟩ ?_)
    ·
     show 0 ≤ (left - ((List.length (JoinTree.Kids a) : Nat) : Int))
     omega
    ·
     intro x hR
     obtain ⟨left1, i⟩ := x
     obtain ⟨hI0, k132, hk130, e131⟩ := hR
     replace hI0 : 0 ≤ left1 := hI0
     replace hk130 : (List.length (JoinTree.Kids a)) - i < k132 := hk130
     obtain ⟨k132q, rfl⟩ : ∃ k, k132 = k + 1 := ⟨k132 - 1, by omega⟩
     refine AW.seq (AW.seq (AW.r1 hC1 [0, 1, 5, 15] [] ⟨[(0, .data (.slice (.named 3)) ((JoinTree.Kids a) : List JoinTree)), (1, .int .i64 left1), (5, .int .i64 ((i : Nat) : Int)), (15, .bool (decide (((i : Nat) : Int) < ((List.length (JoinTree.Kids a) : Nat) : Int))))], []⟩ ?_))
     refine AW.cd (decide (((i : Nat) : Int) < ((List.length (JoinTree.Kids a) : Nat) : Int))) ?_ ?_
     ·
      intro h133
      have h133q : ((i : Nat) : Int) < ((List.length (JoinTree.Kids a) : Nat) : Int) := (of_decide_eq_true h133)
      have e134 := e131.trans (Go.Am.bif_t h133)
      refine AW.kp [0, 1, 5] [] ⟨[(0, .data (.slice (.named 3)) ((JoinTree.Kids a) : List JoinTree)), (1, .int .i64 left1), (5, .int .i64 ((i : Nat) : Int))], []⟩ ?_
      refine AW.skip (AW.seq (AW.block (AW.seq (AW.r0 hC1 [0, 1, 5] [] ⟨[(0, .data (.slice (.named 3)) ((JoinTree.Kids a) : List JoinTree)), (1, .int .i64 ((szJoinTree_r fuel) (List.getD (JoinTree.Kids a) i JoinTree.zero) left1)), (5, .int .i64 ((i : Nat) : Int))], []⟩ [(0 ≤ ((i : Nat) : Int) ∧ ((i : Nat) : Int) < ((List.length (JoinTree.Kids a) : Nat) : Int)), ((0 ≤ left1) ∧ SizeOf.sizeOf (List.getD (JoinTree.Kids a) i JoinTree.zero) < fuel)] ?_ ?_))))
      ·
       refine ⟨?_, ?_, trivial⟩
       ·
        omega
       ·
        exact ⟨by omega, Nat.lt_of_lt_of_le (kid_lt (by omega)) (Nat.le_of_lt_succ hpre.2)⟩
      refine AW.seq (AW.wf_int (s := 1) (k := .i64) (n := ((szJoinTree_r fuel) (List.getD (JoinTree.Kids a) i JoinTree.zero) left1)) (by kernel_rfl) fun hw135 => ?_)
      replace hw135 : -9223372036854775808 ≤ ((szJoinTree_r fuel) (List.getD (JoinTree.Kids a) i JoinTree.zero) left1) ∧ ((szJoinTree_r fuel) (List.getD (JoinTree.Kids a) i JoinTree.zero) left1) ≤ 9223372036854775807 := hw135
      refine AW.r1 hC1 [0, 1, 5, 25] [] ⟨[(0, .data (.slice (.named 3)) ((JoinTree.Kids a) : List JoinTree)), (1, .int .i64 ((szJoinTree_r fuel) (List.getD (JoinTree.Kids a) i JoinTree.zero) left1)), (5, .int .i64 ((i : Nat) : Int)), (25, .bool (decide (((szJoinTree_r fuel) (List.getD (JoinTree.Kids a) i JoinTree.zero) left1) < 0)))], []⟩ ?_
      refine AW.cd (decide (((szJoinTree_r fuel) (List.getD (JoinTree.Kids a) i JoinTree.zero) left1) < 0)) ?_ ?_
      ·
       intro h136
       have h136q : ((szJoinTree_r fuel) (List.getD (JoinTree.Kids a) i JoinTree.zero) left1) < 0 := (of_decide_eq_true h136)
       have e137 := e134.trans (Go.Am.bif_t h136)
       refine AW.seq (AW.r1 hC1 [4] [] ⟨[(4, .int .i64 (-1))], []⟩ ?_)
       refine AW.ret ?_
       have e138 := e99.trans (Go.Am.elim_r e137)
       refine ⟨(-1), [.int .i64 (-1)], by kernel_rfl, by kernel_rfl, ?_, e138⟩
       show True
       exact trivial
      ·
       intro h139
       have h139q : ¬ (((szJoinTree_r fuel) (List.getD (JoinTree.Kids a) i JoinTree.zero) left1) < 0) := (of_decide_eq_false h139)
       have e140 := e134.trans (Go.Am.bif_f h139)
       refine AW.kp [0, 1, 5] [] ⟨[(0, .data (.slice (.named 3)) ((JoinTree.Kids a) : List JoinTree)), (1, .int .i64 ((szJoinTree_r fuel) (List.getD (JoinTree.Kids a) i JoinTree.zero) left1)), (5, .int .i64 ((i : Nat) : Int))], []⟩ ?_
       refine AW.skip (AW.r0 hC1 [0, 1, 5] [] ⟨[(0, .data (.slice (.named 3)) ((JoinTree.Kids a) : List JoinTree)), (1, .int .i64 ((szJoinTree_r fuel) (List.getD (JoinTree.Kids a) i JoinTree.zero) left1)), (5, .int .i64 ((i + 1 : Nat) : Int))], []⟩ [(-9223372036854775808 ≤ ((i + 1 : Nat) : Int) ∧ ((i + 1 : Nat) : Int) ≤ 9223372036854775807)] ?_ ?_)
       ·
        refine ⟨?_, trivial⟩
        ·
         omega
       refine AW.back (x := (left1, i)) (((szJoinTree_r fuel) (List.getD (JoinTree.Kids a) i JoinTree.zero) left1), i + 1) (by kernel_rfl) ⟨?_, k132q, ?_, e140⟩ ?_
       ·
        show 0 ≤ ((szJoinTree_r fuel) (List.getD (JoinTree.Kids a) i JoinTree.zero) left1)
        omega
       ·
        show (List.length (JoinTree.Kids a)) - (i + 1) < k132q
        omega
       ·
        show (List.length (JoinTree.Kids a)) - (i + 1) < (List.length (JoinTree.Kids a)) - i
        omega
     ·
      intro h141
      have h141q : ¬ (((i : Nat) : Int) < ((List.length (JoinTree.Kids a) : Nat) : Int)) := (of_decide_eq_false h141)
      have e142 := e131.trans (Go.Am.bif_f h141)
      refine AW.kp [1] [] ⟨[(1, .int .i64 left1)], []⟩ ?_
      refine AW.exit ?_
      refine AW.meet left1 (by kernel_rfl) ⟨?_, e142⟩
      show 0 ≤ left1
      assumption
   ·
    intro left1 hR
    obtain ⟨hJ0, e143⟩ := hR
    replace hJ0 : 0 ≤ left1 := hJ0
    have e144 := e99.trans (Go.Am.elim_l e143)
    refine AW.seq (AW.r1 hC1 [4] [] ⟨[(4, .int .i64 left1)], []⟩ ?_)
    refine AW.ret ?_
    refine ⟨left1, [.int .i64 left1], by kernel_rfl, by kernel_rfl, ?_, e144⟩
    show True
    exact trivial
 ·
  intro v8 hR
  obtain ⟨hK0, e145⟩ := hR
  replace hK0 : True := hK0
  have e146 := e0.trans (Go.Am.then_eq e145)
  refine AWO.run hC false [] [4] [] [1] []
   ⟨[(1, .int .i64 v8)], []⟩
   [] (by rfl) (by kernel_rfl) ?_ ?_
  ·
   exact trivial
  refine AWO.nil ?_
  refine AW.seq (AW.seq (AW.r1 hC [1, 10] [] ⟨[(1, .int .i64 v8), (10, .bool (decide (v8 < 0)))], []⟩ ?_))
  refine AW.cd (decide (v8 < 0)) ?_ ?_
  ·
   intro h147
   have h147q : v8 < 0 := (of_decide_eq_true h147)
   have e148 := e146.trans (Go.Am.bif_t h147)
   refine AW.seq (AW.r1 hC [4] [] ⟨[(4, .int .i64 (-1))], []⟩ ?_)
   exact AW.ret (AW.retE (β := Int) (fun v => [⟨(.int .i64), v⟩]) (fun v => []) (v := (-1)) e148 (by kernel_rfl) rfl rfl)
  ·
   intro h149
   have h149q : ¬ (v8 < 0) := (of_decide_eq_false h149)
   have e150 := e146.trans (Go.Am.bif_f h149)
   refine AW.kp [1] [] ⟨[(1, .int .i64 v8)], []⟩ ?_
   refine AW.skip (AW.seq (AW.r1 hC [4] [] ⟨[(4, .int .i64 v8)], []⟩ ?_))
   exact AW.ret (AW.retE (β := Int) (fun v => [⟨(.int .i64), v⟩]) (fun v => []) (v := v8) e150 (by kernel_rfl) rfl rfl)

theorem szJoinTree_fu : AllTV (szJoinTree_sp.ps.map PK.ty) (fun tvs => szJoinTree_sp.pre tvs → ∃ k, (szJoinTree_spn k).pre tvs ∧ (szJoinTree_spn k).fn tvs = szJoinTree_sp.fn tvs ∧ (szJoinTree_spn k).bx tvs = szJoinTree_sp.bx tvs) :=
 (fun (a : JoinTree) (left : Int) h => ⟨SizeOf.sizeOf a + 1, (show (0 ≤ left) ∧ SizeOf.sizeOf a < SizeOf.sizeOf a + 1 from ⟨h, Nat.lt_succ_self _⟩), (show (szJoinTree_spn (SizeOf.sizeOf a + 1)).fn [⟨(.named 3), (a : JoinTree)⟩, ⟨(.int .i64), (left : Int)⟩] = ([⟨(.int .i64), (szJoinTree_r (SizeOf.sizeOf a + 1) a left)⟩] : List TV) from by kernel_rfl).trans (show ([⟨(.int .i64), (szJoinTree_r (SizeOf.sizeOf a + 1) a left)⟩] : List TV) = szJoinTree_sp.fn [⟨(.named 3), (a : JoinTree)⟩, ⟨(.int .i64), (left : Int)⟩] from by kernel_rfl), by kernel_rfl⟩)

theorem szJoinTree_ok : FnOK Try.prog 46 szJoinTree_sp := FnOK.of_fuel szJoinTree_okn (fun _ => rfl) (fun _ => rfl) (AllTV.get szJoinTree_fu)

theorem sz_le : ∀ (f : Nat) (t : JoinTree) (l : Int), 0 ≤ l → szJoinTree_r f t l ≤ l := by
 intro f
 induction f with
 | zero => intro t l h; exact h
 | succ f ih =>
  intro t l h
  have hl : ∀ (k : Nat) (left : Int) (i : Nat), 0 ≤ left → left ≤ l → Sum.elim (fun z => z) (fun r => r) (szJoinTree_l0 (szJoinTree_r f) t k left i) ≤ l := by
   intro k
   induction k with
   | zero => intro left i _ h2; exact h2
   | succ k ihk =>
    intro left i h1 h2
    unfold szJoinTree_l0
    cases decide (((i : Nat) : Int) < ((List.length (JoinTree.Kids t) : Nat) : Int)) with
    | false => exact h2
    | true =>
     simp only [cond_true]
     by_cases hn : szJoinTree_r f (List.getD (JoinTree.Kids t) i JoinTree.zero) left < 0
     ·
      rw [decide_eq_true hn]
      simp only [cond_true, Sum.elim_inr]
      omega
     ·
      rw [decide_eq_false hn, cond_false]
      have := ih (List.getD (JoinTree.Kids t) i JoinTree.zero) left h1
      exact ihk _ _ (by omega) (by omega)
  have hc : szJoinTree_c0 (szJoinTree_r f) t l ≤ l := by
   unfold szJoinTree_c0
   by_cases hn : l - ((List.length (JoinTree.Kids t) : Nat) : Int) < 0
   ·
    rw [decide_eq_true hn, cond_true]; omega
   ·
    rw [decide_eq_false hn, cond_false]
    exact hl _ _ _ (by omega) (by omega)
  simp only [szJoinTree_r, Go.Am.andThen]
  by_cases hn : szJoinTree_c0 (szJoinTree_r f) t l < 0
  ·
   rw [decide_eq_true hn, cond_true]; omega
  ·
   rw [decide_eq_false hn, cond_false]; exact hc

def Fits (a : JoinTree) : Prop := ∃ f l, SizeOf.sizeOf a < f ∧ (0 ≤ l ∧ l ≤ 1048576) ∧ 0 ≤ szJoinTree_r f a l

theorem Fits.of {a : JoinTree} (h : ¬ szJoinTree a 1048576 < 0) : Fits a := ⟨SizeOf.sizeOf a + 1, 1048576, Nat.lt_succ_self _, by omega, by unfold szJoinTree at h; omega⟩

theorem Fits.kids {a : JoinTree} (h : Fits a) : ((List.length a.Kids : Nat) : Int) ≤ 1048576 ∧ ∀ i, i < a.Kids.length → Fits (List.getD a.Kids i JoinTree.zero) := by
 obtain ⟨f, l, hf, hl, h0⟩ := h
 cases f with
 | zero => omega
 | succ f =>
  have hc : 0 ≤ szJoinTree_c0 (szJoinTree_r f) a l := by
   simp only [szJoinTree_r, Go.Am.andThen] at h0
   by_cases hn : szJoinTree_c0 (szJoinTree_r f) a l < 0
   ·
    rw [decide_eq_true hn, cond_true] at h0; omega
   ·
    omega
  unfold szJoinTree_c0 at hc
  by_cases hn : l - ((List.length (JoinTree.Kids a) : Nat) : Int) < 0
  ·
   rw [decide_eq_true hn, cond_true] at hc; omega
  ·
   rw [decide_eq_false hn, cond_false] at hc
   refine ⟨by omega, ?_⟩
   have key : ∀ (k : Nat) (left : Int) (i : Nat), a.Kids.length - i < k → 0 ≤ left → left ≤ l → 0 ≤ Sum.elim (fun z => (fun (left1 : Int) => left1) z) (fun r => r) (szJoinTree_l0 (szJoinTree_r f) a k left i) →
     ∀ j, i ≤ j → j < a.Kids.length → Fits (List.getD a.Kids j JoinTree.zero) := by
    intro k
    induction k with
    | zero => intro left i hk; omega
    | succ k ihk =>
     intro left i hk h1 h2 h3 j hj hjl
     unfold szJoinTree_l0 at h3
     rw [lt_dec (show i < a.Kids.length by omega), cond_true] at h3
     by_cases hn : szJoinTree_r f (List.getD (JoinTree.Kids a) i JoinTree.zero) left < 0
     ·
      rw [decide_eq_true hn] at h3
      simp only [cond_true, Sum.elim_inr] at h3
      exact absurd h3 (by decide)
     ·
      rw [decide_eq_false hn, cond_false] at h3
      rcases Nat.eq_or_lt_of_le hj with rfl | hj
      ·
       exact ⟨f, left, Nat.lt_of_lt_of_le (kid_lt hjl) (Nat.le_of_lt_succ hf), ⟨h1, by omega⟩, by omega⟩
      ·
       have := sz_le f (List.getD (JoinTree.Kids a) i JoinTree.zero) left h1
       exact ihk _ _ (by omega) (by omega) (by omega) h3 j hj hjl
   exact fun i hi => key _ _ 0 (by omega) (by omega) (by omega) hc i (Nat.zero_le _) hi

theorem gSize_b {g : Graph} (hV : VG g) (m : Int) : 1 ≤ gSize g m ∧ gSize g m ≤ 1000000000000000 := by
 have h0 : ∀ (k : Nat) (n : Int) (i : Nat), 1 ≤ n → n ≤ 1000 ^ i → i ≤ g.Rows.length → 1 ≤ gSize_l0 g m k n i ∧ gSize_l0 g m k n i ≤ 1000000000000000 := by
  intro k
  induction k with
  | zero =>
   intro n i h1 h2 h3
   have := pow5 (i := i) (by have := hV.n5; omega)
   show 1 ≤ n ∧ n ≤ 1000000000000000
   omega
  | succ k ih =>
   intro n i h1 h2 h3
   unfold gSize_l0
   by_cases hi : i < g.Rows.length
   ·
    rw [lt_dec hi, cond_true]
    have hr := hV.rows _ (getD_mem g.Rows i 0 hi)
    have ht := times h1 h2 hr.1 hr.2
    cases (bits .and .i64 m ((1 : Int) * 2 ^ i) != 0) with
    | true => exact ih _ _ ht.1 ht.2 (by omega)
    | false => exact ih _ _ h1 (grow5 h2) (by omega)
   ·
    rw [ge_dec hi, cond_false]
    have := pow5 (i := i) (by have := hV.n5; omega)
    omega
 have h1 : ∀ (k : Nat) (n : Int) (i : Nat), 0 ≤ n → n ≤ 1000000000000000 → 0 ≤ gSize_l1 g m k n i ∧ gSize_l1 g m k n i ≤ 1000000000000000 := by
  intro k
  induction k with
  | zero => intro n i h1 h2; exact ⟨h1, h2⟩
  | succ k ih =>
   intro n i h1 h2
   unfold gSize_l1
   by_cases hi : i < g.Edges.length
   ·
    rw [lt_dec hi, cond_true]
    have he := hV.edges _ (getD_mem g.Edges i Edge.zero hi)
    have hd := divs h1 he.2.2.2.1
    cases (bif ((bits .and .i64 m ((1 : Int) * 2 ^ (Int.toNat (Edge.A (List.getD (Graph.Edges g) i Edge.zero))))) != 0) then ((bits .and .i64 m ((1 : Int) * 2 ^ (Int.toNat (Edge.B (List.getD (Graph.Edges g) i Edge.zero))))) != 0) else false) with
    | true => exact ih _ _ hd.1 (by omega)
    | false => exact ih _ _ h1 h2
   ·
    rw [ge_dec hi, cond_false]
    exact ⟨h1, h2⟩
 have a := h0 (g.Rows.length - 0 + 1) 1 0 (by decide) (by decide) (by omega)
 have b := h1 (g.Edges.length - 0 + 1) _ 0 (show 0 ≤ gSize_l0 g m (g.Rows.length - 0 + 1) 1 0 by omega) a.2
 simp only [gSize, Go.Am.andThen]
 split <;> omega

def toJoinTree_l0 (self : JoinTree → JoinTree) (a : JoinTree) : Nat → Nat → (List JoinTree) → (List JoinTree)
 | 0, i, out => out
 | k + 1, i, out => (bif (decide (((i : Nat) : Int) < ((List.length (JoinTree.Kids a) : Nat) : Int))) then (toJoinTree_l0 self a k (i + 1) (List.set out i (self (List.getD (JoinTree.Kids a) i JoinTree.zero)))) else out)

def toJoinTree_r : Nat → JoinTree → JoinTree
 | 0, a => JoinTree.zero
 | fuel + 1, a => (Go.Am.andThen (toJoinTree_l0 (toJoinTree_r fuel) a ((List.length (JoinTree.Kids a)) - 0 + 1) 0 (List.replicate (List.length (JoinTree.Kids a)) JoinTree.zero : List JoinTree)) (fun z => (fun (out : List JoinTree) => (JoinTree.mk (JoinTree.Leaf a) out)) z))

def toJoinTree (a : JoinTree) : JoinTree := toJoinTree_r (SizeOf.sizeOf a + 1) a

def toJoinTree_spn (fuel : Nat) : FnSpec := mkSpec [.val (.named 3)] [.val (.named 3)] (fun (a : JoinTree) => (Fits a) ∧ SizeOf.sizeOf a < fuel) (fun (a : JoinTree) => [⟨(.named 3), (toJoinTree_r fuel a)⟩])

def toJoinTree_sp : FnSpec := mkSpec [.val (.named 3)] [.val (.named 3)] (fun (a : JoinTree) => Fits a) (fun (a : JoinTree) => [⟨(.named 3), (toJoinTree a)⟩])

theorem toJoinTree_okn (fuel : Nat) : FnOK Try.prog 47 (toJoinTree_spn fuel) := by
 induction fuel with
 | zero => exact FnOK.never Try.func47 (by kernel_rfl) rfl (fun _ h => absurd h.2 (Nat.not_lt_zero _))
 | succ fuel ih => ?_
 have hC : CtxOK Try.prog (mkCtx tyL [(47, (toJoinTree_spn fuel))]) := CtxOK.cons ih (CtxOK.nil tyOK)
 have hC1 := hC.rebase 1000
 refine FnOK.of_body Try.func47 (by kernel_rfl) rfl (C := (mkCtx tyL [(47, (toJoinTree_spn fuel))])) hC.ty (by kernel_rfl) ?_
 intro (a : JoinTree) hwf hpre E
 have hpre : (Fits a) ∧ SizeOf.sizeOf a < fuel + 1 := hpre
 have hw_a : Wf ⟨(.named 3), (a : JoinTree)⟩ := hwf _ (List.Mem.head _)
 have hr_a_Leaf : -9223372036854775808 ≤ JoinTree.Leaf a ∧ JoinTree.Leaf a ≤ 9223372036854775807 := (hw_a.field (tv := ⟨(.int .i64), JoinTree.Leaf a⟩) (List.Mem.head _)).int_inv
 have hl_a_Kids : ((List.length (JoinTree.Kids a) : Nat) : Int) ≤ 9223372036854775807 := (hw_a.field (tv := ⟨(.slice (.named 3)), JoinTree.Kids a⟩) (List.Mem.tail _ (List.Mem.head _))).len
 have e0 : toJoinTree_r (fuel + 1) a = toJoinTree_r (fuel + 1) a := rfl
 refine AW.seq (AW.r1 hC [1, 2] [4, 8] ⟨[(1, .ref 4 1 0), (2, .ref 8 1 0)], [(4, .box 1 [.int .i64 (JoinTree.Leaf a), .data (.slice (.named 3)) ((JoinTree.Kids a) : List JoinTree)]), (8, .box 1 [.int .i64 0, .nilsl])]⟩ ?_)
 refine AW.seq (AW.r1 hC [1, 2, 3] [4, 8, 12] ⟨[(1, .ref 4 1 0), (2, .ref 8 1 0), (3, .ref 12 1 0)], [(4, .box 1 [.int .i64 (JoinTree.Leaf a), .data (.slice (.named 3)) ((JoinTree.Kids a) : List JoinTree)]), (8, .box 1 [.int .i64 0, .nilsl]), (12, .box 1 [.int .i64 0, .nilsl])]⟩ ?_)
 refine AW.seq (AW.r1 hC [1, 2, 3] [4, 8, 12] ⟨[(1, .ref 4 1 0), (2, .ref 8 1 0), (3, .ref 12 1 0)], [(4, .box 1 [.int .i64 (JoinTree.Leaf a), .data (.slice (.named 3)) ((JoinTree.Kids a) : List JoinTree)]), (8, .box 1 [.int .i64 0, .nilsl]), (12, .box 1 [.int .i64 (JoinTree.Leaf a), .nilsl])]⟩ ?_)
 refine AW.seq (AW.regionO [0, 1, 2, 3, 4] (by rfl) ?_)
 refine AWO.run hC false [] [0, 1] [2, 3, 4] [2, 3, 8] [8, 12]
  ⟨[(2, .ref 8 1 0), (3, .ref 12 1 0), (8, .data (.slice (.named 3)) ((JoinTree.Kids a) : List JoinTree))], [(8, .box 1 [.int .i64 0, .nilsl]), (12, .box 1 [.int .i64 (JoinTree.Leaf a), .nilsl])]⟩
  [] (by rfl) (by kernel_rfl) ?_ ?_
 ·
  exact trivial
 refine AWO.call hC.ty (vs := [.data (.slice (.named 3)) ((JoinTree.Kids a) : List JoinTree)]) (caps := []) (by rfl) rfl (.inl rfl) (by decide) (by kernel_rfl) (by kernel_rfl) Try.func78 (by kernel_rfl) rfl (by kernel_rfl) ?_
 intro o1
 refine AW.kp [0, 1002, 1003] [8, 12] ⟨[(0, .data (.slice (.named 3)) ((JoinTree.Kids a) : List JoinTree)), (1002, .ref 8 1 0), (1003, .ref 12 1 0)], [(8, .box 1 [.int .i64 0, .nilsl]), (12, .box 1 [.int .i64 (JoinTree.Leaf a), .nilsl])]⟩ ?_
 refine AW.seq (AW.r1 hC1 [0, 1002, 1003] [8, 12] ⟨[(0, .data (.slice (.named 3)) ((JoinTree.Kids a) : List JoinTree)), (1002, .ref 8 1 0), (1003, .ref 12 1 0)], [(8, .box 1 [.int .i64 0, .nilsl]), (12, .box 1 [.int .i64 (JoinTree.Leaf a), .nilsl])]⟩ ?_)
 refine AW.seq (AW.r0 hC1 [0, 3, 1002, 1003] [8, 12, 4028] ⟨[(0, .data (.slice (.named 3)) ((JoinTree.Kids a) : List JoinTree)), (3, .arr 4028 1), (1002, .ref 8 1 0), (1003, .ref 12 1 0)], [(8, .box 1 [.int .i64 0, .nilsl]), (12, .box 1 [.int .i64 (JoinTree.Leaf a), .nilsl]), (4028, .arr 1 (.named 3) ((List.replicate (List.length (JoinTree.Kids a)) JoinTree.zero : List JoinTree) : List JoinTree))]⟩ [(0 ≤ ((List.length (JoinTree.Kids a) : Nat) : Int) ∧ ((List.length (JoinTree.Kids a) : Nat) : Int) ≤ ((List.length (JoinTree.Kids a) : Nat) : Int) ∧ ((List.length (JoinTree.Kids a) : Nat) : Int) ≤ 4294967296)] ?_ ?_)
 ·
  refine ⟨?_, trivial⟩
  ·
   have := hpre.1.kids.1
   omega
 refine AW.seq (AW.seq (AW.r1 hC1 [0, 3, 4, 1002, 1003] [8, 12, 4028] ⟨[(0, .data (.slice (.named 3)) ((JoinTree.Kids a) : List JoinTree)), (3, .arr 4028 1), (4, .int .i64 0), (1002, .ref 8 1 0), (1003, .ref 12 1 0)], [(8, .box 1 [.int .i64 0, .nilsl]), (12, .box 1 [.int .i64 (JoinTree.Leaf a), .nilsl]), (4028, .arr 1 (.named 3) ((List.replicate (List.length (JoinTree.Kids a)) JoinTree.zero : List JoinTree) : List JoinTree))]⟩ ?_))
 refine AW.cutQ (α := (List JoinTree)) (fun x => ⟨[(3, .arr 4028 1), (1002, .ref 8 1 0), (1003, .ref 12 1 0)], [(8, .box 1 [.int .i64 0, .nilsl]), (12, .box 1 [.int .i64 (JoinTree.Leaf a), .nilsl]), (4028, .arr 1 (.named 3) (x : List JoinTree))]⟩) (fun x => (List.length x = List.length (JoinTree.Kids a)) ∧ (toJoinTree_l0 (toJoinTree_r fuel) a ((List.length (JoinTree.Kids a)) - 0 + 1) 0 (List.replicate (List.length (JoinTree.Kids a)) JoinTree.zero : List JoinTree)) = x) ?_ ?_
 ·
  skip
  refine AW.block (AW.loop (α := Nat × (List JoinTree)) (fun x => ⟨[(0, .data (.slice (.named 3)) ((JoinTree.Kids a) : List JoinTree)), (3, .arr 4028 1), (4, .int .i64 ((x.1 : Nat) : Int)), (1002, .ref 8 1 0), (1003, .ref 12 1 0)], [(8, .box 1 [.int .i64 0, .nilsl]), (12, .box 1 [.int .i64 (JoinTree.Leaf a), .nilsl]), (4028, .arr 1 (.named 3) (x.2 : List JoinTree))]⟩) (fun x => (List.length x.2 = List.length (JoinTree.Kids a)) ∧ ∃ k, (List.length (JoinTree.Kids a)) - x.1 < k ∧ (toJoinTree_l0 (toJoinTree_r fuel) a ((List.length (JoinTree.Kids a)) - 0 + 1) 0 (List.replicate (List.length (JoinTree.Kids a)) JoinTree.zero : List JoinTree)) = toJoinTree_l0 (toJoinTree_r fuel) a k x.1 x.2) (fun x => (List.length (JoinTree.Kids a)) - x.1) (0, (List.replicate (List.length (JoinTree.Kids a)) JoinTree.zero : List JoinTree)) (by kernel_rfl) ⟨?_, _, Nat.lt_succ_self _, rfl⟩ ?_)
  ·
   show List.length (List.replicate (List.length (JoinTree.Kids a)) JoinTree.zero : List JoinTree) = List.length (JoinTree.Kids a)
   simp
  ·
   intro x hR
   obtain ⟨i, out⟩ := x
   obtain ⟨hI0, k36, hk34, e35⟩ := hR
   replace hI0 : List.length out = List.length (JoinTree.Kids a) := hI0
   replace hk34 : (List.length (JoinTree.Kids a)) - i < k36 := hk34
   obtain ⟨k36q, rfl⟩ : ∃ k, k36 = k + 1 := ⟨k36 - 1, by omega⟩
   have hF := hpre.1.kids
   refine AW.seq (AW.seq (AW.r1 hC1 [0, 3, 4, 11, 1002, 1003] [8, 12, 4028] ⟨[(0, .data (.slice (.named 3)) ((JoinTree.Kids a) : List JoinTree)), (3, .arr 4028 1), (4, .int .i64 ((i : Nat) : Int)), (11, .bool (decide (((i : Nat) : Int) < ((List.length (JoinTree.Kids a) : Nat) : Int)))), (1002, .ref 8 1 0), (1003, .ref 12 1 0)], [(8, .box 1 [.int .i64 0, .nilsl]), (12, .box 1 [.int .i64 (JoinTree.Leaf a), .nilsl]), (4028, .arr 1 (.named 3) (out : List JoinTree))]⟩ ?_))
   refine AW.cd (decide (((i : Nat) : Int) < ((List.length (JoinTree.Kids a) : Nat) : Int))) ?_ ?_
   ·
    intro h37
    have h37q : ((i : Nat) : Int) < ((List.length (JoinTree.Kids a) : Nat) : Int) := (of_decide_eq_true h37)
    have e38 := e35.trans (Go.Am.bif_t h37)
    refine AW.kp [0, 3, 4, 1002, 1003] [8, 12, 4028] ⟨[(0, .data (.slice (.named 3)) ((JoinTree.Kids a) : List JoinTree)), (3, .arr 4028 1), (4, .int .i64 ((i : Nat) : Int)), (1002, .ref 8 1 0), (1003, .ref 12 1 0)], [(8, .box 1 [.int .i64 0, .nilsl]), (12, .box 1 [.int .i64 (JoinTree.Leaf a), .nilsl]), (4028, .arr 1 (.named 3) (out : List JoinTree))]⟩ ?_
    refine AW.skip (AW.seq (AW.block (AW.r0 hC1 [0, 3, 4, 1002, 1003] [8, 12, 4028] ⟨[(0, .data (.slice (.named 3)) ((JoinTree.Kids a) : List JoinTree)), (3, .arr 4028 1), (4, .int .i64 ((i : Nat) : Int)), (1002, .ref 8 1 0), (1003, .ref 12 1 0)], [(8, .box 1 [.int .i64 0, .nilsl]), (12, .box 1 [.int .i64 (JoinTree.Leaf a), .nilsl]), (4028, .arr 1 (.named 3) ((List.set out i ((toJoinTree_r fuel) (List.getD (JoinTree.Kids a) i JoinTree.zero))) : List JoinTree))]⟩ [(0 ≤ ((i : Nat) : Int) ∧ ((i : Nat) : Int) < ((List.length (JoinTree.Kids a) : Nat) : Int)), ((Fits (List.getD (JoinTree.Kids a) i JoinTree.zero)) ∧ SizeOf.sizeOf (List.getD (JoinTree.Kids a) i JoinTree.zero) < fuel), (0 ≤ ((i : Nat) : Int) ∧ ((i : Nat) : Int) < ((List.length out : Nat) : Int))] ?_ ?_)))
    ·
     refine ⟨?_, ?_, ?_, trivial⟩
     ·
      omega
     ·
      exact ⟨hpre.1.kids.2 _ (by omega), Nat.lt_of_lt_of_le (kid_lt (by omega)) (Nat.le_of_lt_succ hpre.2)⟩
     ·
      omega
    refine AW.r0 hC1 [0, 3, 4, 1002, 1003] [8, 12, 4028] ⟨[(0, .data (.slice (.named 3)) ((JoinTree.Kids a) : List JoinTree)), (3, .arr 4028 1), (4, .int .i64 ((i + 1 : Nat) : Int)), (1002, .ref 8 1 0), (1003, .ref 12 1 0)], [(8, .box 1 [.int .i64 0, .nilsl]), (12, .box 1 [.int .i64 (JoinTree.Leaf a), .nilsl]), (4028, .arr 1 (.named 3) ((List.set out i ((toJoinTree_r fuel) (List.getD (JoinTree.Kids a) i JoinTree.zero))) : List JoinTree))]⟩ [(-9223372036854775808 ≤ ((i + 1 : Nat) : Int) ∧ ((i + 1 : Nat) : Int) ≤ 9223372036854775807)] ?_ ?_
    ·
     refine ⟨?_, trivial⟩
     ·
      omega
    refine AW.back (x := (i, out)) (i + 1, (List.set out i ((toJoinTree_r fuel) (List.getD (JoinTree.Kids a) i JoinTree.zero)))) (by kernel_rfl) ⟨?_, k36q, ?_, e38⟩ ?_
    ·
     show List.length (List.set out i ((toJoinTree_r fuel) (List.getD (JoinTree.Kids a) i JoinTree.zero))) = List.length (JoinTree.Kids a)
     simp only [lens] at *; omega
    ·
     show (List.length (JoinTree.Kids a)) - (i + 1) < k36q
     omega
    ·
     show (List.length (JoinTree.Kids a)) - (i + 1) < (List.length (JoinTree.Kids a)) - i
     omega
   ·
    intro h39
    have h39q : ¬ (((i : Nat) : Int) < ((List.length (JoinTree.Kids a) : Nat) : Int)) := (of_decide_eq_false h39)
    have e40 := e35.trans (Go.Am.bif_f h39)
    refine AW.kp [3, 1002, 1003] [8, 12, 4028] ⟨[(3, .arr 4028 1), (1002, .ref 8 1 0), (1003, .ref 12 1 0)], [(8, .box 1 [.int .i64 0, .nilsl]), (12, .box 1 [.int .i64 (JoinTree.Leaf a), .nilsl]), (4028, .arr 1 (.named 3) (out : List JoinTree))]⟩ ?_
    refine AW.exit ?_
    refine AW.meet out (by kernel_rfl) ⟨?_, e40⟩
    show List.length out = List.length (JoinTree.Kids a)
    assumption
 ·
  intro out hR
  obtain ⟨hJ0, e41⟩ := hR
  replace hJ0 : List.length out = List.length (JoinTree.Kids a) := hJ0
  have e42 := e0.trans (Go.Am.then_eq e41)
  refine AW.seq (AW.r1 hC1 [2, 1002, 1003] [8, 12, 4028] ⟨[(2, .arr 4028 1), (1002, .ref 8 1 0), (1003, .ref 12 1 0)], [(8, .box 1 [.int .i64 0, .nilsl]), (12, .box 1 [.int .i64 (JoinTree.Leaf a), .nilsl]), (4028, .arr 1 (.named 3) (out : List JoinTree))]⟩ ?_)
  refine AW.ret ?_
  refine ⟨[.arr 4028 1], by kernel_rfl, ?_⟩
  refine AWO.keep [2, 3, 9] [8, 12, 4028] ⟨[(2, .ref 8 1 0), (3, .ref 12 1 0), (9, .arr 4028 1)], [(8, .box 1 [.int .i64 0, .nilsl]), (12, .box 1 [.int .i64 (JoinTree.Leaf a), .nilsl]), (4028, .arr 1 (.named 3) (out : List JoinTree))]⟩ (by kernel_rfl) ?_
  refine AWO.run hC false [] [3, 4] [] [2, 3] [8, 12, 4028]
   ⟨[(2, .ref 8 1 0), (3, .ref 12 1 0)], [(8, .box 1 [.int .i64 0, .nilsl]), (12, .box 1 [.int .i64 (JoinTree.Leaf a), .arr 4028 1]), (4028, .arr 1 (.named 3) (out : List JoinTree))]⟩
   [] (by rfl) (by kernel_rfl) ?_ ?_
  ·
   exact trivial
  refine AWO.nil ?_
  refine AW.seq (AW.r1 hC [2] [8, 4028] ⟨[(2, .ref 8 1 0)], [(8, .box 1 [.int .i64 (JoinTree.Leaf a), .arr 4028 1]), (4028, .arr 1 (.named 3) (out : List JoinTree))]⟩ ?_)
  exact AW.ret (AW.retE (β := JoinTree) (fun v => [⟨(.named 3), v⟩]) (fun v => []) (v := (JoinTree.mk (JoinTree.Leaf a) out)) e42 (by kernel_rfl) rfl rfl)

theorem toJoinTree_fu : AllTV (toJoinTree_sp.ps.map PK.ty) (fun tvs => toJoinTree_sp.pre tvs → ∃ k, (toJoinTree_spn k).pre tvs ∧ (toJoinTree_spn k).fn tvs = toJoinTree_sp.fn tvs ∧ (toJoinTree_spn k).bx tvs = toJoinTree_sp.bx tvs) :=
 (fun (a : JoinTree) h => ⟨SizeOf.sizeOf a + 1, (show (Fits a) ∧ SizeOf.sizeOf a < SizeOf.sizeOf a + 1 from ⟨h, Nat.lt_succ_self _⟩), (show (toJoinTree_spn (SizeOf.sizeOf a + 1)).fn [⟨(.named 3), (a : JoinTree)⟩] = ([⟨(.named 3), (toJoinTree_r (SizeOf.sizeOf a + 1) a)⟩] : List TV) from by kernel_rfl).trans (show ([⟨(.named 3), (toJoinTree_r (SizeOf.sizeOf a + 1) a)⟩] : List TV) = toJoinTree_sp.fn [⟨(.named 3), (a : JoinTree)⟩] from by kernel_rfl), by kernel_rfl⟩)

theorem toJoinTree_ok : FnOK Try.prog 47 toJoinTree_sp := FnOK.of_fuel toJoinTree_okn (fun _ => rfl) (fun _ => rfl) (AllTV.get toJoinTree_fu)

def eqJoinTree_l0 (self : JoinTree → JoinTree → Bool) (a : JoinTree) (b : JoinTree) : Nat → Nat → Unit ⊕ Bool
 | 0, i => .inl ()
 | k + 1, i => (bif (decide (((i : Nat) : Int) < ((List.length (JoinTree.Kids a) : Nat) : Int))) then (bif (!(self (List.getD (JoinTree.Kids a) i JoinTree.zero) (List.getD (JoinTree.Kids b) i JoinTree.zero))) then (.inr false) else (eqJoinTree_l0 self a b k (i + 1))) else (.inl ()))

def eqJoinTree_c0 (self : JoinTree → JoinTree → Bool) (a : JoinTree) (b : JoinTree) : Bool :=
 (bif (((List.length (JoinTree.Kids a) : Nat) : Int) != ((List.length (JoinTree.Kids b) : Nat) : Int)) then false else (Sum.elim (fun _ => true) (fun r => r) (eqJoinTree_l0 self a b ((List.length (JoinTree.Kids a)) - 0 + 1) 0)))

def eqJoinTree_r : Nat → JoinTree → JoinTree → Bool
 | 0, a, b => false
 | fuel + 1, a, b => (bif ((JoinTree.Leaf a) != (JoinTree.Leaf b)) then false else (Go.Am.andThen (eqJoinTree_c0 (eqJoinTree_r fuel) a b) (fun z => (fun (v14 : Bool) => (bif (!v14) then false else true)) z)))

def eqJoinTree (a : JoinTree) (b : JoinTree) : Bool := eqJoinTree_r (SizeOf.sizeOf a + 1) a b

def eqJoinTree_spn (fuel : Nat) : FnSpec := mkSpec [.val (.named 3), .val (.named 3)] [.val .bool] (fun (a : JoinTree) (b : JoinTree) => (True) ∧ SizeOf.sizeOf a < fuel) (fun (a : JoinTree) (b : JoinTree) => [⟨.bool, (eqJoinTree_r fuel a b)⟩])

def eqJoinTree_sp : FnSpec := mkSpec [.val (.named 3), .val (.named 3)] [.val .bool] (fun (a : JoinTree) (b : JoinTree) => True) (fun (a : JoinTree) (b : JoinTree) => [⟨.bool, (eqJoinTree a b)⟩])

theorem eqJoinTree_okn (fuel : Nat) : FnOK Try.prog 48 (eqJoinTree_spn fuel) := by
 induction fuel with
 | zero => exact FnOK.never Try.func48 (by kernel_rfl) rfl (fun _ _ h => absurd h.2 (Nat.not_lt_zero _))
 | succ fuel ih => ?_
 have hC : CtxOK Try.prog (mkCtx tyL [(48, (eqJoinTree_spn fuel))]) := CtxOK.cons ih (CtxOK.nil tyOK)
 have hM : Try.prog.follows .mixedOrders = true := Try.checked.mixed
 have hC1 := hC.rebase 1000
 refine FnOK.of_body Try.func48 (by kernel_rfl) rfl (C := (mkCtx tyL [(48, (eqJoinTree_spn fuel))])) hC.ty (by kernel_rfl) ?_
 intro (a : JoinTree) (b : JoinTree) hwf hpre E
 have hpre : (True) ∧ SizeOf.sizeOf a < fuel + 1 := hpre
 have hw_a : Wf ⟨(.named 3), (a : JoinTree)⟩ := hwf _ (List.Mem.head _)
 have hr_a_Leaf : -9223372036854775808 ≤ JoinTree.Leaf a ∧ JoinTree.Leaf a ≤ 9223372036854775807 := (hw_a.field (tv := ⟨(.int .i64), JoinTree.Leaf a⟩) (List.Mem.head _)).int_inv
 have hl_a_Kids : ((List.length (JoinTree.Kids a) : Nat) : Int) ≤ 9223372036854775807 := (hw_a.field (tv := ⟨(.slice (.named 3)), JoinTree.Kids a⟩) (List.Mem.tail _ (List.Mem.head _))).len
 have hw_b : Wf ⟨(.named 3), (b : JoinTree)⟩ := hwf _ (List.Mem.tail _ (List.Mem.head _))
 have hr_b_Leaf : -9223372036854775808 ≤ JoinTree.Leaf b ∧ JoinTree.Leaf b ≤ 9223372036854775807 := (hw_b.field (tv := ⟨(.int .i64), JoinTree.Leaf b⟩) (List.Mem.head _)).int_inv
 have hl_b_Kids : ((List.length (JoinTree.Kids b) : Nat) : Int) ≤ 9223372036854775807 := (hw_b.field (tv := ⟨(.slice (.named 3)), JoinTree.Kids b⟩) (List.Mem.tail _ (List.Mem.head _))).len
 have e0 : eqJoinTree_r (fuel + 1) a b = eqJoinTree_r (fuel + 1) a b := rfl
 refine AW.seq (AW.r1 hC [2, 3] [8, 12] ⟨[(2, .ref 8 1 0), (3, .ref 12 1 0)], [(8, .box 1 [.int .i64 (JoinTree.Leaf a), .data (.slice (.named 3)) ((JoinTree.Kids a) : List JoinTree)]), (12, .box 1 [.int .i64 (JoinTree.Leaf b), .data (.slice (.named 3)) ((JoinTree.Kids b) : List JoinTree)])]⟩ ?_)
 refine AW.seq (AW.seq (AW.r1 hC [2, 3, 9] [8, 12] ⟨[(2, .ref 8 1 0), (3, .ref 12 1 0), (9, .bool ((JoinTree.Leaf a) != (JoinTree.Leaf b)))], [(8, .box 1 [.int .i64 (JoinTree.Leaf a), .data (.slice (.named 3)) ((JoinTree.Kids a) : List JoinTree)]), (12, .box 1 [.int .i64 (JoinTree.Leaf b), .data (.slice (.named 3)) ((JoinTree.Kids b) : List JoinTree)])]⟩ ?_))
 refine AW.cd ((JoinTree.Leaf a) != (JoinTree.Leaf b)) ?_ ?_
 ·
  intro h1
  have h1q : (JoinTree.Leaf a) ≠ (JoinTree.Leaf b) := (Go.Am.bne_pos h1)
  have e2 := e0.trans (Go.Am.bif_t h1)
  refine AW.seq (AW.r1 hC [4] [] ⟨[(4, .bool false)], []⟩ ?_)
  exact AW.ret (AW.retE (β := Bool) (fun v => [⟨.bool, v⟩]) (fun v => []) (v := false) e2 (by kernel_rfl) rfl rfl)
 ·
  intro h3
  have h3q : (JoinTree.Leaf a) = (JoinTree.Leaf b) := (Go.Am.bne_neg h3)
  have e4 := e0.trans (Go.Am.bif_f h3)
  refine AW.kp [2, 3] [8, 12] ⟨[(2, .ref 8 1 0), (3, .ref 12 1 0)], [(8, .box 1 [.int .i64 (JoinTree.Leaf a), .data (.slice (.named 3)) ((JoinTree.Kids a) : List JoinTree)]), (12, .box 1 [.int .i64 (JoinTree.Leaf b), .data (.slice (.named 3)) ((JoinTree.Kids b) : List JoinTree)])]⟩ ?_
  refine AW.skip (AW.seq (AW.seq (AW.regionO [0, 1, 2, 3, 4, 5] (by rfl) ?_)))
  refine AWO.run hC false [] [0, 1, 2, 3] [4, 5] [11, 13] []
   ⟨[(11, .data (.slice (.named 3)) ((JoinTree.Kids a) : List JoinTree)), (13, .data (.slice (.named 3)) ((JoinTree.Kids b) : List JoinTree))], []⟩
   [] (by rfl) (by kernel_rfl) ?_ ?_
  ·
   exact trivial
  refine AWO.callJ hC.ty [14] [] (α := Bool) (fun x => ⟨[(14, .bool x)], []⟩) (fun x => (True) ∧ (eqJoinTree_c0 (eqJoinTree_r fuel) a b) = x) (vs := [.data (.slice (.named 3)) ((JoinTree.Kids a) : List JoinTree), .data (.slice (.named 3)) ((JoinTree.Kids b) : List JoinTree)]) (caps := []) (by rfl) rfl (.inl rfl) (by decide) (by kernel_rfl) (by kernel_rfl) Try.func79 (by kernel_rfl) rfl (by kernel_rfl) ?_ ?_
  ·
   intro o1
   have e91 : (eqJoinTree_c0 (eqJoinTree_r fuel) a b) = (eqJoinTree_c0 (eqJoinTree_r fuel) a b) := rfl
   refine AW.kp [0, 1] [] ⟨[(0, .data (.slice (.named 3)) ((JoinTree.Kids a) : List JoinTree)), (1, .data (.slice (.named 3)) ((JoinTree.Kids b) : List JoinTree))], []⟩ ?_
   refine AW.seq (AW.r1 hC1 [0, 1] [] ⟨[(0, .data (.slice (.named 3)) ((JoinTree.Kids a) : List JoinTree)), (1, .data (.slice (.named 3)) ((JoinTree.Kids b) : List JoinTree))], []⟩ ?_)
   refine AW.seq (AW.seq (AW.r1 hC1 [0, 1, 10] [] ⟨[(0, .data (.slice (.named 3)) ((JoinTree.Kids a) : List JoinTree)), (1, .data (.slice (.named 3)) ((JoinTree.Kids b) : List JoinTree)), (10, .bool (((List.length (JoinTree.Kids a) : Nat) : Int) != ((List.length (JoinTree.Kids b) : Nat) : Int)))], []⟩ ?_))
   refine AW.cd (((List.length (JoinTree.Kids a) : Nat) : Int) != ((List.length (JoinTree.Kids b) : Nat) : Int)) ?_ ?_
   ·
    intro h92
    have h92q : ((List.length (JoinTree.Kids a) : Nat) : Int) ≠ ((List.length (JoinTree.Kids b) : Nat) : Int) := (Go.Am.bne_pos h92)
    have e93 := e91.trans (Go.Am.bif_t h92)
    refine AW.seq (AW.r1 hC1 [4] [] ⟨[(4, .bool false)], []⟩ ?_)
    refine AW.ret ?_
    refine ⟨false, [.bool false], by kernel_rfl, by kernel_rfl, ?_, e93⟩
    show True
    exact trivial
   ·
    intro h94
    have h94q : ((List.length (JoinTree.Kids a) : Nat) : Int) = ((List.length (JoinTree.Kids b) : Nat) : Int) := (Go.Am.bne_neg h94)
    have e95 := e91.trans (Go.Am.bif_f h94)
    refine AW.kp [0, 1] [] ⟨[(0, .data (.slice (.named 3)) ((JoinTree.Kids a) : List JoinTree)), (1, .data (.slice (.named 3)) ((JoinTree.Kids b) : List JoinTree))], []⟩ ?_
    refine AW.skip (AW.seq (AW.seq (AW.r1 hC1 [0, 1, 5] [] ⟨[(0, .data (.slice (.named 3)) ((JoinTree.Kids a) : List JoinTree)), (1, .data (.slice (.named 3)) ((JoinTree.Kids b) : List JoinTree)), (5, .int .i64 0)], []⟩ ?_)))
    refine AW.cutQ (α := Unit) (fun x => ⟨[], []⟩) (fun x => (True) ∧ (eqJoinTree_l0 (eqJoinTree_r fuel) a b ((List.length (JoinTree.Kids a)) - 0 + 1) 0) = (.inl ())) ?_ ?_
    ·
     skip
     refine AW.block (AW.loop (α := Nat) (fun x => ⟨[(0, .data (.slice (.named 3)) ((JoinTree.Kids a) : List JoinTree)), (1, .data (.slice (.named 3)) ((JoinTree.Kids b) : List JoinTree)), (5, .int .i64 ((x : Nat) : Int))], []⟩) (fun x => (True) ∧ ∃ k, (List.length (JoinTree.Kids a)) - x < k ∧ (eqJoinTree_l0 (eqJoinTree_r fuel) a b ((List.length (JoinTree.Kids a)) - 0 + 1) 0) = eqJoinTree_l0 (eqJoinTree_r fuel) a b k x) (fun x => (List.length (JoinTree.Kids a)) - x) 0 (by kernel_rfl) ⟨?_, _, Nat.lt_succ_self _, rfl⟩ ?_)
     ·
      show True
      exact trivial
     ·
      intro i hR
      obtain ⟨hI0, k125, hk123, e124⟩ := hR
      replace hI0 : True := hI0
      replace hk123 : (List.length (JoinTree.Kids a)) - i < k125 := hk123
      obtain ⟨k125q, rfl⟩ : ∃ k, k125 = k + 1 := ⟨k125 - 1, by omega⟩
      refine AW.seq (AW.seq (AW.r1 hC1 [0, 1, 5, 14] [] ⟨[(0, .data (.slice (.named 3)) ((JoinTree.Kids a) : List JoinTree)), (1, .data (.slice (.named 3)) ((JoinTree.Kids b) : List JoinTree)), (5, .int .i64 ((i : Nat) : Int)), (14, .bool (decide (((i : Nat) : Int) < ((List.length (JoinTree.Kids a) : Nat) : Int))))], []⟩ ?_))
      refine AW.cd (decide (((i : Nat) : Int) < ((List.length (JoinTree.Kids a) : Nat) : Int))) ?_ ?_
      ·
       intro h126
       have h126q : ((i : Nat) : Int) < ((List.length (JoinTree.Kids a) : Nat) : Int) := (of_decide_eq_true h126)
       have e127 := e124.trans (Go.Am.bif_t h126)
       refine AW.kp [0, 1, 5] [] ⟨[(0, .data (.slice (.named 3)) ((JoinTree.Kids a) : List JoinTree)), (1, .data (.slice (.named 3)) ((JoinTree.Kids b) : List JoinTree)), (5, .int .i64 ((i : Nat) : Int))], []⟩ ?_
       refine AW.skip (AW.seq (AW.block (AW.seq (AW.d0 hC1 hM [0, 1, 5, 26] [] ⟨[(0, .data (.slice (.named 3)) ((JoinTree.Kids a) : List JoinTree)), (1, .data (.slice (.named 3)) ((JoinTree.Kids b) : List JoinTree)), (5, .int .i64 ((i : Nat) : Int)), (26, .bool (!((eqJoinTree_r fuel) (List.getD (JoinTree.Kids a) i JoinTree.zero) (List.getD (JoinTree.Kids b) i JoinTree.zero))))], []⟩ [(0 ≤ ((i : Nat) : Int) ∧ ((i : Nat) : Int) < ((List.length (JoinTree.Kids a) : Nat) : Int)), (0 ≤ ((i : Nat) : Int) ∧ ((i : Nat) : Int) < ((List.length (JoinTree.Kids b) : Nat) : Int)), ((True) ∧ SizeOf.sizeOf (List.getD (JoinTree.Kids a) i JoinTree.zero) < fuel)] ?_ ?_))))
       ·
        refine ⟨?_, ?_, ?_, trivial⟩
        ·
         omega
        ·
         omega
        ·
         exact ⟨trivial, Nat.lt_of_lt_of_le (kid_lt (by omega)) (Nat.le_of_lt_succ hpre.2)⟩
       refine AW.cd (!((eqJoinTree_r fuel) (List.getD (JoinTree.Kids a) i JoinTree.zero) (List.getD (JoinTree.Kids b) i JoinTree.zero))) ?_ ?_
       ·
        intro h128
        have h128q : ((eqJoinTree_r fuel) (List.getD (JoinTree.Kids a) i JoinTree.zero) (List.getD (JoinTree.Kids b) i JoinTree.zero)) = false := (Go.Am.not_pos h128)
        have e129 := e127.trans (Go.Am.bif_t h128)
        refine AW.seq (AW.r1 hC1 [4] [] ⟨[(4, .bool false)], []⟩ ?_)
        refine AW.ret ?_
        have e130 := e95.trans (Go.Am.elim_r e129)
        refine ⟨false, [.bool false], by kernel_rfl, by kernel_rfl, ?_, e130⟩
        show True
        exact trivial
       ·
        intro h131
        have h131q : ((eqJoinTree_r fuel) (List.getD (JoinTree.Kids a) i JoinTree.zero) (List.getD (JoinTree.Kids b) i JoinTree.zero)) = true := (Go.Am.not_neg h131)
        have e132 := e127.trans (Go.Am.bif_f h131)
        refine AW.kp [0, 1, 5] [] ⟨[(0, .data (.slice (.named 3)) ((JoinTree.Kids a) : List JoinTree)), (1, .data (.slice (.named 3)) ((JoinTree.Kids b) : List JoinTree)), (5, .int .i64 ((i : Nat) : Int))], []⟩ ?_
        refine AW.skip (AW.r0 hC1 [0, 1, 5] [] ⟨[(0, .data (.slice (.named 3)) ((JoinTree.Kids a) : List JoinTree)), (1, .data (.slice (.named 3)) ((JoinTree.Kids b) : List JoinTree)), (5, .int .i64 ((i + 1 : Nat) : Int))], []⟩ [(-9223372036854775808 ≤ ((i + 1 : Nat) : Int) ∧ ((i + 1 : Nat) : Int) ≤ 9223372036854775807)] ?_ ?_)
        ·
         refine ⟨?_, trivial⟩
         ·
          omega
        refine AW.back (x := i) (i + 1) (by kernel_rfl) ⟨?_, k125q, ?_, e132⟩ ?_
        ·
         show True
         assumption
        ·
         show (List.length (JoinTree.Kids a)) - (i + 1) < k125q
         omega
        ·
         show (List.length (JoinTree.Kids a)) - (i + 1) < (List.length (JoinTree.Kids a)) - i
         omega
      ·
       intro h133
       have h133q : ¬ (((i : Nat) : Int) < ((List.length (JoinTree.Kids a) : Nat) : Int)) := (of_decide_eq_false h133)
       have e134 := e124.trans (Go.Am.bif_f h133)
       refine AW.kp [] [] ⟨[], []⟩ ?_
       refine AW.exit ?_
       refine AW.meet () (by kernel_rfl) ⟨?_, e134⟩
       show True
       assumption
    ·
     intro x hR
     obtain ⟨hJ0, e135⟩ := hR
     replace hJ0 : True := hJ0
     have e136 := e95.trans (Go.Am.elim_l e135)
     refine AW.seq (AW.r1 hC1 [4] [] ⟨[(4, .bool true)], []⟩ ?_)
     refine AW.ret ?_
     refine ⟨true, [.bool true], by kernel_rfl, by kernel_rfl, ?_, e136⟩
     show True
     exact trivial
  ·
   intro v14 hR
   obtain ⟨hK0, e137⟩ := hR
   replace hK0 : True := hK0
   have e138 := e4.trans (Go.Am.then_eq e137)
   refine AWO.run hC false [] [5] [] [15] []
    ⟨[(15, .bool (!v14))], []⟩
    [] (by rfl) (by kernel_rfl) ?_ ?_
   ·
    exact trivial
   refine AWO.nil ?_
   refine AW.cd (!v14) ?_ ?_
   ·
    intro h139
    have h139q : v14 = false := (Go.Am.not_pos h139)
    have e140 := e138.trans (Go.Am.bif_t h139)
    refine AW.seq (AW.r1 hC [4] [] ⟨[(4, .bool false)], []⟩ ?_)
    exact AW.ret (AW.retE (β := Bool) (fun v => [⟨.bool, v⟩]) (fun v => []) (v := false) e140 (by kernel_rfl) rfl rfl)
   ·
    intro h141
    have h141q : v14 = true := (Go.Am.not_neg h141)
    have e142 := e138.trans (Go.Am.bif_f h141)
    refine AW.kp [] [] ⟨[], []⟩ ?_
    refine AW.skip (AW.seq (AW.r1 hC [4] [] ⟨[(4, .bool true)], []⟩ ?_))
    exact AW.ret (AW.retE (β := Bool) (fun v => [⟨.bool, v⟩]) (fun v => []) (v := true) e142 (by kernel_rfl) rfl rfl)

theorem eqJoinTree_fu : AllTV (eqJoinTree_sp.ps.map PK.ty) (fun tvs => eqJoinTree_sp.pre tvs → ∃ k, (eqJoinTree_spn k).pre tvs ∧ (eqJoinTree_spn k).fn tvs = eqJoinTree_sp.fn tvs ∧ (eqJoinTree_spn k).bx tvs = eqJoinTree_sp.bx tvs) :=
 (fun (a : JoinTree) (b : JoinTree) h => ⟨SizeOf.sizeOf a + 1, (show (True) ∧ SizeOf.sizeOf a < SizeOf.sizeOf a + 1 from ⟨h, Nat.lt_succ_self _⟩), (show (eqJoinTree_spn (SizeOf.sizeOf a + 1)).fn [⟨(.named 3), (a : JoinTree)⟩, ⟨(.named 3), (b : JoinTree)⟩] = ([⟨.bool, (eqJoinTree_r (SizeOf.sizeOf a + 1) a b)⟩] : List TV) from by kernel_rfl).trans (show ([⟨.bool, (eqJoinTree_r (SizeOf.sizeOf a + 1) a b)⟩] : List TV) = eqJoinTree_sp.fn [⟨(.named 3), (a : JoinTree)⟩, ⟨(.named 3), (b : JoinTree)⟩] from by kernel_rfl), by kernel_rfl⟩)

theorem eqJoinTree_ok : FnOK Try.prog 48 eqJoinTree_sp := FnOK.of_fuel eqJoinTree_okn (fun _ => rfl) (fun _ => rfl) (AllTV.get eqJoinTree_fu)

end
end Go.Proofs.Ytpoohhjlpepmfaa
