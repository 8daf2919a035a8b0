/-
  A part of the proof of this claim (Ax5): what functions of the program compute, and plain facts of that. No conditions.
-/
import Derived.Test.YtgbapklfgjnggaaAx3
import Derived.Test.YtgbapklfgjnggaaAnB
import Derived.Test.YtgbapklfgjnggaaAnL
set_option linter.all false
namespace Go.Proofs.Ytgbapklfgjnggaa
open Go Go.Am
open List (getD)

theorem has_bit {m : Int} {i : Nat} (hm : 0 ≤ m) (hm' : m < 4611686018427387904) (hi : i ≤ 61) : (bits .and .i64 m ((1 : Int) * 2 ^ i) != 0) = has m (i : Int) := by
 unfold has; exact bit_ne hm hm' hi

theorem size_l0_eq {g : Graph} {m : Int} (hV : VG g) (hm : 0 ≤ m) (hm' : m < 4611686018427387904) : ∀ (k : Nat) (n : Int) (i : Nat), gSize_l0 g m k n i = subsetSize_l0 g m k n i := by
 intro k
 induction k with
 | zero => intro n i; rfl
 | succ k ih =>
  intro n i; unfold gSize_l0 subsetSize_l0; by_cases hi : i < g.Rows.length
  · have := hV.n5; rw [lt_dec hi, cond_true, cond_true, has_bit hm hm' (by omega), ih, ih]
  · rw [ge_dec hi]; rfl

theorem size_l1_eq {g : Graph} {m : Int} (hV : VG g) (hm : 0 ≤ m) (hm' : m < 4611686018427387904) : ∀ (k : Nat) (n : Int) (i : Nat), gSize_l1 g m k n i = subsetSize_l1 g m k n i := by
 intro k
 induction k with
 | zero => intro n i; rfl
 | succ k ih =>
  intro n i; unfold gSize_l1 subsetSize_l1; by_cases hi : i < g.Edges.length
  · have h5 := hV.n5; have he := hV.edges _ (getD_mem g.Edges i Edge.zero hi); have ha := has_bit (m := m) (i := Int.toNat (Edge.A (getD (Graph.Edges g) i Edge.zero))) hm hm' (by omega); have hb := has_bit (m := m) (i := Int.toNat (Edge.B (getD (Graph.Edges g) i Edge.zero))) hm hm' (by omega); rw [Int.toNat_of_nonneg (by omega)] at ha hb; rw [lt_dec hi, cond_true, cond_true, ha, hb, ih, ih]
  · rw [ge_dec hi]; rfl

theorem size_eq {g : Graph} {m : Int} (hV : VG g) (hm : 0 ≤ m) (hm' : m < 4611686018427387904) : gSize g m = subsetSize g m := by
 unfold gSize subsetSize; simp only [andThen, size_l0_eq hV hm hm', size_l1_eq hV hm hm']

theorem eqIntS_self (a : List Int) : eqIntS a a = true := by
 unfold eqIntS; simp only [bne_self_eq_false, cond_false]; rcases all_loop (eqIntS_l0 a a) a.length (fun i => (getD a i 0) != (getD a i 0)) (fun k i => rfl) (a.length - 0 + 1) 0 (by omega) with ⟨h1, _⟩ | ⟨_, j, _, _, h⟩
 · rw [h1]; rfl
 · simp at h

theorem eqEdge_self (a : Edge) : eqEdge a a = true := by simp [eqEdge]

theorem eqEdgeS_self (a : List Edge) : eqEdgeS a a = true := by
 unfold eqEdgeS; simp only [bne_self_eq_false, cond_false]; rcases all_loop (eqEdgeS_l0 a a) a.length (fun i => !(eqEdge (getD a i Edge.zero) (getD a i Edge.zero))) (fun k i => rfl) (a.length - 0 + 1) 0 (by omega) with ⟨h1, _⟩ | ⟨_, j, _, _, h⟩
 · rw [h1]; rfl
 · rw [eqEdge_self] at h; cases h

theorem eqGraph_self (a : Graph) : eqGraph a a = true := by
 unfold eqGraph; rw [eqIntS_self, eqEdgeS_self]; rfl

end Go.Proofs.Ytgbapklfgjnggaa


namespace Go.Proofs.Ytgbapklfgjnggaa
open Go Go.Am
open Go.Am.AW (seq r1U ret kpU cdE r0U r1 meet block rS bk exit lpB kp d0U)
open List (length getD set replicate)
noncomputable section

theorem kid_lt {t : JoinTree} {i : Nat} (h : i < t.Kids.length) : SizeOf.sizeOf (t.Kids.getD i JoinTree.zero) < SizeOf.sizeOf t := by
 cases t with
 | mk l ks =>
  have := List.sizeOf_lt_of_mem (getD_mem ks i JoinTree.zero h); simp only [JoinTree.mk.sizeOf_spec, JoinTree.Kids] at *; omega

def szJoinTree_l0 (self : JoinTree → Int → Int) (a : JoinTree) : Nat → Int → Nat → Int ⊕ Int
 | 0, left1, i => .inl left1
 | k + 1, left1, i => (bif (decide ((i : Int) < (length (JoinTree.Kids a) : Int))) then (bif (decide ((self (getD (JoinTree.Kids a) i JoinTree.zero) left1) < 0)) then (.inr (-1)) else (szJoinTree_l0 self a k (self (getD (JoinTree.Kids a) i JoinTree.zero) left1) (i + 1))) else (.inl left1))

def szJoinTree_c0 (self : JoinTree → Int → Int) (a : JoinTree) (left : Int) : Int :=
 (bif (decide ((left - (length (JoinTree.Kids a) : Int)) < 0)) then (-1) else (Sum.elim (fun z => (fun (left1 : Int) => left1) z) (fun r => r) (szJoinTree_l0 self a ((length (JoinTree.Kids a)) - 0 + 1) (left - (length (JoinTree.Kids a) : Int)) 0)))

def szJoinTree_r : Nat → JoinTree → Int → Int
 | 0, a, left => 0
 | fuel + 1, a, left => (andThen (szJoinTree_c0 (szJoinTree_r fuel) a left) (fun z => (fun (v8 : Int) => (bif (decide (v8 < 0)) then (-1) else v8)) z))

def szJoinTree (a : JoinTree) (left : Int) : Int := szJoinTree_r (SizeOf.sizeOf a + 1) a left

def Fits (a : JoinTree) : Prop := ∃ f l, SizeOf.sizeOf a < f ∧ (0 ≤ l ∧ l ≤ 1048576) ∧ 0 ≤ szJoinTree_r f a l

theorem Fits.of {a : JoinTree} (h : ¬ szJoinTree a 1048576 < 0) : Fits a := ⟨SizeOf.sizeOf a + 1, 1048576, Nat.lt_succ_self _, by omega, by unfold szJoinTree at h; omega⟩

theorem gSize_b {g : Graph} (hV : VG g) (m : Int) : 1 ≤ gSize g m ∧ gSize g m ≤ 1000000000000000 := by
 have h0 : ∀ (k : Nat) (n : Int) (i : Nat), 1 ≤ n → n ≤ 1000 ^ i → i ≤ g.Rows.length → 1 ≤ gSize_l0 g m k n i ∧ gSize_l0 g m k n i ≤ 1000000000000000 := by
  intro k
  induction k with
  | zero =>
   intro n i h1 h2 h3; have := pow5 (i := i) (by have := hV.n5; omega); show 1 ≤ n ∧ n ≤ 1000000000000000; omega
  | succ k ih =>
   intro n i h1 h2 h3; unfold gSize_l0; by_cases hi : i < g.Rows.length
   ·
    rw [lt_dec hi, cond_true]; have hr := hV.rows _ (getD_mem g.Rows i 0 hi); have ht := times h1 h2 hr.1 hr.2
    cases (bits .and .i64 m ((1 : Int) * 2 ^ i) != 0) with
    | true => exact ih _ _ ht.1 ht.2 (by omega)
    | false => exact ih _ _ h1 (grow5 h2) (by omega)
   · rw [ge_dec hi, cond_false]; have := pow5 (i := i) (by have := hV.n5; omega); omega
 have h1 : ∀ (k : Nat) (n : Int) (i : Nat), 0 ≤ n → n ≤ 1000000000000000 → 0 ≤ gSize_l1 g m k n i ∧ gSize_l1 g m k n i ≤ 1000000000000000 := by
  intro k
  induction k with
  | zero => intro n i h1 h2; exact ⟨h1, h2⟩
  | succ k ih =>
   intro n i h1 h2; unfold gSize_l1; by_cases hi : i < g.Edges.length
   ·
    rw [lt_dec hi, cond_true]; have he := hV.edges _ (getD_mem g.Edges i Edge.zero hi); have hd := divs h1 he.2.2.2.1
    cases (bif ((bits .and .i64 m ((1 : Int) * 2 ^ (Int.toNat (Edge.A (getD (Graph.Edges g) i Edge.zero))))) != 0) then ((bits .and .i64 m ((1 : Int) * 2 ^ (Int.toNat (Edge.B (getD (Graph.Edges g) i Edge.zero))))) != 0) else false) with
    | true => exact ih _ _ hd.1 (by omega)
    | false => exact ih _ _ h1 h2
   · rw [ge_dec hi, cond_false]; exact ⟨h1, h2⟩
 have a := h0 (g.Rows.length - 0 + 1) 1 0 (by decide) (by decide) (by omega); have b := h1 (g.Edges.length - 0 + 1) _ 0 (show 0 ≤ gSize_l0 g m (g.Rows.length - 0 + 1) 1 0 by omega) a.2; simp only [gSize, andThen]; split <;> omega

def eqJoinTree_l0 (self : JoinTree → JoinTree → Bool) (a : JoinTree) (b : JoinTree) : Nat → Nat → Unit ⊕ Bool
 | 0, i => .inl ()
 | k + 1, i => (bif (decide ((i : Int) < (length (JoinTree.Kids a) : Int))) then (bif (!(self (getD (JoinTree.Kids a) i JoinTree.zero) (getD (JoinTree.Kids b) i JoinTree.zero))) then (.inr false) else (eqJoinTree_l0 self a b k (i + 1))) else (.inl ()))

def eqJoinTree_c0 (self : JoinTree → JoinTree → Bool) (a : JoinTree) (b : JoinTree) : Bool :=
 (bif ((length (JoinTree.Kids a) : Int) != (length (JoinTree.Kids b) : Int)) then false else (Sum.elim (fun _ => true) (fun r => r) (eqJoinTree_l0 self a b ((length (JoinTree.Kids a)) - 0 + 1) 0)))

def eqJoinTree_r : Nat → JoinTree → JoinTree → Bool
 | 0, a, b => false
 | fuel + 1, a, b => (bif ((JoinTree.Leaf a) != (JoinTree.Leaf b)) then false else (andThen (eqJoinTree_c0 (eqJoinTree_r fuel) a b) (fun z => (fun (v14 : Bool) => (bif (!v14) then false else true)) z)))

def eqJoinTree (a : JoinTree) (b : JoinTree) : Bool := eqJoinTree_r (SizeOf.sizeOf a + 1) a b

def eqJoinTree_spn (fuel : Nat) : FnSpec := mkSpec [.val (.named 3), .val (.named 3)] [.val .bool] (fun (a : JoinTree) (b : JoinTree) => (True) ∧ SizeOf.sizeOf a < fuel) (fun (a : JoinTree) (b : JoinTree) => [⟨.bool, (eqJoinTree_r fuel a b)⟩])

def eqJoinTree_sp : FnSpec := mkSpec [.val (.named 3), .val (.named 3)] [.val .bool] (fun (a : JoinTree) (b : JoinTree) => True) (fun (a : JoinTree) (b : JoinTree) => [⟨.bool, (eqJoinTree a b)⟩])

theorem eqJoinTree_okn (fuel : Nat) : FnOK Try.prog 43 (eqJoinTree_spn fuel) := by
 induction fuel with
 | zero => exact FnOK.never Try.func43 (by kernel_rfl) rfl (fun _ _ h => absurd h.2 (Nat.not_lt_zero _))
 | succ fuel ih => ?_
 have hC : CtxOK Try.prog (mkCtx tyL [(43, (eqJoinTree_spn fuel))]) := CtxOK.cons ih (CtxOK.nil tyOK); have hM : Try.prog.follows .mixedOrders = true := Try.checked.mixed; have hC1 := hC.rebase 1000; refine FnOK.of_body Try.func43 (by kernel_rfl) rfl (C := (mkCtx tyL [(43, (eqJoinTree_spn fuel))])) hC.ty (by kernel_rfl) ?_; intro (a : JoinTree) (b : JoinTree) hwf hpre E; have hpre : (True) ∧ SizeOf.sizeOf a < fuel + 1 := hpre; have hw_a : Wf ⟨(.named 3), (a : JoinTree)⟩ := hwf _ (List.Mem.head _); have hr_a_Leaf : -9223372036854775808 ≤ JoinTree.Leaf a ∧ JoinTree.Leaf a ≤ 9223372036854775807 := (hw_a.field (tv := ⟨(.int .i64), JoinTree.Leaf a⟩) (List.Mem.head _)).int_inv; have hl_a_Kids : (length (JoinTree.Kids a) : Int) ≤ 9223372036854775807 := (hw_a.field (tv := ⟨(.slice (.named 3)), JoinTree.Kids a⟩) (List.Mem.tail _ (List.Mem.head _))).len; have hw_b : Wf ⟨(.named 3), (b : JoinTree)⟩ := hwf _ (List.Mem.tail _ (List.Mem.head _)); have hr_b_Leaf : -9223372036854775808 ≤ JoinTree.Leaf b ∧ JoinTree.Leaf b ≤ 9223372036854775807 := (hw_b.field (tv := ⟨(.int .i64), JoinTree.Leaf b⟩) (List.Mem.head _)).int_inv; have hl_b_Kids : (length (JoinTree.Kids b) : Int) ≤ 9223372036854775807 := (hw_b.field (tv := ⟨(.slice (.named 3)), JoinTree.Kids b⟩) (List.Mem.tail _ (List.Mem.head _))).len; have e0 : eqJoinTree_r (fuel + 1) a b = eqJoinTree_r (fuel + 1) a b := rfl; refine seq (r1 hC [2, 3] [8, 12] ⟨[(2, .ref 8 1 0), (3, .ref 12 1 0)], [(8, .box 1 [.int .i64 (JoinTree.Leaf a), .data (.slice (.named 3)) ((JoinTree.Kids a) : List JoinTree)]), (12, .box 1 [.int .i64 (JoinTree.Leaf b), .data (.slice (.named 3)) ((JoinTree.Kids b) : List JoinTree)])]⟩ ?_); refine seq (seq (r1U hC [2, 3, 9] [8, 12] [(9, .bool ((JoinTree.Leaf a) != (JoinTree.Leaf b)))] [] ?_)); refine cdE e0 ?_ ?_
 · intro h1q e2; refine seq (r1 hC [4] [] ⟨[(4, .bool false)], []⟩ ?_); exact ret (rS .bool e2)
 ·
  intro h3q e4; refine kpU [2, 3] [8, 12] [] [] ?_; refine AW.skip (seq (seq (AW.regionO [0, 1, 2, 3, 4, 5] (by rfl) ?_)))
  refine AWO.run hC false [] [0, 1, 2, 3] [4, 5] [11, 13] []
   ⟨[(11, .data (.slice (.named 3)) ((JoinTree.Kids a) : List JoinTree)), (13, .data (.slice (.named 3)) ((JoinTree.Kids b) : List JoinTree))], []⟩
   [] (by rfl) (by kernel_rfl) ?_ ?_
  · exact trivial
  refine AWO.callJ hC.ty [14] [] (α := Bool) (fun x => ⟨[(14, .bool x)], []⟩) (fun x => (True) ∧ (eqJoinTree_c0 (eqJoinTree_r fuel) a b) = x) (vs := [.data (.slice (.named 3)) ((JoinTree.Kids a) : List JoinTree), .data (.slice (.named 3)) ((JoinTree.Kids b) : List JoinTree)]) (caps := []) (by rfl) rfl (.inl rfl) (by decide) (by kernel_rfl) (by kernel_rfl) Try.func75 (by kernel_rfl) rfl (by kernel_rfl) ?_ ?_
  ·
   intro o1 ho1; have e91 : (eqJoinTree_c0 (eqJoinTree_r fuel) a b) = (eqJoinTree_c0 (eqJoinTree_r fuel) a b) := rfl; refine kpU [0, 1] [] [] [] ?_; refine seq (r1U hC1 [0, 1] [] [] [] ?_); refine seq (seq (r1U hC1 [0, 1, 10] [] [(10, .bool ((length (JoinTree.Kids a) : Int) != (length (JoinTree.Kids b) : Int)))] [] ?_)); refine cdE e91 ?_ ?_
   · intro h92q e93; refine seq (r1 hC1 [4] [] ⟨[(4, .bool false)], []⟩ ?_); refine ret ?_; refine ⟨false, [.bool false], by kernel_rfl, by kernel_rfl, ?_, e93⟩; exact trivial
   ·
    intro h94q e95; refine kpU [0, 1] [] [] [] ?_; refine AW.skip (seq (seq (r1U hC1 [0, 1, 5] [] [(5, .int .i64 0)] [] ?_))); refine lpB (ζ := Unit) (fun x => ⟨[], []⟩) (fun x => True) (fun x => (.inl ())) (α := Nat) (fun x => ⟨[(0, .data (.slice (.named 3)) ((JoinTree.Kids a) : List JoinTree)), (1, .data (.slice (.named 3)) ((JoinTree.Kids b) : List JoinTree)), (5, .int .i64 (x : Int))], []⟩) (fun x => True) (fun x => (length (JoinTree.Kids a)) - x) (fun k x => eqJoinTree_l0 (eqJoinTree_r fuel) a b k x) 0 (by kernel_rfl) ?_ ?_ ?_
    · exact trivial
    ·
     intro i k125q hI0 hk123 e124; refine seq (seq (r1U hC1 [0, 1, 5, 14] [] [(14, .bool (decide ((i : Int) < (length (JoinTree.Kids a) : Int))))] [] ?_)); refine cdE e124 ?_ ?_
     ·
      intro h126q e127; refine kpU [0, 1, 5] [] [] [] ?_; refine AW.skip (seq (block (seq (d0U hC1 hM [0, 1, 5, 26] [] [(26, .bool (!((eqJoinTree_r fuel) (getD (JoinTree.Kids a) i JoinTree.zero) (getD (JoinTree.Kids b) i JoinTree.zero))))] [] [(0 ≤ (i : Int) ∧ (i : Int) < (length (JoinTree.Kids a) : Int)), (0 ≤ (i : Int) ∧ (i : Int) < (length (JoinTree.Kids b) : Int)), ((True) ∧ SizeOf.sizeOf (getD (JoinTree.Kids a) i JoinTree.zero) < fuel)] ?_ ?_))))
      ·
       exact ⟨(by omega), (by omega), (⟨trivial, Nat.lt_of_lt_of_le (kid_lt (by omega)) (Nat.le_of_lt_succ hpre.2)⟩), trivial⟩
      refine cdE e127 ?_ ?_
      · intro h128q e129; refine seq (r1 hC1 [4] [] ⟨[(4, .bool false)], []⟩ ?_); refine ret ?_; have e130 := e95.trans (elim_r e129); refine ⟨false, [.bool false], by kernel_rfl, by kernel_rfl, ?_, e130⟩; exact trivial
      ·
       intro h131q e132; refine kpU [0, 1, 5] [] [] [] ?_; refine AW.skip (r0U hC1 [0, 1, 5] [] [(5, .int .i64 ((i + 1 : Nat) : Int))] [] [(-9223372036854775808 ≤ ((i + 1 : Nat) : Int) ∧ ((i + 1 : Nat) : Int) ≤ 9223372036854775807)] ?_ ?_)
       ·
        exact ⟨(by omega), trivial⟩
       refine bk (i + 1) e132 hk123 ?_ ?_
       · assumption
       · omega
     · intro h133q e134; refine kp [] [] ⟨[], []⟩ ?_; refine exit ?_; refine meet () (by kernel_rfl) ⟨?_, e134⟩; assumption
    · intro x hJ0 e135; have e136 := e95.trans (elim_l e135); refine seq (r1 hC1 [4] [] ⟨[(4, .bool true)], []⟩ ?_); refine ret ?_; refine ⟨true, [.bool true], by kernel_rfl, by kernel_rfl, ?_, e136⟩; exact trivial
  ·
   intro v14 hR; obtain ⟨hK0, e137⟩ := hR; have e138 := e4.trans (then_eq e137)
   refine AWO.run hC false [] [5] [] [15] []
    ⟨[(15, .bool (!v14))], []⟩
    [] (by rfl) (by kernel_rfl) ?_ ?_
   · exact trivial
   refine AWO.nil ?_; refine cdE e138 ?_ ?_
   · intro h139q e140; refine seq (r1 hC [4] [] ⟨[(4, .bool false)], []⟩ ?_); exact ret (rS .bool e140)
   · intro h141q e142; refine kp [] [] ⟨[], []⟩ ?_; refine AW.skip (seq (r1 hC [4] [] ⟨[(4, .bool true)], []⟩ ?_)); exact ret (rS .bool e142)

theorem eqJoinTree_fu : AllTV (eqJoinTree_sp.ps.map PK.ty) (fun tvs => eqJoinTree_sp.pre tvs → ∃ k, (eqJoinTree_spn k).pre tvs ∧ (eqJoinTree_spn k).fn tvs = eqJoinTree_sp.fn tvs ∧ (eqJoinTree_spn k).bx tvs = eqJoinTree_sp.bx tvs) :=
 (fun (a : JoinTree) (b : JoinTree) h => ⟨SizeOf.sizeOf a + 1, (show (True) ∧ SizeOf.sizeOf a < SizeOf.sizeOf a + 1 from ⟨h, Nat.lt_succ_self _⟩), (show (eqJoinTree_spn (SizeOf.sizeOf a + 1)).fn [⟨(.named 3), (a : JoinTree)⟩, ⟨(.named 3), (b : JoinTree)⟩] = ([⟨.bool, (eqJoinTree_r (SizeOf.sizeOf a + 1) a b)⟩] : List TV) from by kernel_rfl).trans (show ([⟨.bool, (eqJoinTree_r (SizeOf.sizeOf a + 1) a b)⟩] : List TV) = eqJoinTree_sp.fn [⟨(.named 3), (a : JoinTree)⟩, ⟨(.named 3), (b : JoinTree)⟩] from by kernel_rfl), by kernel_rfl⟩)

theorem eqJoinTree_ok : FnOK Try.prog 43 eqJoinTree_sp := FnOK.of_fuel eqJoinTree_okn (fun _ => rfl) (fun _ => rfl) (AllTV.get eqJoinTree_fu)

end
end Go.Proofs.Ytgbapklfgjnggaa


namespace Go.Proofs.Ytgbapklfgjnggaa
open Go Go.Am
open Go.Am.AW (seq r1U ret kpU cdE r0U r1 rS r0 kp d0U)
open List (length getD)
noncomputable section

theorem lt32 {a : Int} (h : 0 ≤ a) (h5 : a < 5) : (1 : Int) ≤ 1 * 2 ^ a.toNat ∧ (1 : Int) * 2 ^ a.toNat < 32 := by
 obtain ⟨n, rfl⟩ := Int.eq_ofNat_of_zero_le h; simp only [Int.toNat_natCast]; have : n < 5 := by omega
 match n, this with
 | 0, _ | 1, _ | 2, _ | 3, _ | 4, _ => decide

theorem or32 {a b : Int} (ha : 0 ≤ a) (ha' : a < 32) (hb : 0 ≤ b) (hb' : b < 32) : a ≤ bits .or .i64 a b ∧ b ≤ bits .or .i64 a b ∧ bits .or .i64 a b < 32 := by
 rw [(bits62 ha (by omega) hb (by omega)).2]; have h1 : a.toNat ≤ a.toNat ||| b.toNat := Nat.left_le_or; have h2 : b.toNat ≤ a.toNat ||| b.toNat := Nat.right_le_or; have h3 : a.toNat ||| b.toNat < 2 ^ 5 := Nat.or_lt_two_pow (by omega) (by omega); omega

def treeMask_r : Nat → JoinTree → Int → Int
 | 0, t, n => 0
 | fuel + 1, t, n => (bif ((length (JoinTree.Kids t) : Int) == 0) then (bif (inRange (JoinTree.Leaf t) 0 (n - 1)) then ((1 : Int) * 2 ^ (Int.toNat (JoinTree.Leaf t))) else 0) else (bif (bif ((length (JoinTree.Kids t) : Int) != 2) then true else ((JoinTree.Leaf t) != 0)) then 0 else (bif (bif (bif (((treeMask_r fuel) (getD (JoinTree.Kids t) 0 JoinTree.zero) n) == 0) then true else (((treeMask_r fuel) (getD (JoinTree.Kids t) 1 JoinTree.zero) n) == 0)) then true else ((bits .and .i64 ((treeMask_r fuel) (getD (JoinTree.Kids t) 0 JoinTree.zero) n) ((treeMask_r fuel) (getD (JoinTree.Kids t) 1 JoinTree.zero) n)) != 0)) then 0 else (bits .or .i64 ((treeMask_r fuel) (getD (JoinTree.Kids t) 0 JoinTree.zero) n) ((treeMask_r fuel) (getD (JoinTree.Kids t) 1 JoinTree.zero) n)))))

def treeMask (t : JoinTree) (n : Int) : Int := treeMask_r (SizeOf.sizeOf t + 1) t n

def treeMask_spn (fuel : Nat) : FnSpec := mkSpec [.val (.named 3), .val (.int .i64)] [.val (.int .i64)] (fun (t : JoinTree) (n : Int) => (0 ≤ n ∧ n ≤ 5) ∧ SizeOf.sizeOf t < fuel) (fun (t : JoinTree) (n : Int) => [⟨(.int .i64), (treeMask_r fuel t n)⟩])

def treeMask_sp : FnSpec := mkSpec [.val (.named 3), .val (.int .i64)] [.val (.int .i64)] (fun (t : JoinTree) (n : Int) => 0 ≤ n ∧ n ≤ 5) (fun (t : JoinTree) (n : Int) => [⟨(.int .i64), (treeMask t n)⟩])

theorem treeMask_okn (fuel : Nat) : FnOK Try.prog 68 (treeMask_spn fuel) := by
 induction fuel with
 | zero => exact FnOK.never Try.func68 (by kernel_rfl) rfl (fun _ _ h => absurd h.2 (Nat.not_lt_zero _))
 | succ fuel ih => ?_
 have hC : CtxOK Try.prog (mkCtx tyL [(56, inRange_sp), (68, (treeMask_spn fuel))]) := CtxOK.cons inRange_ok (CtxOK.cons ih (CtxOK.nil tyOK)); refine FnOK.of_body Try.func68 (by kernel_rfl) rfl (C := (mkCtx tyL [(56, inRange_sp), (68, (treeMask_spn fuel))])) hC.ty (by kernel_rfl) ?_; intro (t : JoinTree) (n : Int) hwf hpre E; have hpre : (0 ≤ n ∧ n ≤ 5) ∧ SizeOf.sizeOf t < fuel + 1 := hpre; have e0 : treeMask_r (fuel + 1) t n = treeMask_r (fuel + 1) t n := rfl; refine seq (r1U hC [1, 2] [8] [(2, .ref 8 1 0)] [(8, .box 1 [.int .i64 (JoinTree.Leaf t), .data (.slice (.named 3)) ((JoinTree.Kids t) : List JoinTree)])] ?_); refine seq (seq (r1U hC [1, 2, 10] [8] [(10, .bool ((length (JoinTree.Kids t) : Int) == 0))] [] ?_)); refine cdE e0 ?_ ?_
 ·
  intro h1q e2; refine seq (seq (r0U hC [2, 15] [8] [(15, .bool (inRange (JoinTree.Leaf t) 0 (n - 1)))] [] [(-9223372036854775808 ≤ (n - 1) ∧ (n - 1) ≤ 9223372036854775807), (True)] ?_ ?_))
  ·
   exact ⟨(by omega), trivial, trivial⟩
  refine cdE e2 ?_ ?_
  ·
   intro h3q e4; refine seq (r0 hC [4] [] ⟨[(4, .int .i64 ((1 : Int) * 2 ^ (Int.toNat (JoinTree.Leaf t))))], []⟩ [(0 ≤ (JoinTree.Leaf t) ∧ (JoinTree.Leaf t) ≤ 64), (-9223372036854775808 ≤ ((1 : Int) * 2 ^ (Int.toNat (JoinTree.Leaf t))) ∧ ((1 : Int) * 2 ^ (Int.toNat (JoinTree.Leaf t))) ≤ 9223372036854775807)] ?_ ?_)
   ·
    exact ⟨(by have h := inRange_iff.1 h3q; omega), (by have h := inRange_iff.1 h3q; have := lt32 (a := JoinTree.Leaf t) (by omega) (by omega); omega), trivial⟩
   exact ret (rS (.int .i64) e4)
  · intro h5q e6; refine kp [] [] ⟨[], []⟩ ?_; refine AW.skip (seq (r1 hC [4] [] ⟨[(4, .int .i64 0)], []⟩ ?_)); exact ret (rS (.int .i64) e6)
 ·
  intro h7q e8; refine kpU [1, 2] [8] [] [] ?_; refine AW.skip (seq (seq (r0U hC [1, 2, 27] [8] [(27, .bool (bif ((length (JoinTree.Kids t) : Int) != 2) then true else ((JoinTree.Leaf t) != 0)))] [] [((((length (JoinTree.Kids t) : Int) != 2) = false) → ((((length (JoinTree.Kids t) : Int) != 2) = false))), ((((length (JoinTree.Kids t) : Int) != 2) = false) → ((((length (JoinTree.Kids t) : Int) != 2) = false))), ((((length (JoinTree.Kids t) : Int) != 2) = false) → ((((length (JoinTree.Kids t) : Int) != 2) = false)))] ?_ ?_)))
  ·
   exact ⟨(by intro g9; assumption), (by intro g10; assumption), (by intro g11; assumption), trivial⟩
  refine cdE e8 ?_ ?_
  · intro h12q e13; refine seq (r1 hC [4] [] ⟨[(4, .int .i64 0)], []⟩ ?_); exact ret (rS (.int .i64) e13)
  ·
   intro h14q e15; refine kpU [1, 2] [8] [] [] ?_; refine AW.skip (seq (r0U hC [1, 2, 5] [8] [(5, .int .i64 ((treeMask_r fuel) (getD (JoinTree.Kids t) 0 JoinTree.zero) n))] [] [(0 ≤ (0 : Int) ∧ (0 : Int) < (length (JoinTree.Kids t) : Int)), ((0 ≤ n ∧ n ≤ 5) ∧ SizeOf.sizeOf (getD (JoinTree.Kids t) 0 JoinTree.zero) < fuel)] ?_ ?_))
   ·
    exact ⟨(by omega), (⟨hpre.1, Nat.lt_of_lt_of_le (kid_lt (by omega)) (Nat.le_of_lt_succ hpre.2)⟩), trivial⟩
   refine seq (r0U hC [5, 6] [] [(6, .int .i64 ((treeMask_r fuel) (getD (JoinTree.Kids t) 1 JoinTree.zero) n))] [] [(0 ≤ (1 : Int) ∧ (1 : Int) < (length (JoinTree.Kids t) : Int)), ((0 ≤ n ∧ n ≤ 5) ∧ SizeOf.sizeOf (getD (JoinTree.Kids t) 1 JoinTree.zero) < fuel)] ?_ ?_)
   ·
    exact ⟨(by omega), (⟨hpre.1, Nat.lt_of_lt_of_le (kid_lt (by omega)) (Nat.le_of_lt_succ hpre.2)⟩), trivial⟩
   refine seq (seq (r0U hC [5, 6, 51] [] [(51, .bool (bif (bif (((treeMask_r fuel) (getD (JoinTree.Kids t) 0 JoinTree.zero) n) == 0) then true else (((treeMask_r fuel) (getD (JoinTree.Kids t) 1 JoinTree.zero) n) == 0)) then true else ((bits .and .i64 ((treeMask_r fuel) (getD (JoinTree.Kids t) 0 JoinTree.zero) n) ((treeMask_r fuel) (getD (JoinTree.Kids t) 1 JoinTree.zero) n)) != 0)))] [] [(((((treeMask_r fuel) (getD (JoinTree.Kids t) 0 JoinTree.zero) n) == 0) = false) → (((((treeMask_r fuel) (getD (JoinTree.Kids t) 0 JoinTree.zero) n) == 0) = false))), (((((treeMask_r fuel) (getD (JoinTree.Kids t) 0 JoinTree.zero) n) == 0) = false) → (((((treeMask_r fuel) (getD (JoinTree.Kids t) 0 JoinTree.zero) n) == 0) = false))), (((bif (((treeMask_r fuel) (getD (JoinTree.Kids t) 0 JoinTree.zero) n) == 0) then true else (((treeMask_r fuel) (getD (JoinTree.Kids t) 1 JoinTree.zero) n) == 0)) = false) → (((bif (((treeMask_r fuel) (getD (JoinTree.Kids t) 0 JoinTree.zero) n) == 0) then true else (((treeMask_r fuel) (getD (JoinTree.Kids t) 1 JoinTree.zero) n) == 0)) = false))), (((bif (((treeMask_r fuel) (getD (JoinTree.Kids t) 0 JoinTree.zero) n) == 0) then true else (((treeMask_r fuel) (getD (JoinTree.Kids t) 1 JoinTree.zero) n) == 0)) = false) → (((bif (((treeMask_r fuel) (getD (JoinTree.Kids t) 0 JoinTree.zero) n) == 0) then true else (((treeMask_r fuel) (getD (JoinTree.Kids t) 1 JoinTree.zero) n) == 0)) = false))), (((bif (((treeMask_r fuel) (getD (JoinTree.Kids t) 0 JoinTree.zero) n) == 0) then true else (((treeMask_r fuel) (getD (JoinTree.Kids t) 1 JoinTree.zero) n) == 0)) = false) → (((bif (((treeMask_r fuel) (getD (JoinTree.Kids t) 0 JoinTree.zero) n) == 0) then true else (((treeMask_r fuel) (getD (JoinTree.Kids t) 1 JoinTree.zero) n) == 0)) = false))), (((bif (((treeMask_r fuel) (getD (JoinTree.Kids t) 0 JoinTree.zero) n) == 0) then true else (((treeMask_r fuel) (getD (JoinTree.Kids t) 1 JoinTree.zero) n) == 0)) = false) → (((bif (((treeMask_r fuel) (getD (JoinTree.Kids t) 0 JoinTree.zero) n) == 0) then true else (((treeMask_r fuel) (getD (JoinTree.Kids t) 1 JoinTree.zero) n) == 0)) = false)))] ?_ ?_))
   ·
    exact ⟨(by intro g16; assumption), (by intro g17; assumption), (by intro g18; assumption), (by intro g19; assumption), (by intro g20; assumption), (by intro g21; assumption), trivial⟩
   refine cdE e15 ?_ ?_
   · intro h22q e23; refine seq (r1 hC [4] [] ⟨[(4, .int .i64 0)], []⟩ ?_); exact ret (rS (.int .i64) e23)
   · intro h24q e25; refine kpU [5, 6] [] [] [] ?_; refine AW.skip (seq (r1 hC [4] [] ⟨[(4, .int .i64 (bits .or .i64 ((treeMask_r fuel) (getD (JoinTree.Kids t) 0 JoinTree.zero) n) ((treeMask_r fuel) (getD (JoinTree.Kids t) 1 JoinTree.zero) n)))], []⟩ ?_)); exact ret (rS (.int .i64) e25)

theorem treeMask_fu : AllTV (treeMask_sp.ps.map PK.ty) (fun tvs => treeMask_sp.pre tvs → ∃ k, (treeMask_spn k).pre tvs ∧ (treeMask_spn k).fn tvs = treeMask_sp.fn tvs ∧ (treeMask_spn k).bx tvs = treeMask_sp.bx tvs) :=
 (fun (t : JoinTree) (n : Int) h => ⟨SizeOf.sizeOf t + 1, (show (0 ≤ n ∧ n ≤ 5) ∧ SizeOf.sizeOf t < SizeOf.sizeOf t + 1 from ⟨h, Nat.lt_succ_self _⟩), (show (treeMask_spn (SizeOf.sizeOf t + 1)).fn [⟨(.named 3), (t : JoinTree)⟩, ⟨(.int .i64), (n : Int)⟩] = ([⟨(.int .i64), (treeMask_r (SizeOf.sizeOf t + 1) t n)⟩] : List TV) from by kernel_rfl).trans (show ([⟨(.int .i64), (treeMask_r (SizeOf.sizeOf t + 1) t n)⟩] : List TV) = treeMask_sp.fn [⟨(.named 3), (t : JoinTree)⟩, ⟨(.int .i64), (n : Int)⟩] from by kernel_rfl), by kernel_rfl⟩)

theorem treeMask_ok : FnOK Try.prog 68 treeMask_sp := FnOK.of_fuel treeMask_okn (fun _ => rfl) (fun _ => rfl) (AllTV.get treeMask_fu)

end
end Go.Proofs.Ytgbapklfgjnggaa
