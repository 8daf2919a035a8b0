/-
  A part of the proof of this claim (Ax6): what functions of the program compute, and plain facts of that. No conditions.
-/
import Derived.Test.YtgbapklfgjnggaaAx5
set_option linter.all false
namespace Go.Proofs.Ytgbapklfgjnggaa
open Go Go.Am
open Go.Am.AW (seq r1U ret kpU cdE r0U r1 rS r0 kp d0U d0)
open List (length getD)
noncomputable section

theorem mask_irrel : ∀ (f1 f2 : Nat) (t : JoinTree) (n : Int), SizeOf.sizeOf t < f1 → SizeOf.sizeOf t < f2 → treeMask_r f1 t n = treeMask_r f2 t n := by
 intro f1
 induction f1 with
 | zero => intro f2 t n h; omega
 | succ f1 ih =>
  intro f2 t n h1 h2
  cases f2 with
  | zero => omega
  | succ f2 =>
   unfold treeMask_r; by_cases hk : 2 ≤ t.Kids.length
   · have a := kid_lt (t := t) (i := 0) (by omega); have b := kid_lt (t := t) (i := 1) (by omega); rw [ih f2 (getD t.Kids 0 JoinTree.zero) n (by omega) (by omega), ih f2 (getD t.Kids 1 JoinTree.zero) n (by omega) (by omega)]
   ·
    by_cases h0 : t.Kids.length = 0
    · rw [show ((length (JoinTree.Kids t) : Int) == 0) = true by rw [h0]; rfl]; simp only [cond_true]
    · (have e : t.Kids.length = 1 := by omega); rw [e, show (((1 : Nat) : Int) == 0) = false from rfl, show (((1 : Nat) : Int) != 2) = true from rfl]; simp only [cond_false, cond_true]

theorem mask_eq (t : JoinTree) (n : Int) : treeMask t n = (bif ((length (JoinTree.Kids t) : Int) == 0) then (bif (inRange (JoinTree.Leaf t) 0 (n - 1)) then ((1 : Int) * 2 ^ (Int.toNat (JoinTree.Leaf t))) else 0) else (bif (bif ((length (JoinTree.Kids t) : Int) != 2) then true else ((JoinTree.Leaf t) != 0)) then 0 else (bif (bif (bif ((treeMask (getD (JoinTree.Kids t) 0 JoinTree.zero) n) == 0) then true else ((treeMask (getD (JoinTree.Kids t) 1 JoinTree.zero) n) == 0)) then true else ((bits .and .i64 (treeMask (getD (JoinTree.Kids t) 0 JoinTree.zero) n) (treeMask (getD (JoinTree.Kids t) 1 JoinTree.zero) n)) != 0)) then 0 else (bits .or .i64 (treeMask (getD (JoinTree.Kids t) 0 JoinTree.zero) n) (treeMask (getD (JoinTree.Kids t) 1 JoinTree.zero) n))))) := by
 rw [treeMask, treeMask_r]; by_cases hk : 2 ≤ t.Kids.length
 ·
  have a := kid_lt (t := t) (i := 0) (by omega); have b := kid_lt (t := t) (i := 1) (by omega)
  have ta : treeMask_r (SizeOf.sizeOf t) (getD t.Kids 0 JoinTree.zero) n = treeMask (getD t.Kids 0 JoinTree.zero) n := by
   rw [treeMask]; exact mask_irrel _ _ _ _ (by omega) (by omega)
  have tb : treeMask_r (SizeOf.sizeOf t) (getD t.Kids 1 JoinTree.zero) n = treeMask (getD t.Kids 1 JoinTree.zero) n := by
   rw [treeMask]; exact mask_irrel _ _ _ _ (by omega) (by omega)
  rw [ta, tb]
 ·
  by_cases h0 : t.Kids.length = 0
  · rw [show ((length (JoinTree.Kids t) : Int) == 0) = true by rw [h0]; rfl]; simp only [cond_true]
  · (have e : t.Kids.length = 1 := by omega); rw [e, show (((1 : Nat) : Int) == 0) = false from rfl, show (((1 : Nat) : Int) != 2) = true from rfl]; simp only [cond_false, cond_true]

theorem mask_b {n : Int} (hn : n ≤ 5) : ∀ (f : Nat) (t : JoinTree), 0 ≤ treeMask_r f t n ∧ treeMask_r f t n < 32 := by
 intro f
 induction f with
 | zero => intro t; exact ⟨Int.le_refl _, by show (0 : Int) < 32; decide⟩
 | succ f ih =>
  intro t; unfold treeMask_r; have a := ih (getD t.Kids 0 JoinTree.zero); have b := ih (getD t.Kids 1 JoinTree.zero); have ho := or32 a.1 a.2 b.1 b.2
  cases ((length (JoinTree.Kids t) : Int) == 0) with
  | true =>
   cases h : inRange (JoinTree.Leaf t) 0 (n - 1) with
   | true =>
    have h := inRange_iff.1 h; have := lt32 (a := JoinTree.Leaf t) (by omega) (by omega); simp only [cond_true]; omega
   | false => simp only [cond_true, cond_false]; omega
  | false =>
   cases (bif ((length (JoinTree.Kids t) : Int) != 2) then true else ((JoinTree.Leaf t) != 0)) with
   | true => simp only [cond_true, cond_false]; omega
   | false =>
    simp only [cond_false]
    cases (bif (bif ((treeMask_r f (getD (JoinTree.Kids t) 0 JoinTree.zero) n) == 0) then true else ((treeMask_r f (getD (JoinTree.Kids t) 1 JoinTree.zero) n) == 0)) then true else ((bits .and .i64 (treeMask_r f (getD (JoinTree.Kids t) 0 JoinTree.zero) n) (treeMask_r f (getD (JoinTree.Kids t) 1 JoinTree.zero) n)) != 0)) with
    | true => simp only [cond_true]; omega
    | false => simp only [cond_false]; omega

def pc (x : Nat) : Nat := x % 2 + x / 2 % 2 + x / 4 % 2 + x / 8 % 2 + x / 16 % 2

theorem pc_facts : ∀ a b : Fin 32, a.val &&& b.val = 0 → a.val ||| b.val = a.val + b.val ∧ pc (a.val ||| b.val) = pc a.val + pc b.val := by decide +kernel

theorem pc_one : ∀ a : Fin 32, (a.val ≠ 0 → 1 ≤ pc a.val) ∧ pc a.val ≤ 5 := by decide +kernel

structure Join2 (t : JoinTree) (n : Int) : Prop where
 two : t.Kids.length = 2
 leaf : t.Leaf = 0
 ne0 : treeMask (getD t.Kids 0 JoinTree.zero) n ≠ 0
 ne1 : treeMask (getD t.Kids 1 JoinTree.zero) n ≠ 0
 apart : bits .and .i64 (treeMask (getD t.Kids 0 JoinTree.zero) n) (treeMask (getD t.Kids 1 JoinTree.zero) n) = 0
 mask : treeMask t n = bits .or .i64 (treeMask (getD t.Kids 0 JoinTree.zero) n) (treeMask (getD t.Kids 1 JoinTree.zero) n)

theorem join2 {t : JoinTree} {n : Int} (hk : t.Kids.length ≠ 0) (hm : treeMask t n ≠ 0) : Join2 t n := by
 have e := mask_eq t n; rw [show ((length (JoinTree.Kids t) : Int) == 0) = false by simp; intro h; exact hk (by rw [h]; rfl), cond_false] at e
 cases h1 : (bif ((length (JoinTree.Kids t) : Int) != 2) then true else ((JoinTree.Leaf t) != 0)) with
 | true => rw [h1, cond_true] at e; exact absurd e hm
 | false =>
  rw [h1, cond_false] at e
  cases h2 : (bif (bif ((treeMask (getD (JoinTree.Kids t) 0 JoinTree.zero) n) == 0) then true else ((treeMask (getD (JoinTree.Kids t) 1 JoinTree.zero) n) == 0)) then true else ((bits .and .i64 (treeMask (getD (JoinTree.Kids t) 0 JoinTree.zero) n) (treeMask (getD (JoinTree.Kids t) 1 JoinTree.zero) n)) != 0)) with
  | true => rw [h2, cond_true] at e; exact absurd e hm
  | false =>
   rw [h2, cond_false] at e; have a := or_neg h1; have b := (or_neg h2).imp_left or_neg; have a1 := bne_neg a.1; exact ⟨by omega, bne_neg a.2, beq_neg b.1.1, beq_neg b.1.2, bne_neg b.2, e⟩

theorem pc_join {t : JoinTree} {n : Int} (hn : n ≤ 5) (h : Join2 t n) :
  treeMask t n = treeMask (getD t.Kids 0 JoinTree.zero) n + treeMask (getD t.Kids 1 JoinTree.zero) n ∧
  pc (treeMask t n).toNat = pc (treeMask (getD t.Kids 0 JoinTree.zero) n).toNat + pc (treeMask (getD t.Kids 1 JoinTree.zero) n).toNat ∧
  1 ≤ pc (treeMask (getD t.Kids 0 JoinTree.zero) n).toNat ∧ 1 ≤ pc (treeMask (getD t.Kids 1 JoinTree.zero) n).toNat ∧
  1 ≤ treeMask (getD t.Kids 0 JoinTree.zero) n ∧ 1 ≤ treeMask (getD t.Kids 1 JoinTree.zero) n := by
 have ha := h.apart; have hm := h.mask; have h0 := h.ne0; have h1 := h.ne1; have a := mask_b hn (SizeOf.sizeOf (getD t.Kids 0 JoinTree.zero) + 1) (getD t.Kids 0 JoinTree.zero); have b := mask_b hn (SizeOf.sizeOf (getD t.Kids 1 JoinTree.zero) + 1) (getD t.Kids 1 JoinTree.zero); change 0 ≤ treeMask _ n ∧ treeMask _ n < 32 at a b; generalize treeMask (getD t.Kids 0 JoinTree.zero) n = x at *; generalize treeMask (getD t.Kids 1 JoinTree.zero) n = y at *; rw [(bits62 a.1 (by omega) b.1 (by omega)).1] at ha; rw [(bits62 a.1 (by omega) b.1 (by omega)).2] at hm; have f := pc_facts ⟨x.toNat, by omega⟩ ⟨y.toNat, by omega⟩ (by simp only; omega); have p := pc_one ⟨x.toNat, by omega⟩; have q := pc_one ⟨y.toNat, by omega⟩; simp only at f p q; have hp := p.1 (by omega); have hq := q.1 (by omega); refine ⟨by omega, ?_, hp, hq, by omega, by omega⟩; rw [hm]; simp only [Int.toNat_natCast]; exact f.2

theorem sSize_b {g : Graph} (hV : VG g) {m : Int} (hm : 0 ≤ m) (hm' : m < 32) : 1 ≤ subsetSize g m ∧ subsetSize g m ≤ 1000000000000000 := by
 rw [← size_eq hV hm (by omega)]; exact gSize_b hV m

def treeCost_r : Nat → Graph → JoinTree → Int
 | 0, g, t => 0
 | fuel + 1, g, t => (bif ((length (JoinTree.Kids t) : Int) == 0) then 0 else (((subsetSize g (treeMask (JoinTree.mk (JoinTree.Leaf t) (JoinTree.Kids t)) (length (Graph.Rows g) : Int))) + ((treeCost_r fuel) g (getD (JoinTree.Kids t) 0 JoinTree.zero))) + ((treeCost_r fuel) g (getD (JoinTree.Kids t) 1 JoinTree.zero))))

def treeCost (g : Graph) (t : JoinTree) : Int := treeCost_r (SizeOf.sizeOf t + 1) g t

def treeCost_spn (fuel : Nat) : FnSpec := mkSpec [.val (.named 1), .val (.named 3)] [.val (.int .i64)] (fun (g : Graph) (t : JoinTree) => (VG g ∧ treeMask t (length g.Rows : Int) ≠ 0) ∧ SizeOf.sizeOf t < fuel) (fun (g : Graph) (t : JoinTree) => [⟨(.int .i64), (treeCost_r fuel g t)⟩])

def treeCost_sp : FnSpec := mkSpec [.val (.named 1), .val (.named 3)] [.val (.int .i64)] (fun (g : Graph) (t : JoinTree) => VG g ∧ treeMask t (length g.Rows : Int) ≠ 0) (fun (g : Graph) (t : JoinTree) => [⟨(.int .i64), (treeCost g t)⟩])

theorem cost_b {g : Graph} (hV : VG g) : ∀ (f : Nat) (t : JoinTree), treeMask t (length g.Rows : Int) ≠ 0 → 0 ≤ treeCost_r f g t ∧ treeCost_r f g t ≤ 1000000000000000 * (treeMask t (length g.Rows : Int) - 1) := by
 have h5 := hV.n5; intro f
 induction f with
 | zero =>
  intro t h; have := mask_b (n := (length g.Rows : Int)) (by omega) (SizeOf.sizeOf t + 1) t
  change 0 ≤ treeMask _ _ ∧ treeMask _ _ < 32 at this
  show 0 ≤ (0 : Int) ∧ (0 : Int) ≤ _; omega
 | succ f ih =>
  intro t h; have ht := mask_b (n := (length g.Rows : Int)) (by omega) (SizeOf.sizeOf t + 1) t; change 0 ≤ treeMask _ _ ∧ treeMask _ _ < 32 at ht; unfold treeCost_r; by_cases hk : t.Kids.length = 0
  · rw [show ((length (JoinTree.Kids t) : Int) == 0) = true by rw [hk]; rfl, cond_true]; omega
  · rw [show ((length (JoinTree.Kids t) : Int) == 0) = false by simp; intro h; exact hk (by rw [h]; rfl), cond_false, JoinTree.eta]; have j := join2 hk h; have p := pc_join (by omega) j; have a := ih _ j.ne0; have b := ih _ j.ne1; have s := sSize_b hV ht.1 ht.2; omega

theorem cost_in {g : Graph} (hV : VG g) (f : Nat) (t : JoinTree) (h : treeMask t (length g.Rows : Int) ≠ 0) : 0 ≤ treeCost_r f g t ∧ treeCost_r f g t ≤ 31000000000000000 := by
 have h5 := hV.n5; have ht := mask_b (n := (length g.Rows : Int)) (by omega) (SizeOf.sizeOf t + 1) t; change 0 ≤ treeMask _ _ ∧ treeMask _ _ < 32 at ht; have := cost_b hV f t h; omega

theorem treeCost_okn (fuel : Nat) : FnOK Try.prog 69 (treeCost_spn fuel) := by
 induction fuel with
 | zero => exact FnOK.never Try.func69 (by kernel_rfl) rfl (fun _ _ h => absurd h.2 (Nat.not_lt_zero _))
 | succ fuel ih => ?_
 have hC : CtxOK Try.prog (mkCtx tyL [(57, subsetSize_sp), (68, treeMask_sp), (69, (treeCost_spn fuel))]) := CtxOK.cons subsetSize_ok (CtxOK.cons treeMask_ok (CtxOK.cons ih (CtxOK.nil tyOK))); have hM : Try.prog.follows .mixedOrders = true := Try.checked.mixed; refine FnOK.of_body Try.func69 (by kernel_rfl) rfl (C := (mkCtx tyL [(57, subsetSize_sp), (68, treeMask_sp), (69, (treeCost_spn fuel))])) hC.ty (by kernel_rfl) ?_; intro (g : Graph) (t : JoinTree) hwf hpre E; have hpre : (VG g ∧ treeMask t (length g.Rows : Int) ≠ 0) ∧ SizeOf.sizeOf t < fuel + 1 := hpre; have hV : VG g := hpre.1.1; have h5 := hV.n5; have ht := mask_b (n := (length g.Rows : Int)) (by omega) (SizeOf.sizeOf t + 1) t; change 0 ≤ treeMask _ _ ∧ treeMask _ _ < 32 at ht; have he := JoinTree.eta t; have e0 : treeCost_r (fuel + 1) g t = treeCost_r (fuel + 1) g t := rfl; refine seq (r1 hC [2, 3] [8, 12] ⟨[(2, .ref 8 1 0), (3, .ref 12 1 0)], [(8, .box 1 [.data (.slice (.int .i64)) ((Graph.Rows g) : List Int), .data (.slice (.named 0)) ((Graph.Edges g) : List Edge)]), (12, .box 1 [.int .i64 (JoinTree.Leaf t), .data (.slice (.named 3)) ((JoinTree.Kids t) : List JoinTree)])]⟩ ?_); refine seq (seq (r1U hC [2, 3, 8] [8, 12] [(8, .bool ((length (JoinTree.Kids t) : Int) == 0))] [] ?_)); refine cdE e0 ?_ ?_
 · intro h1q e2; refine seq (r1 hC [4] [] ⟨[(4, .int .i64 0)], []⟩ ?_); exact ret (rS (.int .i64) e2)
 ·
  intro h3q e4; refine kpU [2, 3] [8, 12] [] [] ?_; refine AW.skip (seq (d0 hC hM [4] [] ⟨[(4, .int .i64 (((subsetSize g (treeMask (JoinTree.mk (JoinTree.Leaf t) (JoinTree.Kids t)) (length (Graph.Rows g) : Int))) + ((treeCost_r fuel) g (getD (JoinTree.Kids t) 0 JoinTree.zero))) + ((treeCost_r fuel) g (getD (JoinTree.Kids t) 1 JoinTree.zero))))], []⟩ [(0 ≤ (length (Graph.Rows g) : Int) ∧ (length (Graph.Rows g) : Int) ≤ 5), (VG g ∧ 0 ≤ (treeMask (JoinTree.mk (JoinTree.Leaf t) (JoinTree.Kids t)) (length (Graph.Rows g) : Int))), (0 ≤ (0 : Int) ∧ (0 : Int) < (length (JoinTree.Kids t) : Int)), ((VG g ∧ treeMask (getD (JoinTree.Kids t) 0 JoinTree.zero) (length g.Rows : Int) ≠ 0) ∧ SizeOf.sizeOf (getD (JoinTree.Kids t) 0 JoinTree.zero) < fuel), (-9223372036854775808 ≤ ((subsetSize g (treeMask (JoinTree.mk (JoinTree.Leaf t) (JoinTree.Kids t)) (length (Graph.Rows g) : Int))) + ((treeCost_r fuel) g (getD (JoinTree.Kids t) 0 JoinTree.zero))) ∧ ((subsetSize g (treeMask (JoinTree.mk (JoinTree.Leaf t) (JoinTree.Kids t)) (length (Graph.Rows g) : Int))) + ((treeCost_r fuel) g (getD (JoinTree.Kids t) 0 JoinTree.zero))) ≤ 9223372036854775807), (0 ≤ (1 : Int) ∧ (1 : Int) < (length (JoinTree.Kids t) : Int)), ((VG g ∧ treeMask (getD (JoinTree.Kids t) 1 JoinTree.zero) (length g.Rows : Int) ≠ 0) ∧ SizeOf.sizeOf (getD (JoinTree.Kids t) 1 JoinTree.zero) < fuel), (-9223372036854775808 ≤ (((subsetSize g (treeMask (JoinTree.mk (JoinTree.Leaf t) (JoinTree.Kids t)) (length (Graph.Rows g) : Int))) + ((treeCost_r fuel) g (getD (JoinTree.Kids t) 0 JoinTree.zero))) + ((treeCost_r fuel) g (getD (JoinTree.Kids t) 1 JoinTree.zero))) ∧ (((subsetSize g (treeMask (JoinTree.mk (JoinTree.Leaf t) (JoinTree.Kids t)) (length (Graph.Rows g) : Int))) + ((treeCost_r fuel) g (getD (JoinTree.Kids t) 0 JoinTree.zero))) + ((treeCost_r fuel) g (getD (JoinTree.Kids t) 1 JoinTree.zero))) ≤ 9223372036854775807)] ?_ ?_))
  ·
   exact ⟨(by omega), (by rw [he]; exact ⟨hV, ht.1⟩), (by (have hk : t.Kids.length ≠ 0 := by omega); have j := join2 hk hpre.1.2; have j2 := j.two; omega), (by (have hk : t.Kids.length ≠ 0 := by omega); have j := join2 hk hpre.1.2; have j2 := j.two; (exact ⟨⟨hV, by first | exact j.ne0 | exact j.ne1⟩, Nat.lt_of_lt_of_le (kid_lt (by omega)) (Nat.le_of_lt_succ hpre.2)⟩)), (by (have hk : t.Kids.length ≠ 0 := by omega); have j := join2 hk hpre.1.2; have s := sSize_b hV ht.1 ht.2; have a := cost_in hV fuel _ j.ne0; have b := cost_in hV fuel _ j.ne1; rw [he]; omega), (by (have hk : t.Kids.length ≠ 0 := by omega); have j := join2 hk hpre.1.2; have j2 := j.two; omega), (by (have hk : t.Kids.length ≠ 0 := by omega); have j := join2 hk hpre.1.2; have j2 := j.two; (exact ⟨⟨hV, by first | exact j.ne0 | exact j.ne1⟩, Nat.lt_of_lt_of_le (kid_lt (by omega)) (Nat.le_of_lt_succ hpre.2)⟩)), (by (have hk : t.Kids.length ≠ 0 := by omega); have j := join2 hk hpre.1.2; have s := sSize_b hV ht.1 ht.2; have a := cost_in hV fuel _ j.ne0; have b := cost_in hV fuel _ j.ne1; rw [he]; omega), trivial⟩
  exact ret (rS (.int .i64) e4)

theorem treeCost_fu : AllTV (treeCost_sp.ps.map PK.ty) (fun tvs => treeCost_sp.pre tvs → ∃ k, (treeCost_spn k).pre tvs ∧ (treeCost_spn k).fn tvs = treeCost_sp.fn tvs ∧ (treeCost_spn k).bx tvs = treeCost_sp.bx tvs) :=
 (fun (g : Graph) (t : JoinTree) h => ⟨SizeOf.sizeOf t + 1, (show (VG g ∧ treeMask t (length g.Rows : Int) ≠ 0) ∧ SizeOf.sizeOf t < SizeOf.sizeOf t + 1 from ⟨h, Nat.lt_succ_self _⟩), (show (treeCost_spn (SizeOf.sizeOf t + 1)).fn [⟨(.named 1), (g : Graph)⟩, ⟨(.named 3), (t : JoinTree)⟩] = ([⟨(.int .i64), (treeCost_r (SizeOf.sizeOf t + 1) g t)⟩] : List TV) from by kernel_rfl).trans (show ([⟨(.int .i64), (treeCost_r (SizeOf.sizeOf t + 1) g t)⟩] : List TV) = treeCost_sp.fn [⟨(.named 1), (g : Graph)⟩, ⟨(.named 3), (t : JoinTree)⟩] from by kernel_rfl), by kernel_rfl⟩)

theorem treeCost_ok : FnOK Try.prog 69 treeCost_sp := FnOK.of_fuel treeCost_okn (fun _ => rfl) (fun _ => rfl) (AllTV.get treeCost_fu)

end
end Go.Proofs.Ytgbapklfgjnggaa
