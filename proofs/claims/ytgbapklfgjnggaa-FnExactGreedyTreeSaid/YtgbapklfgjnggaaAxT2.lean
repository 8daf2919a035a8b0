/-
  A part of the proof of this claim (AxT2): what functions of the program compute, and plain facts of that. No conditions.
-/
import Derived.Test.YtgbapklfgjnggaaAxX
import Derived.Test.YtgbapklfgjnggaaAnU
set_option linter.all false
namespace Go.Proofs.Ytgbapklfgjnggaa
open Go Go.Am
open Go.Am.AW (seq r1U ret kpU cdE r0U meet block bk exit lpB)
open List (length getD set)
noncomputable section

theorem kids_szL {a : List JoinTree} {i : Nat} (hi : i < a.length) : SizeOf.sizeOf (getD a i JoinTree.zero).Kids < SizeOf.sizeOf a := by
 have h1 := List.sizeOf_lt_of_mem (getD_mem a i JoinTree.zero hi); generalize getD a i JoinTree.zero = x at *
 cases x with
 | mk l ks => simp only [JoinTree.mk.sizeOf_spec, JoinTree.Kids] at *; omega


def markJoinTreeS_l0 (self : List JoinTree → Int → List JoinTree × Int) : Nat → Int → Nat → (List JoinTree) → Int × (List JoinTree)
 | 0, k1, i, a1 => (k1, a1)
 | k + 1, k1, i, a1 => (bif (decide ((i : Int) < (length a1 : Int))) then (markJoinTreeS_l0 self k ((self (JoinTree.Kids (getD (set a1 i (JoinTree.mk k1 (JoinTree.Kids (getD a1 i JoinTree.zero)))) i JoinTree.zero)) (IntKind.wrap .i64 (k1 + 1))).2) (i + 1) (set a1 i (JoinTree.mk k1 ((self (JoinTree.Kids (getD a1 i JoinTree.zero)) (IntKind.wrap .i64 (k1 + 1))).1)))) else (k1, a1))

def markJoinTreeS_r : Nat → List JoinTree → Int → List JoinTree × Int
 | 0, a, k0 => (a, k0)
 | fuel + 1, a, k0 => (andThen (markJoinTreeS_l0 (markJoinTreeS_r fuel) ((length a) - 0 + 1) k0 0 a) (fun z => (fun (k1 : Int) (a1 : List JoinTree) => (a1, k1)) z.1 z.2))

def markJoinTreeS (a : List JoinTree) (k0 : Int) : List JoinTree × Int := markJoinTreeS_r (SizeOf.sizeOf a + 1) a k0

theorem markJoinTreeS_l0_len (self : List JoinTree → Int → List JoinTree × Int) : ∀ (n : Nat) (k : Int) (i : Nat) (a : List JoinTree), (markJoinTreeS_l0 self n k i a).2.length = a.length := by
 intro n
 induction n with
 | zero => intro k i a; rfl
 | succ n ih =>
  intro k i a; unfold markJoinTreeS_l0
  cases decide ((i : Int) < (length a : Int)) with
  | true => rw [cond_true, ih]; simp only [List.length_set]
  | false => rfl

theorem markJoinTreeS_okn (fuel : Nat) : MarkC Try.prog 76 (.named 3) (fun (a : List JoinTree) _ => SizeOf.sizeOf a < fuel) (markJoinTreeS_r fuel) := by
 induction fuel with
 | zero => exact ⟨⟨_, _, Try.func76, by kernel_rfl, rfl⟩, fun _ _ => rfl, fun _ _ _ _ _ _ _ h _ => absurd h (Nat.not_lt_zero _)⟩
 | succ fuel ih => ?_
 have hC : CtxOK Try.prog { mkCtx tyL [] with deep := true } := CtxOK.deepen (CtxOK.nil tyOK); refine MarkC.of_body noGlob Try.func76 (by kernel_rfl) rfl (C := { mkCtx tyL [] with deep := true }) hC.ty (by kernel_rfl) (fun a k0 => markJoinTreeS_l0_len (markJoinTreeS_r fuel) _ k0 0 a) ?_; intro (a : List JoinTree) (k0 : Int) hl hk hpre E; have hl : (length a : Int) ≤ 4294967296 := hl; have hk : -9223372036854775808 ≤ k0 ∧ k0 ≤ 9223372036854775807 := hk; have e0 : markJoinTreeS_r (fuel + 1) a k0 = markJoinTreeS_r (fuel + 1) a k0 := rfl; refine seq ?_
 refine AW.regU hC  true [] [0, 1, 1000] [0]
  [] []
  [] (by kernel_rfl) ?_ ?_
 · exact trivial
 refine seq (seq (r1U hC [0, 1, 5, 1000] [0] [(5, .int .i64 0)] [] ?_)); refine lpB (ζ := Int × (List JoinTree)) (fun x => ⟨[(1, .int .i64 x.1), (1000, .tr 0 1)], [(0, .tree 1 (.named 3) (x.2 : List JoinTree))]⟩) (fun x => length x.2 = length a) (fun x => x) (α := Int × Nat × (List JoinTree)) (fun x => ⟨[(0, .tr 0 1), (1, .int .i64 x.1), (5, .int .i64 ((x.2.1 : Nat) : Int)), (1000, .tr 0 1)], [(0, .tree 1 (.named 3) (x.2.2 : List JoinTree))]⟩) (fun x => length x.2.2 = length a ∧ ∀ j : Nat, x.2.1 ≤ j → getD x.2.2 j JoinTree.zero = getD a j JoinTree.zero) (fun x => (length x.2.2) - x.2.1) (fun k x => markJoinTreeS_l0 (markJoinTreeS_r fuel) k x.1 x.2.1 x.2.2) (k0, 0, a) (by kernel_rfl) ?_ ?_ ?_
 · exact ⟨rfl, fun j _ => rfl⟩
 ·
  intro x k15q hI0 hk13 e14; obtain ⟨k1, i, a1⟩ := x; dsimp only at e14; replace hI0 : length a1 = length a ∧ ∀ j : Nat, i ≤ j → getD a1 j JoinTree.zero = getD a j JoinTree.zero := hI0; refine seq (seq ?_)
  refine AW.regU hC  true [] [0, 1, 5, 9, 1000] [0]
   [(9, .bool (decide ((i : Int) < (length a1 : Int))))] []
   [] (by kernel_rfl) ?_ ?_
  · exact trivial
  refine cdE e14 ?_ ?_
  ·
   intro h16q e17; refine kpU [0, 1, 5, 1000] [0] [] [] ?_; refine AW.skip (seq (block (seq ?_)))
   refine AW.regU hC  true [] [0, 1, 5, 1000] [0]
    [] [(0, .tree 1 (.named 3) ((set a1 i (JoinTree.mk k1 (JoinTree.Kids (getD a1 i JoinTree.zero)))) : List JoinTree))]
    [(0 ≤ (i : Int) ∧ (i : Int) < (length a1 : Int))] (by kernel_rfl) ?_ ?_
   ·
    exact ⟨(by omega), trivial⟩
   refine seq ?_
   refine AW.regU hC  true [] [0, 1, 5, 1000] [0]
    [(1, .int .i64 (IntKind.wrap .i64 (k1 + 1)))] []
    [] (by kernel_rfl) ?_ ?_
   · exact trivial
   refine AW.regionO [0, 1, 2, 3, 4, 5, 6, 7] (by rfl) ?_
   refine AWO.runU hC false [] [0, 1, 2, 3] [4, 5, 6, 7] [0, 1, 5, 22, 1000] [0]
    [(22, .tref 0 1 i [1])] []
    [(0 ≤ (i : Int) ∧ (i : Int) < (length (set a1 i (JoinTree.mk k1 (JoinTree.Kids (getD a1 i JoinTree.zero)))) : Int))] (by rfl) (by kernel_rfl) ?_ ?_
   ·
    exact ⟨(by (simp only [lens] at *; omega)), trivial⟩
   refine AWO.markAt (u := (.named 3)) (id := 0) (ep := 1) (i := i) (p := [1]) (xs := ((set a1 i (JoinTree.mk k1 (JoinTree.Kids (getD a1 i JoinTree.zero)))) : List JoinTree)) (ys := ((JoinTree.Kids (getD (set a1 i (JoinTree.mk k1 (JoinTree.Kids (getD a1 i JoinTree.zero)))) i JoinTree.zero)) : List JoinTree)) (k := (IntKind.wrap .i64 (k1 + 1))) ih hC.ty ((JoinTree.mk (JoinTree.Leaf (getD (set a1 i (JoinTree.mk k1 (JoinTree.Kids (getD a1 i JoinTree.zero)))) i JoinTree.zero)) (((markJoinTreeS_r fuel) (JoinTree.Kids (getD (set a1 i (JoinTree.mk k1 (JoinTree.Kids (getD a1 i JoinTree.zero)))) i JoinTree.zero)) (IntKind.wrap .i64 (k1 + 1))).1)) : JoinTree) (by rfl) (by rfl) (by rfl) (by rfl) (by kernel_rfl) (by kernel_rfl) (by kernel_rfl) (by kernel_rfl) (by kernel_rfl) (by kernel_rfl) (by kernel_rfl) (by kernel_rfl) (by kernel_rfl) (by kernel_rfl) ?_ ?_
   · (have hi : i < a1.length := by omega); simp only [lgetD_set_eq, List.length_set, hi, JoinTree.Kids]; have hi2 := hI0.1; rw [hI0.2 i (Nat.le_refl _)]; exact Nat.lt_of_lt_of_le (kids_szL (by omega)) (Nat.le_of_lt_succ hpre)
   refine AWO.keepU [0, 5, 25, 1000] [0] [(25, .int .i64 ((markJoinTreeS_r fuel) (JoinTree.Kids (getD (set a1 i (JoinTree.mk k1 (JoinTree.Kids (getD a1 i JoinTree.zero)))) i JoinTree.zero)) (IntKind.wrap .i64 (k1 + 1))).2)] [(0, .tree 1 (.named 3) ((set (set a1 i (JoinTree.mk k1 (JoinTree.Kids (getD a1 i JoinTree.zero)))) i (JoinTree.mk (JoinTree.Leaf (getD (set a1 i (JoinTree.mk k1 (JoinTree.Kids (getD a1 i JoinTree.zero)))) i JoinTree.zero)) (((markJoinTreeS_r fuel) (JoinTree.Kids (getD (set a1 i (JoinTree.mk k1 (JoinTree.Kids (getD a1 i JoinTree.zero)))) i JoinTree.zero)) (IntKind.wrap .i64 (k1 + 1))).1))) : List JoinTree))] (by kernel_rfl) ?_
   refine AWO.runU hC false [] [7] [] [0, 1, 5, 1000] [0]
    [(1, .int .i64 ((markJoinTreeS_r fuel) (JoinTree.Kids (getD (set a1 i (JoinTree.mk k1 (JoinTree.Kids (getD a1 i JoinTree.zero)))) i JoinTree.zero)) (IntKind.wrap .i64 (k1 + 1))).2)] []
    [] (by rfl) (by kernel_rfl) ?_ ?_
   · exact trivial
   refine AWO.nil ?_; (refine AW.retree (ys := ((set a1 i (JoinTree.mk k1 (((markJoinTreeS_r fuel) (JoinTree.Kids (getD a1 i JoinTree.zero)) (IntKind.wrap .i64 (k1 + 1))).1))) : List JoinTree)) (set_twice (fun y : JoinTree => (JoinTree.mk (JoinTree.Leaf y) (((markJoinTreeS_r fuel) (JoinTree.Kids y) (IntKind.wrap .i64 (k1 + 1))).1))) (by first | omega | (simp only [List.length_set]; omega))) ?_); refine r0U hC [0, 1, 5, 1000] [0] [(5, .int .i64 ((i + 1 : Nat) : Int))] [] [(-9223372036854775808 ≤ ((i + 1 : Nat) : Int) ∧ ((i + 1 : Nat) : Int) ≤ 9223372036854775807)] ?_ ?_
   ·
    exact ⟨(by omega), trivial⟩
   refine bk (((markJoinTreeS_r fuel) (JoinTree.Kids (getD (set a1 i (JoinTree.mk k1 (JoinTree.Kids (getD a1 i JoinTree.zero)))) i JoinTree.zero)) (IntKind.wrap .i64 (k1 + 1))).2, i + 1, (set a1 i (JoinTree.mk k1 (((markJoinTreeS_r fuel) (JoinTree.Kids (getD a1 i JoinTree.zero)) (IntKind.wrap .i64 (k1 + 1))).1)))) e17 hk13 ?_ ?_
   · dsimp only; refine ⟨by simp only [List.length_set]; exact hI0.1, fun j hj => ?_⟩; (repeat rw [lgetD_set_ne (by omega)]); exact hI0.2 j (by omega)
   · simp only [lens]; omega
  · intro h18q e19; refine kpU [1, 1000] [0] [] [] ?_; refine exit ?_; refine meet (k1, a1) (by kernel_rfl) ⟨?_, e19⟩; dsimp only; omega
 ·
  intro x hJ0 e20; obtain ⟨k1, a1⟩ := x; have e21 := e0.trans (then_eq e20); dsimp only at e21; refine seq ?_
  refine AW.regU hC  true [] [4, 1000] [0]
   [(4, .int .i64 k1)] []
   [] (by kernel_rfl) ?_ ?_
  · exact trivial
  exact ret (AW.retM (ys := a1) (k := k1) e21 (by kernel_rfl) (by kernel_rfl) (by kernel_rfl))

theorem markJoinTreeS_ok : MarkC Try.prog 76 (.named 3) (fun _ _ => True) markJoinTreeS := MarkC.of_fuel markJoinTreeS_okn (fun (a : List JoinTree) => SizeOf.sizeOf a)

end
end Go.Proofs.Ytgbapklfgjnggaa


namespace Go.Proofs.Ytgbapklfgjnggaa
open Go Go.Am
open Go.Am.AW (seq r1U ret kpU cdE r0U r1 meet block rS bk exit lpB r0 d0U)
open List (length getD)
noncomputable section

def heldJoinTreeS_l0 (self : (List JoinTree) → Int → Int) (a : List JoinTree) : Nat → Int → Nat → Int ⊕ Int
 | 0, k1, i => .inl k1
 | k + 1, k1, i => (bif (decide ((i : Int) < (length a : Int))) then (bif ((JoinTree.Leaf (getD a i JoinTree.zero)) != k1) then (.inr (-1)) else (bif (decide ((self (JoinTree.Kids (getD a i JoinTree.zero)) (IntKind.wrap .i64 (k1 + 1))) < 0)) then (.inr (-1)) else (heldJoinTreeS_l0 self a k (self (JoinTree.Kids (getD a i JoinTree.zero)) (IntKind.wrap .i64 (k1 + 1))) (i + 1)))) else (.inl k1))

def heldJoinTreeS_r : Nat → (List JoinTree) → Int → Int
 | 0, a, k0 => 0
 | fuel + 1, a, k0 => (Sum.elim (fun z => (fun (k1 : Int) => k1) z) (fun r => r) (heldJoinTreeS_l0 (heldJoinTreeS_r fuel) a ((length a) - 0 + 1) k0 0))

def heldJoinTreeS (a : List JoinTree) (k0 : Int) : Int := heldJoinTreeS_r (SizeOf.sizeOf a + 1) a k0

def heldJoinTreeS_spn (fuel : Nat) : FnSpec := mkSpec [.val (.slice (.named 3)), .val (.int .i64)] [.val (.int .i64)] (fun (a : List JoinTree) (k0 : Int) => (True) ∧ SizeOf.sizeOf a < fuel) (fun (a : List JoinTree) (k0 : Int) => [⟨(.int .i64), (heldJoinTreeS_r fuel a k0)⟩])

def heldJoinTreeS_sp : FnSpec := mkSpec [.val (.slice (.named 3)), .val (.int .i64)] [.val (.int .i64)] (fun (a : List JoinTree) (k0 : Int) => True) (fun (a : List JoinTree) (k0 : Int) => [⟨(.int .i64), (heldJoinTreeS a k0)⟩])

theorem heldJoinTreeS_okn (fuel : Nat) : FnOK Try.prog 77 (heldJoinTreeS_spn fuel) := by
 induction fuel with
 | zero => exact FnOK.never Try.func77 (by kernel_rfl) rfl (fun _ _ h => absurd h.2 (Nat.not_lt_zero _))
 | succ fuel ih => ?_
 have hC : CtxOK Try.prog (mkCtx tyL [(77, (heldJoinTreeS_spn fuel))]) := CtxOK.cons ih (CtxOK.nil tyOK); refine FnOK.of_body Try.func77 (by kernel_rfl) rfl (C := (mkCtx tyL [(77, (heldJoinTreeS_spn fuel))])) hC.ty (by kernel_rfl) ?_; intro (a : List JoinTree) (k0 : Int) hwf hpre E; have hw_a : Wf ⟨(.slice (.named 3)), (a : List JoinTree)⟩ := hwf _ (List.Mem.head _); have hl_a : (length a : Int) ≤ 9223372036854775807 := hw_a.len; have hw_k0 : Wf ⟨(.int .i64), (k0 : Int)⟩ := hwf _ (List.Mem.tail _ (List.Mem.head _)); have hr_k0 : -9223372036854775808 ≤ k0 ∧ k0 ≤ 9223372036854775807 := hw_k0.int_inv; have e0 : heldJoinTreeS_r (fuel + 1) a k0 = heldJoinTreeS_r (fuel + 1) a k0 := rfl; refine seq ?_
 refine AW.regU hC  true [] [0, 1] []
  [] []
  [] (by kernel_rfl) ?_ ?_
 · exact trivial
 refine seq (seq (r1U hC [0, 1, 5] [] [(5, .int .i64 0)] [] ?_)); refine lpB (ζ := Int) (fun x => ⟨[(1, .int .i64 x)], []⟩) (fun x => True) (fun x => (.inl x)) (α := Int × Nat) (fun x => ⟨[(0, .data (.slice (.named 3)) (a : List JoinTree)), (1, .int .i64 x.1), (5, .int .i64 ((x.2 : Nat) : Int))], []⟩) (fun x => True) (fun x => (length a) - x.2) (fun k x => heldJoinTreeS_l0 (heldJoinTreeS_r fuel) a k x.1 x.2) (k0, 0) (by kernel_rfl) ?_ ?_ ?_
 · exact trivial
 ·
  intro x k45q hI0 hk43 e44; obtain ⟨k1, i⟩ := x; refine seq (seq ?_)
  refine AW.regU hC  true [] [0, 1, 5, 9] []
   [(9, .bool (decide ((i : Int) < (length a : Int))))] []
   [] (by kernel_rfl) ?_ ?_
  · exact trivial
  refine cdE e44 ?_ ?_
  ·
   intro h46q e47; refine kpU [0, 1, 5] [] [] [] ?_; refine AW.skip (seq (block (seq (seq ?_))))
   refine AW.regU hC  true [] [0, 1, 5, 18] []
    [(18, .bool ((JoinTree.Leaf (getD a i JoinTree.zero)) != k1))] []
    [(0 ≤ (i : Int) ∧ (i : Int) < (length a : Int))] (by kernel_rfl) ?_ ?_
   ·
    exact ⟨(by omega), trivial⟩
   refine cdE e47 ?_ ?_
   ·
    intro h48q e49; refine seq ?_
    refine AW.reg hC  true [] [4] []
     ⟨[(4, .int .i64 (-1))], []⟩
     [] (by kernel_rfl) ?_ ?_
    · exact trivial
    refine ret ?_; have e50 := e0.trans (elim_r e49); exact rS (.int .i64) e50
   ·
    intro h51q e52; refine kpU [0, 1, 5] [] [] [] ?_; refine AW.skip (seq ?_)
    refine AW.regU hC  true [] [0, 1, 5] []
     [(1, .int .i64 (IntKind.wrap .i64 (k1 + 1)))] []
     [] (by kernel_rfl) ?_ ?_
    · exact trivial
    refine seq ?_
    refine AW.regU hC  true [] [0, 1, 5] []
     [(1, .int .i64 ((heldJoinTreeS_r fuel) (JoinTree.Kids (getD a i JoinTree.zero)) (IntKind.wrap .i64 (k1 + 1))))] []
     [(0 ≤ (i : Int) ∧ (i : Int) < (length a : Int)), ((True) ∧ SizeOf.sizeOf (JoinTree.Kids (getD a i JoinTree.zero)) < fuel)] (by kernel_rfl) ?_ ?_
    ·
     exact ⟨(by omega), (⟨trivial, Nat.lt_of_lt_of_le (kids_szL (by omega)) (Nat.le_of_lt_succ hpre.2)⟩), trivial⟩
    refine seq ?_
    refine AW.regU hC  true [] [0, 1, 5, 29] []
     [(29, .bool (decide (((heldJoinTreeS_r fuel) (JoinTree.Kids (getD a i JoinTree.zero)) (IntKind.wrap .i64 (k1 + 1))) < 0)))] []
     [] (by kernel_rfl) ?_ ?_
    · exact trivial
    refine cdE e52 ?_ ?_
    ·
     intro h53q e54; refine seq ?_
     refine AW.reg hC  true [] [4] []
      ⟨[(4, .int .i64 (-1))], []⟩
      [] (by kernel_rfl) ?_ ?_
     · exact trivial
     refine ret ?_; have e55 := e0.trans (elim_r e54); exact rS (.int .i64) e55
    ·
     intro h56q e57; refine kpU [0, 1, 5] [] [] [] ?_; refine AW.skip (r0U hC [0, 1, 5] [] [(5, .int .i64 ((i + 1 : Nat) : Int))] [] [(-9223372036854775808 ≤ ((i + 1 : Nat) : Int) ∧ ((i + 1 : Nat) : Int) ≤ 9223372036854775807)] ?_ ?_)
     ·
      exact ⟨(by omega), trivial⟩
     refine bk (((heldJoinTreeS_r fuel) (JoinTree.Kids (getD a i JoinTree.zero)) (IntKind.wrap .i64 (k1 + 1))), i + 1) e57 hk43 ?_ ?_
     · assumption
     · omega
  · intro h58q e59; refine kpU [1] [] [] [] ?_; refine exit ?_; refine meet k1 (by kernel_rfl) ⟨?_, e59⟩; assumption
 ·
  intro k1 hJ0 e60; have e61 := e0.trans (elim_l e60); refine seq ?_
  refine AW.reg hC  true [] [4] []
   ⟨[(4, .int .i64 k1)], []⟩
   [] (by kernel_rfl) ?_ ?_
  · exact trivial
  exact ret (rS (.int .i64) e61)

theorem heldJoinTreeS_fu : AllTV (heldJoinTreeS_sp.ps.map PK.ty) (fun tvs => heldJoinTreeS_sp.pre tvs → ∃ k, (heldJoinTreeS_spn k).pre tvs ∧ (heldJoinTreeS_spn k).fn tvs = heldJoinTreeS_sp.fn tvs ∧ (heldJoinTreeS_spn k).bx tvs = heldJoinTreeS_sp.bx tvs) :=
 (fun (a : List JoinTree) (k0 : Int) h => ⟨SizeOf.sizeOf a + 1, (show (True) ∧ SizeOf.sizeOf a < SizeOf.sizeOf a + 1 from ⟨h, Nat.lt_succ_self _⟩), (show (heldJoinTreeS_spn (SizeOf.sizeOf a + 1)).fn [⟨(.slice (.named 3)), (a : List JoinTree)⟩, ⟨(.int .i64), (k0 : Int)⟩] = ([⟨(.int .i64), (heldJoinTreeS_r (SizeOf.sizeOf a + 1) a k0)⟩] : List TV) from by kernel_rfl).trans (show ([⟨(.int .i64), (heldJoinTreeS_r (SizeOf.sizeOf a + 1) a k0)⟩] : List TV) = heldJoinTreeS_sp.fn [⟨(.slice (.named 3)), (a : List JoinTree)⟩, ⟨(.int .i64), (k0 : Int)⟩] from by kernel_rfl), by kernel_rfl⟩)

theorem heldJoinTreeS_ok : FnOK Try.prog 77 heldJoinTreeS_sp := FnOK.of_fuel heldJoinTreeS_okn (fun _ => rfl) (fun _ => rfl) (AllTV.get heldJoinTreeS_fu)

def heldJoinTree (a : JoinTree) (k0 : Int) : Int := (bif (decide ((heldJoinTreeS (JoinTree.Kids a) k0) < 0)) then (-1) else (heldJoinTreeS (JoinTree.Kids a) k0))

def heldJoinTree_sp : FnSpec := mkSpec [.val (.named 3), .val (.int .i64)] [.val (.int .i64)] (fun (a : JoinTree) (k0 : Int) => True) (fun (a : JoinTree) (k0 : Int) => [⟨(.int .i64), (heldJoinTree a k0)⟩])

theorem heldJoinTree_ok : FnOK Try.prog 45 heldJoinTree_sp := by
 have hC : CtxOK Try.prog (mkCtx tyL [(77, heldJoinTreeS_sp)]) := CtxOK.cons heldJoinTreeS_ok (CtxOK.nil tyOK); refine FnOK.of_body Try.func45 (by kernel_rfl) rfl (C := (mkCtx tyL [(77, heldJoinTreeS_sp)])) hC.ty (by kernel_rfl) ?_; intro (a : JoinTree) (k0 : Int) hwf hpre E; have e0 : heldJoinTree a k0 = heldJoinTree a k0 := rfl; refine seq ?_
 refine AW.regU hC  true [] [1, 2] [8]
  [(2, .ref 8 1 0)] [(8, .box 1 [.int .i64 (JoinTree.Leaf a), .data (.slice (.named 3)) ((JoinTree.Kids a) : List JoinTree)])]
  [] (by kernel_rfl) ?_ ?_
 · exact trivial
 refine seq (r0 hC [1] [] ⟨[(1, .int .i64 (heldJoinTreeS (JoinTree.Kids a) k0))], []⟩ [(True)] ?_ ?_)
 ·
  exact ⟨trivial, trivial⟩
 refine seq (seq ?_)
 refine AW.regU hC  true [] [1, 10] []
  [(10, .bool (decide ((heldJoinTreeS (JoinTree.Kids a) k0) < 0)))] []
  [] (by kernel_rfl) ?_ ?_
 · exact trivial
 refine cdE e0 ?_ ?_
 ·
  intro h1q e2; refine seq ?_
  refine AW.reg hC  true [] [4] []
   ⟨[(4, .int .i64 (-1))], []⟩
   [] (by kernel_rfl) ?_ ?_
  · exact trivial
  exact ret (rS (.int .i64) e2)
 ·
  intro h3q e4; refine kpU [1] [] [] [] ?_; refine AW.skip (seq ?_)
  refine AW.reg hC  true [] [4] []
   ⟨[(4, .int .i64 (heldJoinTreeS (JoinTree.Kids a) k0))], []⟩
   [] (by kernel_rfl) ?_ ?_
  · exact trivial
  exact ret (rS (.int .i64) e4)

end
end Go.Proofs.Ytgbapklfgjnggaa
