/-
  A part of the proof of this claim (AxT1): what functions of the program compute, and plain facts of that. No conditions.
-/
import Derived.Test.YtgbapklfgjnggaaAxX
import Derived.Test.YtgbapklfgjnggaaAnU
set_option linter.all false
namespace Go.Proofs.Ytgbapklfgjnggaa
open Go Go.Am
noncomputable section

theorem kids_szL {a : List JoinTree} {i : Nat} (hi : i < a.length) : SizeOf.sizeOf (List.getD a i JoinTree.zero).Kids < SizeOf.sizeOf a := by
 have h1 := List.sizeOf_lt_of_mem (getD_mem a i JoinTree.zero hi)
 generalize List.getD a i JoinTree.zero = x at *
 cases x with
 | mk l ks => simp only [JoinTree.mk.sizeOf_spec, JoinTree.Kids] at *; omega


def markJoinTreeS_l0 (self : List JoinTree → Int → List JoinTree × Int) : Nat → Int → Nat → (List JoinTree) → Int × (List JoinTree)
 | 0, k1, i, a1 => (k1, a1)
 | k + 1, k1, i, a1 => (bif (decide (((i : Nat) : Int) < ((List.length a1 : Nat) : Int))) then (markJoinTreeS_l0 self k ((self (JoinTree.Kids (List.getD (List.set a1 i (JoinTree.mk k1 (JoinTree.Kids (List.getD a1 i JoinTree.zero)))) i JoinTree.zero)) (IntKind.wrap .i64 (k1 + 1))).2) (i + 1) (List.set a1 i (JoinTree.mk k1 ((self (JoinTree.Kids (List.getD a1 i JoinTree.zero)) (IntKind.wrap .i64 (k1 + 1))).1)))) else (k1, a1))

def markJoinTreeS_r : Nat → List JoinTree → Int → List JoinTree × Int
 | 0, a, k0 => (a, k0)
 | fuel + 1, a, k0 => (Go.Am.andThen (markJoinTreeS_l0 (markJoinTreeS_r fuel) ((List.length a) - 0 + 1) k0 0 a) (fun z => (fun (k1 : Int) (a1 : List JoinTree) => (a1, k1)) z.1 z.2))

def markJoinTreeS (a : List JoinTree) (k0 : Int) : List JoinTree × Int := markJoinTreeS_r (SizeOf.sizeOf a + 1) a k0

theorem markJoinTreeS_l0_len (self : List JoinTree → Int → List JoinTree × Int) : ∀ (n : Nat) (k : Int) (i : Nat) (a : List JoinTree), (markJoinTreeS_l0 self n k i a).2.length = a.length := by
 intro n
 induction n with
 | zero => intro k i a; rfl
 | succ n ih =>
  intro k i a
  unfold markJoinTreeS_l0
  cases decide (((i : Nat) : Int) < ((List.length a : Nat) : Int)) with
  | true => rw [cond_true, ih]; simp only [List.length_set]
  | false => rfl

theorem markJoinTreeS_okn (fuel : Nat) : MarkC Try.prog 76 (.named 3) (fun (a : List JoinTree) _ => SizeOf.sizeOf a < fuel) (markJoinTreeS_r fuel) := by
 induction fuel with
 | zero => exact ⟨⟨_, _, Try.func76, by kernel_rfl, rfl⟩, fun _ _ => rfl, fun _ _ _ _ _ _ _ h _ => absurd h (Nat.not_lt_zero _)⟩
 | succ fuel ih => ?_
 have hC : CtxOK Try.prog { mkCtx tyL [] with deep := true } := CtxOK.deepen (CtxOK.nil tyOK)
 refine MarkC.of_body noGlob Try.func76 (by kernel_rfl) rfl (C := { mkCtx tyL [] with deep := true }) hC.ty (by kernel_rfl) (fun a k0 => markJoinTreeS_l0_len (markJoinTreeS_r fuel) _ k0 0 a) ?_
 intro (a : List JoinTree) (k0 : Int) hl hk hpre E
 have hpre : SizeOf.sizeOf a < fuel + 1 := hpre
 have hl : ((List.length a : Nat) : Int) ≤ 4294967296 := hl
 have hk : -9223372036854775808 ≤ k0 ∧ k0 ≤ 9223372036854775807 := hk
 have e0 : markJoinTreeS_r (fuel + 1) a k0 = markJoinTreeS_r (fuel + 1) a k0 := rfl
 refine AW.seq ?_
 refine AW.reg hC  true [] [0, 1, 1000] [0]
  ⟨[(0, .tr 0 1), (1, .int .i64 k0), (1000, .tr 0 1)], [(0, .tree 1 (.named 3) (a : List JoinTree))]⟩
  [] (by kernel_rfl) ?_ ?_
 ·
  exact trivial
 refine AW.seq (AW.seq (AW.r1 hC [0, 1, 5, 1000] [0] ⟨[(0, .tr 0 1), (1, .int .i64 k0), (5, .int .i64 0), (1000, .tr 0 1)], [(0, .tree 1 (.named 3) (a : List JoinTree))]⟩ ?_))
 refine AW.cutQ (α := Int × (List JoinTree)) (fun x => ⟨[(1, .int .i64 x.1), (1000, .tr 0 1)], [(0, .tree 1 (.named 3) (x.2 : List JoinTree))]⟩) (fun x => (List.length x.2 = List.length a) ∧ (markJoinTreeS_l0 (markJoinTreeS_r fuel) ((List.length a) - 0 + 1) k0 0 a) = x) ?_ ?_
 ·
  skip
  refine AW.block (AW.loop (α := Int × Nat × (List JoinTree)) (fun x => ⟨[(0, .tr 0 1), (1, .int .i64 x.1), (5, .int .i64 ((x.2.1 : Nat) : Int)), (1000, .tr 0 1)], [(0, .tree 1 (.named 3) (x.2.2 : List JoinTree))]⟩) (fun x => (List.length x.2.2 = List.length a ∧ ∀ j : Nat, x.2.1 ≤ j → List.getD x.2.2 j JoinTree.zero = List.getD a j JoinTree.zero) ∧ ∃ k, (List.length x.2.2) - x.2.1 < k ∧ (markJoinTreeS_l0 (markJoinTreeS_r fuel) ((List.length a) - 0 + 1) k0 0 a) = markJoinTreeS_l0 (markJoinTreeS_r fuel) k x.1 x.2.1 x.2.2) (fun x => (List.length x.2.2) - x.2.1) (k0, 0, a) (by kernel_rfl) ⟨?_, _, Nat.lt_succ_self _, rfl⟩ ?_)
  ·
   show List.length a = List.length a ∧ ∀ j : Nat, 0 ≤ j → List.getD a j JoinTree.zero = List.getD a j JoinTree.zero
   exact ⟨rfl, fun j _ => rfl⟩
  ·
   intro x hR
   obtain ⟨k1, i, a1⟩ := x
   obtain ⟨hI0, k15, hk13, e14⟩ := hR
   replace hI0 : List.length a1 = List.length a ∧ ∀ j : Nat, i ≤ j → List.getD a1 j JoinTree.zero = List.getD a j JoinTree.zero := hI0
   replace hk13 : (List.length a1) - i < k15 := hk13
   obtain ⟨k15q, rfl⟩ : ∃ k, k15 = k + 1 := ⟨k15 - 1, by omega⟩
   refine AW.seq (AW.seq ?_)
   refine AW.reg hC  true [] [0, 1, 5, 9, 1000] [0]
    ⟨[(0, .tr 0 1), (1, .int .i64 k1), (5, .int .i64 ((i : Nat) : Int)), (9, .bool (decide (((i : Nat) : Int) < ((List.length a1 : Nat) : Int)))), (1000, .tr 0 1)], [(0, .tree 1 (.named 3) (a1 : List JoinTree))]⟩
    [] (by kernel_rfl) ?_ ?_
   ·
    exact trivial
   refine AW.cd (decide (((i : Nat) : Int) < ((List.length a1 : Nat) : Int))) ?_ ?_
   ·
    intro h16
    have h16q : ((i : Nat) : Int) < ((List.length a1 : Nat) : Int) := (of_decide_eq_true h16)
    have e17 := e14.trans (Go.Am.bif_t h16)
    refine AW.kp [0, 1, 5, 1000] [0] ⟨[(0, .tr 0 1), (1, .int .i64 k1), (5, .int .i64 ((i : Nat) : Int)), (1000, .tr 0 1)], [(0, .tree 1 (.named 3) (a1 : List JoinTree))]⟩ ?_
    refine AW.skip (AW.seq (AW.block (AW.seq ?_)))
    refine AW.reg hC  true [] [0, 1, 5, 1000] [0]
     ⟨[(0, .tr 0 1), (1, .int .i64 k1), (5, .int .i64 ((i : Nat) : Int)), (1000, .tr 0 1)], [(0, .tree 1 (.named 3) ((List.set a1 i (JoinTree.mk k1 (JoinTree.Kids (List.getD a1 i JoinTree.zero)))) : List JoinTree))]⟩
     [(0 ≤ ((i : Nat) : Int) ∧ ((i : Nat) : Int) < ((List.length a1 : Nat) : Int))] (by kernel_rfl) ?_ ?_
    ·
     refine ⟨?_, trivial⟩
     ·
      omega
    refine AW.seq ?_
    refine AW.reg hC  true [] [0, 1, 5, 1000] [0]
     ⟨[(0, .tr 0 1), (1, .int .i64 (IntKind.wrap .i64 (k1 + 1))), (5, .int .i64 ((i : Nat) : Int)), (1000, .tr 0 1)], [(0, .tree 1 (.named 3) ((List.set a1 i (JoinTree.mk k1 (JoinTree.Kids (List.getD a1 i JoinTree.zero)))) : List JoinTree))]⟩
     [] (by kernel_rfl) ?_ ?_
    ·
     exact trivial
    refine AW.regionO [0, 1, 2, 3, 4, 5, 6, 7] (by rfl) ?_
    refine AWO.run hC false [] [0, 1, 2, 3] [4, 5, 6, 7] [0, 1, 5, 22, 1000] [0]
     ⟨[(0, .tr 0 1), (1, .int .i64 (IntKind.wrap .i64 (k1 + 1))), (5, .int .i64 ((i : Nat) : Int)), (22, .tref 0 1 i [1]), (1000, .tr 0 1)], [(0, .tree 1 (.named 3) ((List.set a1 i (JoinTree.mk k1 (JoinTree.Kids (List.getD a1 i JoinTree.zero)))) : List JoinTree))]⟩
     [(0 ≤ ((i : Nat) : Int) ∧ ((i : Nat) : Int) < ((List.length (List.set a1 i (JoinTree.mk k1 (JoinTree.Kids (List.getD a1 i JoinTree.zero)))) : Nat) : Int))] (by rfl) (by kernel_rfl) ?_ ?_
    ·
     refine ⟨?_, trivial⟩
     ·
      simp only [lens] at *; omega
    refine AWO.markAt (u := (.named 3)) (id := 0) (ep := 1) (i := i) (p := [1]) (xs := ((List.set a1 i (JoinTree.mk k1 (JoinTree.Kids (List.getD a1 i JoinTree.zero)))) : List JoinTree)) (ys := ((JoinTree.Kids (List.getD (List.set a1 i (JoinTree.mk k1 (JoinTree.Kids (List.getD a1 i JoinTree.zero)))) i JoinTree.zero)) : List JoinTree)) (k := (IntKind.wrap .i64 (k1 + 1))) ih hC.ty ((JoinTree.mk (JoinTree.Leaf (List.getD (List.set a1 i (JoinTree.mk k1 (JoinTree.Kids (List.getD a1 i JoinTree.zero)))) i JoinTree.zero)) (((markJoinTreeS_r fuel) (JoinTree.Kids (List.getD (List.set a1 i (JoinTree.mk k1 (JoinTree.Kids (List.getD a1 i JoinTree.zero)))) i JoinTree.zero)) (IntKind.wrap .i64 (k1 + 1))).1)) : JoinTree) (by rfl) (by rfl) (by rfl) (by rfl) (by kernel_rfl) (by kernel_rfl) (by kernel_rfl) (by kernel_rfl) (by kernel_rfl) (by kernel_rfl) (by kernel_rfl) (by kernel_rfl) (by kernel_rfl) (by kernel_rfl) ?_ ?_
    ·
     show SizeOf.sizeOf (JoinTree.Kids (List.getD (List.set a1 i (JoinTree.mk k1 (JoinTree.Kids (List.getD a1 i JoinTree.zero)))) i JoinTree.zero)) < fuel
     have hi : i < a1.length := by omega
     simp only [lgetD_set_eq, List.length_set, hi, JoinTree.Kids]
     have hi2 := hI0.1
     rw [hI0.2 i (Nat.le_refl _)]
     exact Nat.lt_of_lt_of_le (kids_szL (by omega)) (Nat.le_of_lt_succ hpre)
    refine AWO.keep [0, 5, 25, 1000] [0] ⟨[(0, .tr 0 1), (5, .int .i64 ((i : Nat) : Int)), (25, .int .i64 ((markJoinTreeS_r fuel) (JoinTree.Kids (List.getD (List.set a1 i (JoinTree.mk k1 (JoinTree.Kids (List.getD a1 i JoinTree.zero)))) i JoinTree.zero)) (IntKind.wrap .i64 (k1 + 1))).2), (1000, .tr 0 1)], [(0, .tree 1 (.named 3) ((List.set (List.set a1 i (JoinTree.mk k1 (JoinTree.Kids (List.getD a1 i JoinTree.zero)))) i (JoinTree.mk (JoinTree.Leaf (List.getD (List.set a1 i (JoinTree.mk k1 (JoinTree.Kids (List.getD a1 i JoinTree.zero)))) i JoinTree.zero)) (((markJoinTreeS_r fuel) (JoinTree.Kids (List.getD (List.set a1 i (JoinTree.mk k1 (JoinTree.Kids (List.getD a1 i JoinTree.zero)))) i JoinTree.zero)) (IntKind.wrap .i64 (k1 + 1))).1))) : List JoinTree))]⟩ (by kernel_rfl) ?_
    refine AWO.run hC false [] [7] [] [0, 1, 5, 1000] [0]
     ⟨[(0, .tr 0 1), (1, .int .i64 ((markJoinTreeS_r fuel) (JoinTree.Kids (List.getD (List.set a1 i (JoinTree.mk k1 (JoinTree.Kids (List.getD a1 i JoinTree.zero)))) i JoinTree.zero)) (IntKind.wrap .i64 (k1 + 1))).2), (5, .int .i64 ((i : Nat) : Int)), (1000, .tr 0 1)], [(0, .tree 1 (.named 3) ((List.set (List.set a1 i (JoinTree.mk k1 (JoinTree.Kids (List.getD a1 i JoinTree.zero)))) i (JoinTree.mk (JoinTree.Leaf (List.getD (List.set a1 i (JoinTree.mk k1 (JoinTree.Kids (List.getD a1 i JoinTree.zero)))) i JoinTree.zero)) (((markJoinTreeS_r fuel) (JoinTree.Kids (List.getD (List.set a1 i (JoinTree.mk k1 (JoinTree.Kids (List.getD a1 i JoinTree.zero)))) i JoinTree.zero)) (IntKind.wrap .i64 (k1 + 1))).1))) : List JoinTree))]⟩
     [] (by rfl) (by kernel_rfl) ?_ ?_
    ·
     exact trivial
    refine AWO.nil ?_
    refine AW.retree (ys := ((List.set a1 i (JoinTree.mk k1 (((markJoinTreeS_r fuel) (JoinTree.Kids (List.getD a1 i JoinTree.zero)) (IntKind.wrap .i64 (k1 + 1))).1))) : List JoinTree)) (set_twice (fun y : JoinTree => (JoinTree.mk (JoinTree.Leaf y) (((markJoinTreeS_r fuel) (JoinTree.Kids y) (IntKind.wrap .i64 (k1 + 1))).1))) (by first | omega | (simp only [List.length_set]; omega))) ?_
    refine AW.r0 hC [0, 1, 5, 1000] [0] ⟨[(0, .tr 0 1), (1, .int .i64 ((markJoinTreeS_r fuel) (JoinTree.Kids (List.getD (List.set a1 i (JoinTree.mk k1 (JoinTree.Kids (List.getD a1 i JoinTree.zero)))) i JoinTree.zero)) (IntKind.wrap .i64 (k1 + 1))).2), (5, .int .i64 ((i + 1 : Nat) : Int)), (1000, .tr 0 1)], [(0, .tree 1 (.named 3) ((List.set a1 i (JoinTree.mk k1 (((markJoinTreeS_r fuel) (JoinTree.Kids (List.getD a1 i JoinTree.zero)) (IntKind.wrap .i64 (k1 + 1))).1))) : List JoinTree))]⟩ [(-9223372036854775808 ≤ ((i + 1 : Nat) : Int) ∧ ((i + 1 : Nat) : Int) ≤ 9223372036854775807)] ?_ ?_
    ·
     refine ⟨?_, trivial⟩
     ·
      omega
    refine AW.back (x := (k1, i, a1)) (((markJoinTreeS_r fuel) (JoinTree.Kids (List.getD (List.set a1 i (JoinTree.mk k1 (JoinTree.Kids (List.getD a1 i JoinTree.zero)))) i JoinTree.zero)) (IntKind.wrap .i64 (k1 + 1))).2, i + 1, (List.set a1 i (JoinTree.mk k1 (((markJoinTreeS_r fuel) (JoinTree.Kids (List.getD a1 i JoinTree.zero)) (IntKind.wrap .i64 (k1 + 1))).1)))) (by kernel_rfl) ⟨?_, k15q, ?_, e17⟩ ?_
    ·
     show List.length (List.set a1 i (JoinTree.mk k1 (((markJoinTreeS_r fuel) (JoinTree.Kids (List.getD a1 i JoinTree.zero)) (IntKind.wrap .i64 (k1 + 1))).1))) = List.length a ∧ ∀ j : Nat, (i + 1) ≤ j → List.getD (List.set a1 i (JoinTree.mk k1 (((markJoinTreeS_r fuel) (JoinTree.Kids (List.getD a1 i JoinTree.zero)) (IntKind.wrap .i64 (k1 + 1))).1))) j JoinTree.zero = List.getD a j JoinTree.zero
     refine ⟨by simp only [List.length_set]; exact hI0.1, fun j hj => ?_⟩
     repeat rw [lgetD_set_ne (by omega)]
     exact hI0.2 j (by omega)
    ·
     show (List.length (List.set a1 i (JoinTree.mk k1 (((markJoinTreeS_r fuel) (JoinTree.Kids (List.getD a1 i JoinTree.zero)) (IntKind.wrap .i64 (k1 + 1))).1)))) - (i + 1) < k15q
     simp only [lens]; omega
    ·
     show (List.length (List.set a1 i (JoinTree.mk k1 (((markJoinTreeS_r fuel) (JoinTree.Kids (List.getD a1 i JoinTree.zero)) (IntKind.wrap .i64 (k1 + 1))).1)))) - (i + 1) < (List.length a1) - i
     simp only [lens]; omega
   ·
    intro h18
    have h18q : ¬ (((i : Nat) : Int) < ((List.length a1 : Nat) : Int)) := (of_decide_eq_false h18)
    have e19 := e14.trans (Go.Am.bif_f h18)
    refine AW.kp [1, 1000] [0] ⟨[(1, .int .i64 k1), (1000, .tr 0 1)], [(0, .tree 1 (.named 3) (a1 : List JoinTree))]⟩ ?_
    refine AW.exit ?_
    refine AW.meet (k1, a1) (by kernel_rfl) ⟨?_, e19⟩
    show List.length a1 = List.length a
    omega
 ·
  intro x hR
  obtain ⟨k1, a1⟩ := x
  obtain ⟨hJ0, e20⟩ := hR
  replace hJ0 : List.length a1 = List.length a := hJ0
  have e21 := e0.trans (Go.Am.then_eq e20)
  refine AW.seq ?_
  refine AW.reg hC  true [] [4, 1000] [0]
   ⟨[(4, .int .i64 k1), (1000, .tr 0 1)], [(0, .tree 1 (.named 3) (a1 : List JoinTree))]⟩
   [] (by kernel_rfl) ?_ ?_
  ·
   exact trivial
  exact AW.ret (AW.retM (ys := a1) (k := k1) e21 (by kernel_rfl) (by kernel_rfl) (by kernel_rfl))

theorem markJoinTreeS_ok : MarkC Try.prog 76 (.named 3) (fun _ _ => True) markJoinTreeS := MarkC.of_fuel markJoinTreeS_okn (fun (a : List JoinTree) => SizeOf.sizeOf a)

end
end Go.Proofs.Ytgbapklfgjnggaa
