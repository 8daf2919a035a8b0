/-
  A part of the proof of this claim (Ap5): what functions of the program compute, and plain facts of that. No conditions.
-/
import Derived.Test.YtodcdgolcbdkgaaAp4
import Derived.Test.YtodcdgolcbdkgaaAmY
import Derived.Laws.BitsLemmas
set_option linter.all false
namespace Go.Proofs.Ytodcdgolcbdkgaa
open Go Go.Am
open Go.Am.AW (seq r1U ret kpU cdE r0U r1 meet rI block bk exit lpB)
open List (length getD)
noncomputable section

theorem examples_all : ∀ a : Fin 8, (examples (a.val : Int)).all (fun v => decide (-9999 ≤ v.N ∧ v.N ≤ 9999)) = true := by decide +kernel

theorem examples_b {a : Int} (h : 0 ≤ a ∧ a ≤ 7) {i : Nat} (hi : i < (examples a).length) : -9999 ≤ Val.N (getD (examples a) i Val.zero) ∧ Val.N (getD (examples a) i Val.zero) ≤ 9999 := by
 obtain ⟨n, rfl⟩ := Int.eq_ofNat_of_zero_le h.1; have := List.all_eq_true.1 (examples_all ⟨n, by omega⟩) _ (getD_mem _ i Val.zero hi)
 exact of_decide_eq_true this

theorem examples_alln : ∀ a : Fin 8, decide ((examples (a.val : Int)).length ≤ 3) = true := by decide +kernel

theorem examples_n {a : Int} (h : 0 ≤ a ∧ a ≤ 7) : (examples a).length ≤ 3 := by
 obtain ⟨n, rfl⟩ := Int.eq_ofNat_of_zero_le h.1; exact of_decide_eq_true (examples_alln ⟨n, by omega⟩)

theorem valueOf_b (x : Int) : -9999 ≤ Val.N (valueOf x) ∧ Val.N (valueOf x) ≤ 9999 := by
 unfold valueOf
 cases (x == 4) with
 | true => rw [cond_true]; exact ⟨by decide, by decide⟩
 | false =>
  rw [cond_false]; cases (x == 2) <;> simp only [cond_true, cond_false] <;> exact ⟨by decide, by decide⟩

theorem stateOf_eq (v : Val) : istateOf v = stateOf v := rfl

theorem stateOf_b (v : Val) : 1 ≤ stateOf v ∧ stateOf v ≤ 4 := by
 unfold stateOf
 cases v.Null with
 | true => simp only [cond_true]; omega
 | false =>
  rw [cond_false]; cases (v.N == 0) <;> simp only [cond_true, cond_false] <;> omega

def combinedStates_l1 (kind : Int) (a : Int) (b : Int) (v21 : Nat) : Nat → Int → Nat → Int
 | 0, set_, v28 => set_
 | k + 1, set_, v28 => (bif (decide ((v28 : Int) < (length (examples b) : Int))) then (combinedStates_l1 kind a b v21 k (bits .or .i64 set_ (istateOf (combined kind (getD (examples a) v21 Val.zero) (getD (examples b) v28 Val.zero)))) (v28 + 1)) else set_)

def combinedStates_l0 (kind : Int) (a : Int) (b : Int) : Nat → Int → Nat → Int
 | 0, set_1, v21 => set_1
 | k + 1, set_1, v21 => (bif (decide ((v21 : Int) < (length (examples a) : Int))) then (andThen (combinedStates_l1 kind a b v21 ((length (examples b)) - 0 + 1) set_1 0) (fun z => (fun (set_ : Int) => (combinedStates_l0 kind a b k set_ (v21 + 1))) z)) else set_1)

def combinedStates (kind : Int) (a : Int) (b : Int) : Int := (bif (bif (kind == 8) then true else (kind == 9)) then (andThen (combinedStates_l0 kind a b ((length (examples a)) - 0 + 1) 0 0) (fun z => (fun (set_1 : Int) => set_1) z)) else (bif ((bits .and .i64 (bits .or .i64 a b) 4) != 0) then (bif (bif ((bits .andNot .i64 a 4) != 0) then ((bits .andNot .i64 b 4) != 0) else false) then (bif (bif (bif (kind == 3) then true else (kind == 4)) then true else (kind == 5)) then (bits .or .i64 (bits .or .i64 4 3) 4) else (bits .or .i64 4 3)) else 4) else (bif (bif ((bits .andNot .i64 a 4) != 0) then ((bits .andNot .i64 b 4) != 0) else false) then (bif (bif (bif (kind == 3) then true else (kind == 4)) then true else (kind == 5)) then (bits .or .i64 (bits .or .i64 0 3) 4) else (bits .or .i64 0 3)) else 0)))

def combinedStates_sp : FnSpec := mkSpec [.val (.int .i64), .val (.int .i64), .val (.int .i64)] [.val (.int .i64)] (fun (kind : Int) (a : Int) (b : Int) => (0 ≤ a ∧ a ≤ 7) ∧ (0 ≤ b ∧ b ≤ 7)) (fun (kind : Int) (a : Int) (b : Int) => [⟨(.int .i64), (combinedStates kind a b)⟩])

theorem combinedStates_ok : FnOK Try.prog 140 combinedStates_sp := by
 have hC : CtxOK Try.prog (mkCtx tyL [(139, istateOf_sp), (161, combined_sp), (164, examples_sp)]) := CtxOK.cons istateOf_ok (CtxOK.cons combined_ok (CtxOK.cons examples_ok (CtxOK.nil tyOK))); refine FnOK.of_body Try.func140 (by kernel_rfl) rfl (C := (mkCtx tyL [(139, istateOf_sp), (161, combined_sp), (164, examples_sp)])) hC.ty (by kernel_rfl) ?_; intro (kind : Int) (a : Int) (b : Int) hwf hpre E; have hpre : (0 ≤ a ∧ a ≤ 7) ∧ (0 ≤ b ∧ b ≤ 7) := hpre; have hna := examples_n hpre.1; have hnb := examples_n hpre.2; have e0 : combinedStates kind a b = combinedStates kind a b := rfl; refine seq (r1U hC [0, 1, 2] [] [] [] ?_); refine seq (r1U hC [0, 1, 2, 7] [] [(7, sI 0)] [] ?_); refine seq (seq (r0U hC [0, 1, 2, 7, 17] [] [(17, sB (bif (kind == 8) then true else (kind == 9)))] [] [(((kind == 8) = false) → (((kind == 8) = false))), (((kind == 8) = false) → (((kind == 8) = false)))] ?_ ?_))
 ·
  exact ⟨(by intro g1; assumption), (by intro g2; assumption), trivial⟩
 refine cdE e0 ?_ ?_
 ·
  intro h3q e4; refine seq (seq (r0U hC [0, 2, 7, 19, 20, 21] [76] [(19, .arr 76 1), (20, sI (length (examples a) : Int)), (21, sI 0)] [(76, .arr 1 (.named 0) ((examples a) : List Val))] [(True)] ?_ ?_))
  ·
   exact ⟨trivial, trivial⟩
  refine lpB (ζ := Int) (fun x => ⟨[(7, sI x)], []⟩) (fun x => True) (fun x => x) (α := Int × Nat) (fun x => ⟨[(0, sI kind), (2, sI b), (7, sI x.1), (19, .arr 76 1), (20, sI (length (examples a) : Int)), (21, sI ((x.2 : Nat) : Int))], [(76, .arr 1 (.named 0) ((examples a) : List Val))]⟩) (fun x => True) (fun x => (length (examples a)) - x.2) (fun k x => combinedStates_l0 kind a b k x.1 x.2) (0, 0) (by kernel_rfl) ?_ ?_ ?_
  · exact trivial
  ·
   intro x k87q hI0 hk85 e86; obtain ⟨set_1, v21⟩ := x; refine seq (r1U hC [0, 2, 7, 19, 20, 21, 22] [76] [(22, sB (decide ((v21 : Int) < (length (examples a) : Int))))] [] ?_); refine seq (cdE e86 ?_ ?_)
   ·
    intro h88q e89; refine kpU [0, 2, 7, 19, 20, 21] [76] [] [] ?_; refine AW.skip (seq (block (seq (r0U hC [0, 2, 7, 9, 19, 20, 21] [36, 76] [(9, .ref 36 1 0)] [(36, .box 1 [sB (Val.Null (getD (examples a) v21 Val.zero)), sI (Val.N (getD (examples a) v21 Val.zero))])] [IX (v21 : Int) (length (examples a) : Int)] ?_ ?_))))
    ·
     exact ⟨IX.of (by omega), trivial⟩
    refine seq (r0U hC [0, 2, 7, 9, 19, 20, 21, 26, 27, 28] [36, 76, 104] [(26, .arr 104 1), (27, sI (length (examples b) : Int)), (28, sI 0)] [(104, .arr 1 (.named 0) ((examples b) : List Val))] [(True)] ?_ ?_)
    ·
     exact ⟨trivial, trivial⟩
    refine lpB (ζ := Int) (fun x => ⟨[(0, sI kind), (2, sI b), (7, sI x), (19, .arr 76 1), (20, sI (length (examples a) : Int)), (21, sI (v21 : Int))], [(76, .arr 1 (.named 0) ((examples a) : List Val))]⟩) (fun x => True) (fun x => x) (α := Int × Nat) (fun x => ⟨[(0, sI kind), (2, sI b), (7, sI x.1), (9, .ref 36 1 0), (19, .arr 76 1), (20, sI (length (examples a) : Int)), (21, sI (v21 : Int)), (26, .arr 104 1), (27, sI (length (examples b) : Int)), (28, sI ((x.2 : Nat) : Int))], [(36, .box 1 [sB (Val.Null (getD (examples a) v21 Val.zero)), sI (Val.N (getD (examples a) v21 Val.zero))]), (76, .arr 1 (.named 0) ((examples a) : List Val)), (104, .arr 1 (.named 0) ((examples b) : List Val))]⟩) (fun x => True) (fun x => (length (examples b)) - x.2) (fun k x => combinedStates_l1 kind a b v21 k x.1 x.2) (set_1, 0) (by kernel_rfl) ?_ ?_ ?_
    · exact trivial
    ·
     intro x k92q hI1 hk90 e91; obtain ⟨set_, v28⟩ := x; refine seq (r1U hC [0, 2, 7, 9, 19, 20, 21, 26, 27, 28, 29] [36, 76, 104] [(29, sB (decide ((v28 : Int) < (length (examples b) : Int))))] [] ?_); refine seq (cdE e91 ?_ ?_)
     ·
      intro h93q e94; refine kpU [0, 2, 7, 9, 19, 20, 21, 26, 27, 28] [36, 76, 104] [] [] ?_; refine AW.skip (seq (block (seq (r0U hC [0, 2, 7, 9, 11, 19, 20, 21, 26, 27, 28] [36, 44, 76, 104] [(11, .ref 44 1 0)] [(44, .box 1 [sB (Val.Null (getD (examples b) v28 Val.zero)), sI (Val.N (getD (examples b) v28 Val.zero))])] [IX (v28 : Int) (length (examples b) : Int)] ?_ ?_))))
      ·
       exact ⟨IX.of (by omega), trivial⟩
      refine r0U hC [0, 2, 7, 9, 19, 20, 21, 26, 27, 28] [36, 76, 104] [(7, sI (bits .or .i64 set_ (istateOf (combined kind (getD (examples a) v21 Val.zero) (getD (examples b) v28 Val.zero)))))] [] [(((-9999 ≤ Val.N (getD (examples a) v21 Val.zero) ∧ Val.N (getD (examples a) v21 Val.zero) ≤ 9999) ∧ (-9999 ≤ Val.N (getD (examples b) v28 Val.zero) ∧ Val.N (getD (examples b) v28 Val.zero) ≤ 9999))), (True)] ?_ ?_
      ·
       exact ⟨(⟨examples_b hpre.1 (by omega), examples_b hpre.2 (by omega)⟩), trivial, trivial⟩
      refine r0U hC [0, 2, 7, 9, 19, 20, 21, 26, 27, 28] [36, 76, 104] [(28, sI ((v28 + 1 : Nat) : Int))] [] [R64 ((v28 + 1 : Nat) : Int)] ?_ ?_
      ·
       exact ⟨R64.of (by omega), trivial⟩
      refine bk ((bits .or .i64 set_ (istateOf (combined kind (getD (examples a) v21 Val.zero) (getD (examples b) v28 Val.zero)))), v28 + 1) e94 hk90 ?_ ?_
      · assumption
      · omega
     · intro h95q e96; refine kpU [0, 2, 7, 19, 20, 21] [76] [] [] ?_; refine exit ?_; refine meet set_ (by kernel_rfl) ⟨?_, e96⟩; assumption
    ·
     intro set_ hJ1 e97; have e98 := e89.trans (then_eq e97); refine r0U hC [0, 2, 7, 19, 20, 21] [76] [(21, sI ((v21 + 1 : Nat) : Int))] [] [R64 ((v21 + 1 : Nat) : Int)] ?_ ?_
     ·
      exact ⟨R64.of (by omega), trivial⟩
     refine bk (set_, v21 + 1) e98 hk85 ?_ ?_
     · assumption
     · omega
   · intro h99q e100; refine kpU [7] [] [] [] ?_; refine exit ?_; refine meet set_1 (by kernel_rfl) ⟨?_, e100⟩; assumption
  · intro set_1 hJ0 e101; have e102 := e4.trans (then_eq e101); refine seq (r1 hC [6] [] ⟨[(6, sI set_1)], []⟩ ?_); exact ret (rI _ e102)
 ·
  intro h103q e104; refine kpU [0, 1, 2, 7] [] [] [] ?_; refine AW.skip (seq (seq (r1U hC [0, 1, 2, 7, 46] [] [(46, sB ((bits .and .i64 (bits .or .i64 a b) 4) != 0))] [] ?_))); refine cdE e104 ?_ ?_
  ·
   intro h105q e106; refine r1U hC [0, 1, 2, 7] [] [(7, sI 4)] [] ?_; refine seq (seq (r0U hC [0, 7, 54] [] [(54, sB (bif ((bits .andNot .i64 a 4) != 0) then ((bits .andNot .i64 b 4) != 0) else false))] [] [((((bits .andNot .i64 a 4) != 0) = true) → ((((bits .andNot .i64 a 4) != 0) = true))), ((((bits .andNot .i64 a 4) != 0) = true) → ((((bits .andNot .i64 a 4) != 0) = true))), ((((bits .andNot .i64 a 4) != 0) = true) → ((((bits .andNot .i64 a 4) != 0) = true)))] ?_ ?_))
   ·
    exact ⟨(by intro g107; assumption), (by intro g108; assumption), (by intro g109; assumption), trivial⟩
   refine cdE e106 ?_ ?_
   ·
    intro h110q e111; refine seq (r1U hC [0, 7] [] [(7, sI (bits .or .i64 4 3))] [] ?_); refine seq (r0U hC [7, 66] [] [(66, sB (bif (bif (kind == 3) then true else (kind == 4)) then true else (kind == 5)))] [] [(((kind == 3) = false) → (((kind == 3) = false))), (((kind == 3) = false) → (((kind == 3) = false))), (((bif (kind == 3) then true else (kind == 4)) = false) → (((bif (kind == 3) then true else (kind == 4)) = false))), (((bif (kind == 3) then true else (kind == 4)) = false) → (((bif (kind == 3) then true else (kind == 4)) = false)))] ?_ ?_)
    ·
     exact ⟨(by intro g112; assumption), (by intro g113; assumption), (by intro g114; assumption), (by intro g115; assumption), trivial⟩
    refine cdE e111 ?_ ?_
    · intro h116q e117; refine r1 hC [7] [] ⟨[(7, sI (bits .or .i64 (bits .or .i64 4 3) 4))], []⟩ ?_; refine seq (r1 hC [6] [] ⟨[(6, sI (bits .or .i64 (bits .or .i64 4 3) 4))], []⟩ ?_); exact ret (rI _ e117)
    · intro h118q e119; refine kpU [7] [] [] [] ?_; refine AW.skip (seq (r1 hC [6] [] ⟨[(6, sI (bits .or .i64 4 3))], []⟩ ?_)); exact ret (rI _ e119)
   · intro h120q e121; refine kpU [7] [] [] [] ?_; refine AW.skip (seq (r1 hC [6] [] ⟨[(6, sI 4)], []⟩ ?_)); exact ret (rI 4 e121)
  ·
   intro h122q e123; refine kpU [0, 1, 2, 7] [] [] [] ?_; refine AW.skip (seq (seq (r0U hC [0, 7, 54] [] [(54, sB (bif ((bits .andNot .i64 a 4) != 0) then ((bits .andNot .i64 b 4) != 0) else false))] [] [((((bits .andNot .i64 a 4) != 0) = true) → ((((bits .andNot .i64 a 4) != 0) = true))), ((((bits .andNot .i64 a 4) != 0) = true) → ((((bits .andNot .i64 a 4) != 0) = true))), ((((bits .andNot .i64 a 4) != 0) = true) → ((((bits .andNot .i64 a 4) != 0) = true)))] ?_ ?_)))
   ·
    exact ⟨(by intro g124; assumption), (by intro g125; assumption), (by intro g126; assumption), trivial⟩
   refine cdE e123 ?_ ?_
   ·
    intro h127q e128; refine seq (r1U hC [0, 7] [] [(7, sI (bits .or .i64 0 3))] [] ?_); refine seq (r0U hC [7, 66] [] [(66, sB (bif (bif (kind == 3) then true else (kind == 4)) then true else (kind == 5)))] [] [(((kind == 3) = false) → (((kind == 3) = false))), (((kind == 3) = false) → (((kind == 3) = false))), (((bif (kind == 3) then true else (kind == 4)) = false) → (((bif (kind == 3) then true else (kind == 4)) = false))), (((bif (kind == 3) then true else (kind == 4)) = false) → (((bif (kind == 3) then true else (kind == 4)) = false)))] ?_ ?_)
    ·
     exact ⟨(by intro g129; assumption), (by intro g130; assumption), (by intro g131; assumption), (by intro g132; assumption), trivial⟩
    refine cdE e128 ?_ ?_
    · intro h133q e134; refine r1 hC [7] [] ⟨[(7, sI (bits .or .i64 (bits .or .i64 0 3) 4))], []⟩ ?_; refine seq (r1 hC [6] [] ⟨[(6, sI (bits .or .i64 (bits .or .i64 0 3) 4))], []⟩ ?_); exact ret (rI _ e134)
    · intro h135q e136; refine kpU [7] [] [] [] ?_; refine AW.skip (seq (r1 hC [6] [] ⟨[(6, sI (bits .or .i64 0 3))], []⟩ ?_)); exact ret (rI _ e136)
   · intro h137q e138; refine kpU [7] [] [] [] ?_; refine AW.skip (seq (r1 hC [6] [] ⟨[(6, sI 0)], []⟩ ?_)); exact ret (rI 0 e138)

def truthStates_l1 (kind : Int) (a : Int) (b : Int) (x2 : Int) : Nat → Int → Int → Int
 | 0, out, y1 => out
 | k + 1, out, y1 => (bif (decide (y1 ≤ 4)) then (bif (bif (((a / x2) % 2) == 1) then (((b / y1) % 2) == 1) else false) then (truthStates_l1 kind a b x2 k (bits .or .i64 out (stateOf (combine kind (valueOf x2) (valueOf y1)))) (2 * y1)) else (truthStates_l1 kind a b x2 k out (2 * y1))) else out)

def truthStates_l0 (kind : Int) (a : Int) (b : Int) : Nat → Int → Int → Int
 | 0, out1, x2 => out1
 | k + 1, out1, x2 => (bif (decide (x2 ≤ 4)) then (andThen (truthStates_l1 kind a b x2 (Int.toNat (5 - 1) + 1) out1 1) (fun z => (fun (out : Int) => (truthStates_l0 kind a b k out (2 * x2))) z)) else out1)

def truthStates (kind : Int) (a : Int) (b : Int) : Int := (andThen (truthStates_l0 kind a b (Int.toNat (5 - 1) + 1) 0 1) (fun z => (fun (out1 : Int) => out1) z))

def truthStates_sp : FnSpec := mkSpec [.val (.int .i64), .val (.int .i64), .val (.int .i64)] [.val (.int .i64)] (fun (kind : Int) (a : Int) (b : Int) => (0 ≤ a ∧ a ≤ 7) ∧ (0 ≤ b ∧ b ≤ 7)) (fun (kind : Int) (a : Int) (b : Int) => [⟨(.int .i64), (truthStates kind a b)⟩])

theorem truthStates_ok : FnOK Try.prog 138 truthStates_sp := by
 have hC : CtxOK Try.prog (mkCtx tyL [(137, stateOf_sp), (156, combine_sp), (163, valueOf_sp)]) := CtxOK.cons stateOf_ok (CtxOK.cons combine_ok (CtxOK.cons valueOf_ok (CtxOK.nil tyOK))); refine FnOK.of_body Try.func138 (by kernel_rfl) rfl (C := (mkCtx tyL [(137, stateOf_sp), (156, combine_sp), (163, valueOf_sp)])) hC.ty (by kernel_rfl) ?_; intro (kind : Int) (a : Int) (b : Int) hwf hpre E; have hpre : (0 ≤ a ∧ a ≤ 7) ∧ (0 ≤ b ∧ b ≤ 7) := hpre; have e0 : truthStates kind a b = truthStates kind a b := rfl; refine seq (r1U hC [0, 1, 2] [] [] [] ?_); refine seq (r1U hC [0, 1, 2, 7] [] [(7, sI 0)] [] ?_); refine seq (seq (r1U hC [0, 1, 2, 7, 8] [] [(8, sI 1)] [] ?_)); refine lpB (ζ := Int) (fun x => ⟨[(7, sI x)], []⟩) (fun x => True) (fun x => x) (α := Int × Int) (fun x => ⟨[(0, sI kind), (1, sI a), (2, sI b), (7, sI x.1), (8, sI x.2)], []⟩) (fun x => 1 ≤ x.2 ∧ x.2 ≤ 8) (fun x => Int.toNat (5 - x.2)) (fun k x => truthStates_l0 kind a b k x.1 x.2) (0, 1) (by kernel_rfl) ?_ ?_ ?_
 · refine ⟨?_, ?_⟩ <;> first | omega | simp
 ·
  intro x k135q hI0 hk133 e134; obtain ⟨out1, x2⟩ := x; refine seq (seq (r1U hC [0, 1, 2, 7, 8, 11] [] [(11, sB (decide (x2 ≤ 4)))] [] ?_)); refine cdE e134 ?_ ?_
  ·
   intro h136q e137; refine kpU [0, 1, 2, 7, 8] [] [] [] ?_; refine AW.skip (seq (block (seq (r1U hC [0, 1, 2, 7, 8, 9] [] [(9, sI 1)] [] ?_)))); refine lpB (ζ := Int) (fun x => ⟨[(0, sI kind), (1, sI a), (2, sI b), (7, sI x), (8, sI x2)], []⟩) (fun x => True) (fun x => x) (α := Int × Int) (fun x => ⟨[(0, sI kind), (1, sI a), (2, sI b), (7, sI x.1), (8, sI x2), (9, sI x.2)], []⟩) (fun x => 1 ≤ x.2 ∧ x.2 ≤ 8) (fun x => Int.toNat (5 - x.2)) (fun k x => truthStates_l1 kind a b x2 k x.1 x.2) (out1, 1) (by kernel_rfl) ?_ ?_ ?_
   · refine ⟨?_, ?_⟩ <;> first | omega | simp
   ·
    intro x k140q hI1 hk138 e139; obtain ⟨out, y1⟩ := x; refine seq (seq (r1U hC [0, 1, 2, 7, 8, 9, 15] [] [(15, sB (decide (y1 ≤ 4)))] [] ?_)); refine cdE e139 ?_ ?_
    ·
     intro h141q e142; refine kpU [0, 1, 2, 7, 8, 9] [] [] [] ?_; refine AW.skip (seq (block (seq (r0U hC [0, 1, 2, 7, 8, 9, 29] [] [(29, sB (bif (((a / x2) % 2) == 1) then (((b / y1) % 2) == 1) else false))] [] [(0 ≤ a ∧ 0 < x2), (0 ≤ (a / x2) ∧ 0 < (2 : Int)), (((((a / x2) % 2) == 1) = true) → (((((a / x2) % 2) == 1) = true))), (((((a / x2) % 2) == 1) = true) → (((((a / x2) % 2) == 1) = true))), (((((a / x2) % 2) == 1) = true) → (0 ≤ b ∧ 0 < y1)), (((((a / x2) % 2) == 1) = true) → (((((a / x2) % 2) == 1) = true))), (((((a / x2) % 2) == 1) = true) → (0 ≤ (b / y1) ∧ 0 < (2 : Int))), (((((a / x2) % 2) == 1) = true) → (((((a / x2) % 2) == 1) = true))), (((((a / x2) % 2) == 1) = true) → (((((a / x2) % 2) == 1) = true)))] ?_ ?_))))
     ·
      exact ⟨(by omega), (⟨Int.ediv_nonneg hpre.1.1 (by omega), by decide⟩), (by intro g143; assumption), (by intro g144; assumption), (by intro g145; omega), (by intro g146; assumption), (by intro g147; exact ⟨Int.ediv_nonneg hpre.2.1 (by omega), by decide⟩), (by intro g148; assumption), (by intro g149; assumption), trivial⟩
     refine cdE e142 ?_ ?_
     ·
      intro h150q e151; refine r0U hC [0, 1, 2, 7, 8, 9] [] [(7, sI (bits .or .i64 out (stateOf (combine kind (valueOf x2) (valueOf y1)))))] [] [(True), (True), (((-9999 ≤ Val.N (valueOf x2) ∧ Val.N (valueOf x2) ≤ 9999) ∧ (-9999 ≤ Val.N (valueOf y1) ∧ Val.N (valueOf y1) ≤ 9999))), (True)] ?_ ?_
      ·
       exact ⟨trivial, trivial, ⟨valueOf_b _, valueOf_b _⟩, trivial, trivial⟩
      refine r0U hC [0, 1, 2, 7, 8, 9] [] [(9, sI (2 * y1))] [] [R64 (2 * y1)] ?_ ?_
      ·
       exact ⟨R64.of (by omega), trivial⟩
      refine bk ((bits .or .i64 out (stateOf (combine kind (valueOf x2) (valueOf y1)))), (2 * y1)) e151 hk138 ?_ ?_
      · refine ⟨?_, ?_⟩ <;> first | omega | (simp only [lens] at *; omega)
      · omega
     ·
      intro h152q e153; refine kpU [0, 1, 2, 7, 8, 9] [] [] [] ?_; refine AW.skip (r0U hC [0, 1, 2, 7, 8, 9] [] [(9, sI (2 * y1))] [] [R64 (2 * y1)] ?_ ?_)
      ·
       exact ⟨R64.of (by omega), trivial⟩
      refine bk (out, (2 * y1)) e153 hk138 ?_ ?_
      · refine ⟨?_, ?_⟩ <;> first | omega | (simp only [lens] at *; omega)
      · omega
    · intro h154q e155; refine kpU [0, 1, 2, 7, 8] [] [] [] ?_; refine exit ?_; refine meet out (by kernel_rfl) ⟨?_, e155⟩; exact trivial
   ·
    intro out hJ1 e156; have e157 := e137.trans (then_eq e156); refine r0U hC [0, 1, 2, 7, 8] [] [(8, sI (2 * x2))] [] [R64 (2 * x2)] ?_ ?_
    ·
     exact ⟨R64.of (by omega), trivial⟩
    refine bk (out, (2 * x2)) e157 hk133 ?_ ?_
    · refine ⟨?_, ?_⟩ <;> first | omega | (simp only [lens] at *; omega)
    · omega
  · intro h158q e159; refine kpU [7] [] [] [] ?_; refine exit ?_; refine meet out1 (by kernel_rfl) ⟨?_, e159⟩; exact trivial
 · intro out1 hJ0 e160; have e161 := e0.trans (then_eq e160); refine seq (r1 hC [6] [] ⟨[(6, sI out1)], []⟩ ?_); exact ret (rI _ e161)

end
end Go.Proofs.Ytodcdgolcbdkgaa
