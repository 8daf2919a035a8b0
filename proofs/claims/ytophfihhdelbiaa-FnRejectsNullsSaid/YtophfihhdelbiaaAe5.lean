/-
  A part of the proof of this claim (Ae5): what functions of the program compute, and plain facts of that. No conditions.
-/
import Derived.Test.YtophfihhdelbiaaAe4
import Derived.Test.YtophfihhdelbiaaAnB
set_option linter.all false
namespace Go.Proofs.Ytophfihhdelbiaa
open Go Go.Am
noncomputable section

theorem examples_all : ∀ a : Fin 8, (examples (a.val : Int)).all (fun v => decide (-9999 ≤ v.N ∧ v.N ≤ 9999)) = true := by decide +kernel

theorem examples_b {a : Int} (h : 0 ≤ a ∧ a ≤ 7) {i : Nat} (hi : i < (examples a).length) : -9999 ≤ Val.N (List.getD (examples a) i Val.zero) ∧ Val.N (List.getD (examples a) i Val.zero) ≤ 9999 := by
 obtain ⟨n, rfl⟩ := Int.eq_ofNat_of_zero_le h.1
 have := List.all_eq_true.1 (examples_all ⟨n, by omega⟩) _ (getD_mem _ i Val.zero hi)
 exact of_decide_eq_true this

theorem examples_alln : ∀ a : Fin 8, decide ((examples (a.val : Int)).length ≤ 3) = true := by decide +kernel

theorem examples_n {a : Int} (h : 0 ≤ a ∧ a ≤ 7) : (examples a).length ≤ 3 := by
 obtain ⟨n, rfl⟩ := Int.eq_ofNat_of_zero_le h.1
 exact of_decide_eq_true (examples_alln ⟨n, by omega⟩)

theorem valueOf_b (x : Int) : -9999 ≤ Val.N (valueOf x) ∧ Val.N (valueOf x) ≤ 9999 := by
 unfold valueOf
 cases (x == 4) with
 | true => rw [cond_true]; exact ⟨by decide, by decide⟩
 | false =>
  rw [cond_false]
  cases (x == 2) <;> simp only [cond_true, cond_false] <;> exact ⟨by decide, by decide⟩

theorem stateOf_eq (v : Val) : istateOf v = stateOf v := rfl

theorem stateOf_b (v : Val) : 1 ≤ stateOf v ∧ stateOf v ≤ 4 := by
 unfold stateOf
 cases v.Null with
 | true => simp only [cond_true]; omega
 | false =>
  rw [cond_false]
  cases (v.N == 0) <;> simp only [cond_true, cond_false] <;> omega

def combinedStates_l1 (kind : Int) (a : Int) (b : Int) (v21 : Nat) : Nat → Int → Nat → Int
 | 0, set_, v28 => set_
 | k + 1, set_, v28 => (bif (decide (((v28 : Nat) : Int) < ((List.length (examples b) : Nat) : Int))) then (combinedStates_l1 kind a b v21 k (bits .or .i64 set_ (istateOf (combined kind (List.getD (examples a) v21 Val.zero) (List.getD (examples b) v28 Val.zero)))) (v28 + 1)) else set_)

def combinedStates_l0 (kind : Int) (a : Int) (b : Int) : Nat → Int → Nat → Int
 | 0, set_1, v21 => set_1
 | k + 1, set_1, v21 => (bif (decide (((v21 : Nat) : Int) < ((List.length (examples a) : Nat) : Int))) then (Go.Am.andThen (combinedStates_l1 kind a b v21 ((List.length (examples b)) - 0 + 1) set_1 0) (fun z => (fun (set_ : Int) => (combinedStates_l0 kind a b k set_ (v21 + 1))) z)) else set_1)

def combinedStates (kind : Int) (a : Int) (b : Int) : Int := (bif (bif (kind == 8) then true else (kind == 9)) then (Go.Am.andThen (combinedStates_l0 kind a b ((List.length (examples a)) - 0 + 1) 0 0) (fun z => (fun (set_1 : Int) => set_1) z)) else (bif ((bits .and .i64 (bits .or .i64 a b) 4) != 0) then (bif (bif ((bits .andNot .i64 a 4) != 0) then ((bits .andNot .i64 b 4) != 0) else false) then (bif (bif (bif (kind == 3) then true else (kind == 4)) then true else (kind == 5)) then (bits .or .i64 (bits .or .i64 4 3) 4) else (bits .or .i64 4 3)) else 4) else (bif (bif ((bits .andNot .i64 a 4) != 0) then ((bits .andNot .i64 b 4) != 0) else false) then (bif (bif (bif (kind == 3) then true else (kind == 4)) then true else (kind == 5)) then (bits .or .i64 (bits .or .i64 0 3) 4) else (bits .or .i64 0 3)) else 0)))

def combinedStates_sp : FnSpec := mkSpec [.val (.int .i64), .val (.int .i64), .val (.int .i64)] [.val (.int .i64)] (fun (kind : Int) (a : Int) (b : Int) => (0 ≤ a ∧ a ≤ 7) ∧ (0 ≤ b ∧ b ≤ 7)) (fun (kind : Int) (a : Int) (b : Int) => [⟨(.int .i64), (combinedStates kind a b)⟩])

theorem combinedStates_ok : FnOK Try.prog 34 combinedStates_sp := by
 have hC : CtxOK Try.prog (mkCtx tyL [(33, istateOf_sp), (43, combined_sp), (50, examples_sp)]) := CtxOK.cons istateOf_ok (CtxOK.cons combined_ok (CtxOK.cons examples_ok (CtxOK.nil tyOK)))
 refine FnOK.of_body Try.func34 (by kernel_rfl) rfl (C := (mkCtx tyL [(33, istateOf_sp), (43, combined_sp), (50, examples_sp)])) hC.ty (by kernel_rfl) ?_
 intro (kind : Int) (a : Int) (b : Int) hwf hpre E
 have hpre : (0 ≤ a ∧ a ≤ 7) ∧ (0 ≤ b ∧ b ≤ 7) := hpre
 have hw_kind : Wf ⟨(.int .i64), (kind : Int)⟩ := hwf _ (List.Mem.head _)
 have hr_kind : -9223372036854775808 ≤ kind ∧ kind ≤ 9223372036854775807 := hw_kind.int_inv
 have hw_a : Wf ⟨(.int .i64), (a : Int)⟩ := hwf _ (List.Mem.tail _ (List.Mem.head _))
 have hr_a : -9223372036854775808 ≤ a ∧ a ≤ 9223372036854775807 := hw_a.int_inv
 have hw_b : Wf ⟨(.int .i64), (b : Int)⟩ := hwf _ (List.Mem.tail _ (List.Mem.tail _ (List.Mem.head _)))
 have hr_b : -9223372036854775808 ≤ b ∧ b ≤ 9223372036854775807 := hw_b.int_inv
 have hna := examples_n hpre.1
 have hnb := examples_n hpre.2
 have e0 : combinedStates kind a b = combinedStates kind a b := rfl
 refine AW.seq (AW.r1 hC [0, 1, 2] [] ⟨[(0, sI kind), (1, sI a), (2, sI b)], []⟩ ?_)
 refine AW.seq (AW.r1 hC [0, 1, 2, 7] [] ⟨[(0, sI kind), (1, sI a), (2, sI b), (7, sI 0)], []⟩ ?_)
 refine AW.seq (AW.seq (AW.r0 hC [0, 1, 2, 7, 17] [] ⟨[(0, sI kind), (1, sI a), (2, sI b), (7, sI 0), (17, sB (bif (kind == 8) then true else (kind == 9)))], []⟩ [(((kind == 8) = false) → (((kind == 8) = false))), (((kind == 8) = false) → (((kind == 8) = false)))] ?_ ?_))
 ·
  refine ⟨?_, ?_, trivial⟩
  ·
   intro g1
   have g1p0 : kind ≠ 8 := (Go.Am.beq_neg g1)
   first | assumption | exact ⟨by assumption, by assumption⟩
  ·
   intro g2
   have g2p0 : kind ≠ 8 := (Go.Am.beq_neg g2)
   first | assumption | exact ⟨by assumption, by assumption⟩
 refine AW.cd (bif (kind == 8) then true else (kind == 9)) ?_ ?_
 ·
  intro h3
  have h3q : (kind = 8) ∨ (kind = 9) := (Or.imp (fun h => (Go.Am.beq_pos h)) (fun h => (Go.Am.beq_pos h)) (Go.Am.or_pos h3))
  have e4 := e0.trans (Go.Am.bif_t h3)
  refine AW.seq (AW.seq (AW.r0 hC [0, 2, 7, 19, 20, 21] [76] ⟨[(0, sI kind), (2, sI b), (7, sI 0), (19, .arr 76 1), (20, sI ((List.length (examples a) : Nat) : Int)), (21, sI 0)], [(76, .arr 1 (.named 0) ((examples a) : List Val))]⟩ [(True)] ?_ ?_))
  ·
   refine ⟨?_, trivial⟩
   ·
    trivial
  refine AW.cutQ (α := Int) (fun x => ⟨[(7, sI x)], []⟩) (fun x => (True) ∧ (combinedStates_l0 kind a b ((List.length (examples a)) - 0 + 1) 0 0) = x) ?_ ?_
  ·
   skip
   refine AW.block (AW.loop (α := Int × Nat) (fun x => ⟨[(0, sI kind), (2, sI b), (7, sI x.1), (19, .arr 76 1), (20, sI ((List.length (examples a) : Nat) : Int)), (21, sI ((x.2 : Nat) : Int))], [(76, .arr 1 (.named 0) ((examples a) : List Val))]⟩) (fun x => (True) ∧ ∃ k, (List.length (examples a)) - x.2 < k ∧ (combinedStates_l0 kind a b ((List.length (examples a)) - 0 + 1) 0 0) = combinedStates_l0 kind a b k x.1 x.2) (fun x => (List.length (examples a)) - x.2) (0, 0) (by kernel_rfl) ⟨?_, _, Nat.lt_succ_self _, rfl⟩ ?_)
   ·
    show True
    first | exact trivial | (refine ⟨?_, ?_⟩ <;> first | omega | simp) | omega | simp
   ·
    intro x hR
    obtain ⟨set_1, v21⟩ := x
    obtain ⟨hI0, k115, hk113, e114⟩ := hR
    replace hI0 : True := hI0
    replace hk113 : (List.length (examples a)) - v21 < k115 := hk113
    obtain ⟨k115q, rfl⟩ : ∃ k, k115 = k + 1 := ⟨k115 - 1, by omega⟩
    refine AW.seq (AW.r1 hC [0, 2, 7, 19, 20, 21, 22] [76] ⟨[(0, sI kind), (2, sI b), (7, sI set_1), (19, .arr 76 1), (20, sI ((List.length (examples a) : Nat) : Int)), (21, sI ((v21 : Nat) : Int)), (22, sB (decide (((v21 : Nat) : Int) < ((List.length (examples a) : Nat) : Int))))], [(76, .arr 1 (.named 0) ((examples a) : List Val))]⟩ ?_)
    refine AW.seq (AW.cd (decide (((v21 : Nat) : Int) < ((List.length (examples a) : Nat) : Int))) ?_ ?_)
    ·
     intro h116
     have h116q := (of_decide_eq_true h116)
     have e117 := e114.trans (Go.Am.bif_t h116)
     refine AW.kp [0, 2, 7, 19, 20, 21] [76] ⟨[(0, sI kind), (2, sI b), (7, sI set_1), (19, .arr 76 1), (20, sI ((List.length (examples a) : Nat) : Int)), (21, sI ((v21 : Nat) : Int))], [(76, .arr 1 (.named 0) ((examples a) : List Val))]⟩ ?_
     refine AW.skip (AW.seq (AW.block (AW.seq (AW.r0 hC [0, 2, 7, 9, 19, 20, 21] [36, 76] ⟨[(0, sI kind), (2, sI b), (7, sI set_1), (9, .ref 36 1 0), (19, .arr 76 1), (20, sI ((List.length (examples a) : Nat) : Int)), (21, sI ((v21 : Nat) : Int))], [(36, .box 1 [sB (Val.Null (List.getD (examples a) v21 Val.zero)), sI (Val.N (List.getD (examples a) v21 Val.zero))]), (76, .arr 1 (.named 0) ((examples a) : List Val))]⟩ [IX ((v21 : Nat) : Int) ((List.length (examples a) : Nat) : Int)] ?_ ?_))))
     ·
      refine ⟨?_, trivial⟩
      ·
       refine IX.of ?_
       first | omega | (dsimp only; omega) | (simp only [lens] at *; omega)
     refine AW.seq (AW.r0 hC [0, 2, 7, 9, 19, 20, 21, 26, 27, 28] [36, 76, 104] ⟨[(0, sI kind), (2, sI b), (7, sI set_1), (9, .ref 36 1 0), (19, .arr 76 1), (20, sI ((List.length (examples a) : Nat) : Int)), (21, sI ((v21 : Nat) : Int)), (26, .arr 104 1), (27, sI ((List.length (examples b) : Nat) : Int)), (28, sI 0)], [(36, .box 1 [sB (Val.Null (List.getD (examples a) v21 Val.zero)), sI (Val.N (List.getD (examples a) v21 Val.zero))]), (76, .arr 1 (.named 0) ((examples a) : List Val)), (104, .arr 1 (.named 0) ((examples b) : List Val))]⟩ [(True)] ?_ ?_)
     ·
      refine ⟨?_, trivial⟩
      ·
       trivial
     refine AW.cutQ (α := Int) (fun x => ⟨[(0, sI kind), (2, sI b), (7, sI x), (19, .arr 76 1), (20, sI ((List.length (examples a) : Nat) : Int)), (21, sI ((v21 : Nat) : Int))], [(76, .arr 1 (.named 0) ((examples a) : List Val))]⟩) (fun x => (True) ∧ (combinedStates_l1 kind a b v21 ((List.length (examples b)) - 0 + 1) set_1 0) = x) ?_ ?_
     ·
      skip
      refine AW.block (AW.loop (α := Int × Nat) (fun x => ⟨[(0, sI kind), (2, sI b), (7, sI x.1), (9, .ref 36 1 0), (19, .arr 76 1), (20, sI ((List.length (examples a) : Nat) : Int)), (21, sI ((v21 : Nat) : Int)), (26, .arr 104 1), (27, sI ((List.length (examples b) : Nat) : Int)), (28, sI ((x.2 : Nat) : Int))], [(36, .box 1 [sB (Val.Null (List.getD (examples a) v21 Val.zero)), sI (Val.N (List.getD (examples a) v21 Val.zero))]), (76, .arr 1 (.named 0) ((examples a) : List Val)), (104, .arr 1 (.named 0) ((examples b) : List Val))]⟩) (fun x => (True) ∧ ∃ k, (List.length (examples b)) - x.2 < k ∧ (combinedStates_l1 kind a b v21 ((List.length (examples b)) - 0 + 1) set_1 0) = combinedStates_l1 kind a b v21 k x.1 x.2) (fun x => (List.length (examples b)) - x.2) (set_1, 0) (by kernel_rfl) ⟨?_, _, Nat.lt_succ_self _, rfl⟩ ?_)
      ·
       show True
       first | exact trivial | (refine ⟨?_, ?_⟩ <;> first | omega | simp) | omega | simp
      ·
       intro x hR
       obtain ⟨set_, v28⟩ := x
       obtain ⟨hI1, k132, hk130, e131⟩ := hR
       replace hI1 : True := hI1
       replace hk130 : (List.length (examples b)) - v28 < k132 := hk130
       obtain ⟨k132q, rfl⟩ : ∃ k, k132 = k + 1 := ⟨k132 - 1, by omega⟩
       refine AW.seq (AW.r1 hC [0, 2, 7, 9, 19, 20, 21, 26, 27, 28, 29] [36, 76, 104] ⟨[(0, sI kind), (2, sI b), (7, sI set_), (9, .ref 36 1 0), (19, .arr 76 1), (20, sI ((List.length (examples a) : Nat) : Int)), (21, sI ((v21 : Nat) : Int)), (26, .arr 104 1), (27, sI ((List.length (examples b) : Nat) : Int)), (28, sI ((v28 : Nat) : Int)), (29, sB (decide (((v28 : Nat) : Int) < ((List.length (examples b) : Nat) : Int))))], [(36, .box 1 [sB (Val.Null (List.getD (examples a) v21 Val.zero)), sI (Val.N (List.getD (examples a) v21 Val.zero))]), (76, .arr 1 (.named 0) ((examples a) : List Val)), (104, .arr 1 (.named 0) ((examples b) : List Val))]⟩ ?_)
       refine AW.seq (AW.cd (decide (((v28 : Nat) : Int) < ((List.length (examples b) : Nat) : Int))) ?_ ?_)
       ·
        intro h133
        have h133q := (of_decide_eq_true h133)
        have e134 := e131.trans (Go.Am.bif_t h133)
        refine AW.kp [0, 2, 7, 9, 19, 20, 21, 26, 27, 28] [36, 76, 104] ⟨[(0, sI kind), (2, sI b), (7, sI set_), (9, .ref 36 1 0), (19, .arr 76 1), (20, sI ((List.length (examples a) : Nat) : Int)), (21, sI ((v21 : Nat) : Int)), (26, .arr 104 1), (27, sI ((List.length (examples b) : Nat) : Int)), (28, sI ((v28 : Nat) : Int))], [(36, .box 1 [sB (Val.Null (List.getD (examples a) v21 Val.zero)), sI (Val.N (List.getD (examples a) v21 Val.zero))]), (76, .arr 1 (.named 0) ((examples a) : List Val)), (104, .arr 1 (.named 0) ((examples b) : List Val))]⟩ ?_
        refine AW.skip (AW.seq (AW.block (AW.seq (AW.r0 hC [0, 2, 7, 9, 11, 19, 20, 21, 26, 27, 28] [36, 44, 76, 104] ⟨[(0, sI kind), (2, sI b), (7, sI set_), (9, .ref 36 1 0), (11, .ref 44 1 0), (19, .arr 76 1), (20, sI ((List.length (examples a) : Nat) : Int)), (21, sI ((v21 : Nat) : Int)), (26, .arr 104 1), (27, sI ((List.length (examples b) : Nat) : Int)), (28, sI ((v28 : Nat) : Int))], [(36, .box 1 [sB (Val.Null (List.getD (examples a) v21 Val.zero)), sI (Val.N (List.getD (examples a) v21 Val.zero))]), (44, .box 1 [sB (Val.Null (List.getD (examples b) v28 Val.zero)), sI (Val.N (List.getD (examples b) v28 Val.zero))]), (76, .arr 1 (.named 0) ((examples a) : List Val)), (104, .arr 1 (.named 0) ((examples b) : List Val))]⟩ [IX ((v28 : Nat) : Int) ((List.length (examples b) : Nat) : Int)] ?_ ?_))))
        ·
         refine ⟨?_, trivial⟩
         ·
          refine IX.of ?_
          first | omega | (dsimp only; omega) | (simp only [lens] at *; omega)
        refine AW.r0 hC [0, 2, 7, 9, 19, 20, 21, 26, 27, 28] [36, 76, 104] ⟨[(0, sI kind), (2, sI b), (7, sI (bits .or .i64 set_ (istateOf (combined kind (List.getD (examples a) v21 Val.zero) (List.getD (examples b) v28 Val.zero))))), (9, .ref 36 1 0), (19, .arr 76 1), (20, sI ((List.length (examples a) : Nat) : Int)), (21, sI ((v21 : Nat) : Int)), (26, .arr 104 1), (27, sI ((List.length (examples b) : Nat) : Int)), (28, sI ((v28 : Nat) : Int))], [(36, .box 1 [sB (Val.Null (List.getD (examples a) v21 Val.zero)), sI (Val.N (List.getD (examples a) v21 Val.zero))]), (76, .arr 1 (.named 0) ((examples a) : List Val)), (104, .arr 1 (.named 0) ((examples b) : List Val))]⟩ [(((-9999 ≤ Val.N (List.getD (examples a) v21 Val.zero) ∧ Val.N (List.getD (examples a) v21 Val.zero) ≤ 9999) ∧ (-9999 ≤ Val.N (List.getD (examples b) v28 Val.zero) ∧ Val.N (List.getD (examples b) v28 Val.zero) ≤ 9999))), (True)] ?_ ?_
        ·
         refine ⟨?_, ?_, trivial⟩
         ·
          exact ⟨examples_b hpre.1 (by omega), examples_b hpre.2 (by omega)⟩
         ·
          trivial
        refine AW.r0 hC [0, 2, 7, 9, 19, 20, 21, 26, 27, 28] [36, 76, 104] ⟨[(0, sI kind), (2, sI b), (7, sI (bits .or .i64 set_ (istateOf (combined kind (List.getD (examples a) v21 Val.zero) (List.getD (examples b) v28 Val.zero))))), (9, .ref 36 1 0), (19, .arr 76 1), (20, sI ((List.length (examples a) : Nat) : Int)), (21, sI ((v21 : Nat) : Int)), (26, .arr 104 1), (27, sI ((List.length (examples b) : Nat) : Int)), (28, sI ((v28 + 1 : Nat) : Int))], [(36, .box 1 [sB (Val.Null (List.getD (examples a) v21 Val.zero)), sI (Val.N (List.getD (examples a) v21 Val.zero))]), (76, .arr 1 (.named 0) ((examples a) : List Val)), (104, .arr 1 (.named 0) ((examples b) : List Val))]⟩ [R64 ((v28 + 1 : Nat) : Int)] ?_ ?_
        ·
         refine ⟨?_, trivial⟩
         ·
          refine R64.of ?_
          first | omega | (dsimp only; omega) | (simp only [lens] at *; omega)
        refine AW.back (x := (set_, v28)) ((bits .or .i64 set_ (istateOf (combined kind (List.getD (examples a) v21 Val.zero) (List.getD (examples b) v28 Val.zero)))), v28 + 1) (by kernel_rfl) ⟨?_, k132q, ?_, e134⟩ ?_
        ·
         show True
         first | assumption | exact trivial | (refine ⟨?_, ?_⟩ <;> first | omega | (simp only [lens] at *; omega)) | omega | (simp only [lens] at *; omega)
        ·
         show (List.length (examples b)) - (v28 + 1) < k132q
         first | omega | (simp only [lens]; omega)
        ·
         show (List.length (examples b)) - (v28 + 1) < (List.length (examples b)) - v28
         first | omega | (simp only [lens]; omega)
       ·
        intro h135
        have h135q := (of_decide_eq_false h135)
        have e136 := e131.trans (Go.Am.bif_f h135)
        refine AW.kp [0, 2, 7, 19, 20, 21] [76] ⟨[(0, sI kind), (2, sI b), (7, sI set_), (19, .arr 76 1), (20, sI ((List.length (examples a) : Nat) : Int)), (21, sI ((v21 : Nat) : Int))], [(76, .arr 1 (.named 0) ((examples a) : List Val))]⟩ ?_
        refine AW.exit ?_
        refine AW.meet set_ (by kernel_rfl) ⟨?_, e136⟩
        show True
        first | assumption | exact trivial | omega
     ·
      intro set_ hR
      obtain ⟨hJ1, e137⟩ := hR
      replace hJ1 : True := hJ1
      have e138 := e117.trans (Go.Am.then_eq e137)
      refine AW.r0 hC [0, 2, 7, 19, 20, 21] [76] ⟨[(0, sI kind), (2, sI b), (7, sI set_), (19, .arr 76 1), (20, sI ((List.length (examples a) : Nat) : Int)), (21, sI ((v21 + 1 : Nat) : Int))], [(76, .arr 1 (.named 0) ((examples a) : List Val))]⟩ [R64 ((v21 + 1 : Nat) : Int)] ?_ ?_
      ·
       refine ⟨?_, trivial⟩
       ·
        refine R64.of ?_
        first | omega | (dsimp only; omega) | (simp only [lens] at *; omega)
      refine AW.back (x := (set_1, v21)) (set_, v21 + 1) (by kernel_rfl) ⟨?_, k115q, ?_, e138⟩ ?_
      ·
       show True
       first | assumption | exact trivial | (refine ⟨?_, ?_⟩ <;> first | omega | (simp only [lens] at *; omega)) | omega | (simp only [lens] at *; omega)
      ·
       show (List.length (examples a)) - (v21 + 1) < k115q
       first | omega | (simp only [lens]; omega)
      ·
       show (List.length (examples a)) - (v21 + 1) < (List.length (examples a)) - v21
       first | omega | (simp only [lens]; omega)
    ·
     intro h139
     have h139q := (of_decide_eq_false h139)
     have e140 := e114.trans (Go.Am.bif_f h139)
     refine AW.kp [7] [] ⟨[(7, sI set_1)], []⟩ ?_
     refine AW.exit ?_
     refine AW.meet set_1 (by kernel_rfl) ⟨?_, e140⟩
     show True
     first | assumption | exact trivial | omega
  ·
   intro set_1 hR
   obtain ⟨hJ0, e141⟩ := hR
   replace hJ0 : True := hJ0
   have e142 := e4.trans (Go.Am.then_eq e141)
   refine AW.seq (AW.r1 hC [6] [] ⟨[(6, sI set_1)], []⟩ ?_)
   exact AW.ret (AW.rI set_1 e142)
 ·
  intro h143
  have h143q : (kind ≠ 8) ∧ (kind ≠ 9) := (And.imp (fun h => (Go.Am.beq_neg h)) (fun h => (Go.Am.beq_neg h)) (Go.Am.or_neg h143))
  have e144 := e0.trans (Go.Am.bif_f h143)
  refine AW.kp [0, 1, 2, 7] [] ⟨[(0, sI kind), (1, sI a), (2, sI b), (7, sI 0)], []⟩ ?_
  refine AW.skip (AW.seq (AW.seq (AW.r1 hC [0, 1, 2, 7, 46] [] ⟨[(0, sI kind), (1, sI a), (2, sI b), (7, sI 0), (46, sB ((bits .and .i64 (bits .or .i64 a b) 4) != 0))], []⟩ ?_)))
  refine AW.cd ((bits .and .i64 (bits .or .i64 a b) 4) != 0) ?_ ?_
  ·
   intro h145
   have h145q := (Go.Am.bne_pos h145)
   have e146 := e144.trans (Go.Am.bif_t h145)
   refine AW.r1 hC [0, 1, 2, 7] [] ⟨[(0, sI kind), (1, sI a), (2, sI b), (7, sI 4)], []⟩ ?_
   refine AW.seq (AW.seq (AW.r0 hC [0, 7, 54] [] ⟨[(0, sI kind), (7, sI 4), (54, sB (bif ((bits .andNot .i64 a 4) != 0) then ((bits .andNot .i64 b 4) != 0) else false))], []⟩ [((((bits .andNot .i64 a 4) != 0) = true) → ((((bits .andNot .i64 a 4) != 0) = true))), ((((bits .andNot .i64 a 4) != 0) = true) → ((((bits .andNot .i64 a 4) != 0) = true))), ((((bits .andNot .i64 a 4) != 0) = true) → ((((bits .andNot .i64 a 4) != 0) = true)))] ?_ ?_))
   ·
    refine ⟨?_, ?_, ?_, trivial⟩
    ·
     intro g147
     have g147p0 : (bits .andNot .i64 a 4) ≠ 0 := (Go.Am.bne_pos g147)
     first | assumption | exact ⟨by assumption, by assumption⟩
    ·
     intro g148
     have g148p0 : (bits .andNot .i64 a 4) ≠ 0 := (Go.Am.bne_pos g148)
     first | assumption | exact ⟨by assumption, by assumption⟩
    ·
     intro g149
     have g149p0 : (bits .andNot .i64 a 4) ≠ 0 := (Go.Am.bne_pos g149)
     first | assumption | exact ⟨by assumption, by assumption⟩
   refine AW.cd (bif ((bits .andNot .i64 a 4) != 0) then ((bits .andNot .i64 b 4) != 0) else false) ?_ ?_
   ·
    intro h150
    have h150q : ((bits .andNot .i64 a 4) ≠ 0) ∧ ((bits .andNot .i64 b 4) ≠ 0) := (And.imp (fun h => (Go.Am.bne_pos h)) (fun h => (Go.Am.bne_pos h)) (Go.Am.and_pos h150))
    have e151 := e146.trans (Go.Am.bif_t h150)
    refine AW.seq (AW.r1 hC [0, 7] [] ⟨[(0, sI kind), (7, sI (bits .or .i64 4 3))], []⟩ ?_)
    refine AW.seq (AW.r0 hC [7, 66] [] ⟨[(7, sI (bits .or .i64 4 3)), (66, sB (bif (bif (kind == 3) then true else (kind == 4)) then true else (kind == 5)))], []⟩ [(((kind == 3) = false) → (((kind == 3) = false))), (((kind == 3) = false) → (((kind == 3) = false))), (((bif (kind == 3) then true else (kind == 4)) = false) → (((bif (kind == 3) then true else (kind == 4)) = false))), (((bif (kind == 3) then true else (kind == 4)) = false) → (((bif (kind == 3) then true else (kind == 4)) = false)))] ?_ ?_)
    ·
     refine ⟨?_, ?_, ?_, ?_, trivial⟩
     ·
      intro g152
      have g152p0 : kind ≠ 3 := (Go.Am.beq_neg g152)
      first | assumption | exact ⟨by assumption, by assumption⟩
     ·
      intro g153
      have g153p0 : kind ≠ 3 := (Go.Am.beq_neg g153)
      first | assumption | exact ⟨by assumption, by assumption⟩
     ·
      intro g154
      have g154p0 : (kind ≠ 3) ∧ (kind ≠ 4) := (And.imp (fun h => (Go.Am.beq_neg h)) (fun h => (Go.Am.beq_neg h)) (Go.Am.or_neg g154))
      first | assumption | exact ⟨by assumption, by assumption⟩
     ·
      intro g155
      have g155p0 : (kind ≠ 3) ∧ (kind ≠ 4) := (And.imp (fun h => (Go.Am.beq_neg h)) (fun h => (Go.Am.beq_neg h)) (Go.Am.or_neg g155))
      first | assumption | exact ⟨by assumption, by assumption⟩
    refine AW.cd (bif (bif (kind == 3) then true else (kind == 4)) then true else (kind == 5)) ?_ ?_
    ·
     intro h156
     have h156q : ((kind = 3) ∨ (kind = 4)) ∨ (kind = 5) := (Or.imp (fun h => (Or.imp (fun h => (Go.Am.beq_pos h)) (fun h => (Go.Am.beq_pos h)) (Go.Am.or_pos h))) (fun h => (Go.Am.beq_pos h)) (Go.Am.or_pos h156))
     have e157 := e151.trans (Go.Am.bif_t h156)
     refine AW.r1 hC [7] [] ⟨[(7, sI (bits .or .i64 (bits .or .i64 4 3) 4))], []⟩ ?_
     refine AW.seq (AW.r1 hC [6] [] ⟨[(6, sI (bits .or .i64 (bits .or .i64 4 3) 4))], []⟩ ?_)
     exact AW.ret (AW.rI (bits .or .i64 (bits .or .i64 4 3) 4) e157)
    ·
     intro h158
     have h158q : ((kind ≠ 3) ∧ (kind ≠ 4)) ∧ (kind ≠ 5) := (And.imp (fun h => (And.imp (fun h => (Go.Am.beq_neg h)) (fun h => (Go.Am.beq_neg h)) (Go.Am.or_neg h))) (fun h => (Go.Am.beq_neg h)) (Go.Am.or_neg h158))
     have e159 := e151.trans (Go.Am.bif_f h158)
     refine AW.kp [7] [] ⟨[(7, sI (bits .or .i64 4 3))], []⟩ ?_
     refine AW.skip (AW.seq (AW.r1 hC [6] [] ⟨[(6, sI (bits .or .i64 4 3))], []⟩ ?_))
     exact AW.ret (AW.rI (bits .or .i64 4 3) e159)
   ·
    intro h160
    have h160q : ((bits .andNot .i64 a 4) = 0) ∨ ((bits .andNot .i64 b 4) = 0) := (Or.imp (fun h => (Go.Am.bne_neg h)) (fun h => (Go.Am.bne_neg h)) (Go.Am.and_neg h160))
    have e161 := e146.trans (Go.Am.bif_f h160)
    refine AW.kp [7] [] ⟨[(7, sI 4)], []⟩ ?_
    refine AW.skip (AW.seq (AW.r1 hC [6] [] ⟨[(6, sI 4)], []⟩ ?_))
    exact AW.ret (AW.rI 4 e161)
  ·
   intro h162
   have h162q := (Go.Am.bne_neg h162)
   have e163 := e144.trans (Go.Am.bif_f h162)
   refine AW.kp [0, 1, 2, 7] [] ⟨[(0, sI kind), (1, sI a), (2, sI b), (7, sI 0)], []⟩ ?_
   refine AW.skip (AW.seq (AW.seq (AW.r0 hC [0, 7, 54] [] ⟨[(0, sI kind), (7, sI 0), (54, sB (bif ((bits .andNot .i64 a 4) != 0) then ((bits .andNot .i64 b 4) != 0) else false))], []⟩ [((((bits .andNot .i64 a 4) != 0) = true) → ((((bits .andNot .i64 a 4) != 0) = true))), ((((bits .andNot .i64 a 4) != 0) = true) → ((((bits .andNot .i64 a 4) != 0) = true))), ((((bits .andNot .i64 a 4) != 0) = true) → ((((bits .andNot .i64 a 4) != 0) = true)))] ?_ ?_)))
   ·
    refine ⟨?_, ?_, ?_, trivial⟩
    ·
     intro g164
     have g164p0 : (bits .andNot .i64 a 4) ≠ 0 := (Go.Am.bne_pos g164)
     first | assumption | exact ⟨by assumption, by assumption⟩
    ·
     intro g165
     have g165p0 : (bits .andNot .i64 a 4) ≠ 0 := (Go.Am.bne_pos g165)
     first | assumption | exact ⟨by assumption, by assumption⟩
    ·
     intro g166
     have g166p0 : (bits .andNot .i64 a 4) ≠ 0 := (Go.Am.bne_pos g166)
     first | assumption | exact ⟨by assumption, by assumption⟩
   refine AW.cd (bif ((bits .andNot .i64 a 4) != 0) then ((bits .andNot .i64 b 4) != 0) else false) ?_ ?_
   ·
    intro h167
    have h167q : ((bits .andNot .i64 a 4) ≠ 0) ∧ ((bits .andNot .i64 b 4) ≠ 0) := (And.imp (fun h => (Go.Am.bne_pos h)) (fun h => (Go.Am.bne_pos h)) (Go.Am.and_pos h167))
    have e168 := e163.trans (Go.Am.bif_t h167)
    refine AW.seq (AW.r1 hC [0, 7] [] ⟨[(0, sI kind), (7, sI (bits .or .i64 0 3))], []⟩ ?_)
    refine AW.seq (AW.r0 hC [7, 66] [] ⟨[(7, sI (bits .or .i64 0 3)), (66, sB (bif (bif (kind == 3) then true else (kind == 4)) then true else (kind == 5)))], []⟩ [(((kind == 3) = false) → (((kind == 3) = false))), (((kind == 3) = false) → (((kind == 3) = false))), (((bif (kind == 3) then true else (kind == 4)) = false) → (((bif (kind == 3) then true else (kind == 4)) = false))), (((bif (kind == 3) then true else (kind == 4)) = false) → (((bif (kind == 3) then true else (kind == 4)) = false)))] ?_ ?_)
    ·
     refine ⟨?_, ?_, ?_, ?_, trivial⟩
     ·
      intro g169
      have g169p0 : kind ≠ 3 := (Go.Am.beq_neg g169)
      first | assumption | exact ⟨by assumption, by assumption⟩
     ·
      intro g170
      have g170p0 : kind ≠ 3 := (Go.Am.beq_neg g170)
      first | assumption | exact ⟨by assumption, by assumption⟩
     ·
      intro g171
      have g171p0 : (kind ≠ 3) ∧ (kind ≠ 4) := (And.imp (fun h => (Go.Am.beq_neg h)) (fun h => (Go.Am.beq_neg h)) (Go.Am.or_neg g171))
      first | assumption | exact ⟨by assumption, by assumption⟩
     ·
      intro g172
      have g172p0 : (kind ≠ 3) ∧ (kind ≠ 4) := (And.imp (fun h => (Go.Am.beq_neg h)) (fun h => (Go.Am.beq_neg h)) (Go.Am.or_neg g172))
      first | assumption | exact ⟨by assumption, by assumption⟩
    refine AW.cd (bif (bif (kind == 3) then true else (kind == 4)) then true else (kind == 5)) ?_ ?_
    ·
     intro h173
     have h173q : ((kind = 3) ∨ (kind = 4)) ∨ (kind = 5) := (Or.imp (fun h => (Or.imp (fun h => (Go.Am.beq_pos h)) (fun h => (Go.Am.beq_pos h)) (Go.Am.or_pos h))) (fun h => (Go.Am.beq_pos h)) (Go.Am.or_pos h173))
     have e174 := e168.trans (Go.Am.bif_t h173)
     refine AW.r1 hC [7] [] ⟨[(7, sI (bits .or .i64 (bits .or .i64 0 3) 4))], []⟩ ?_
     refine AW.seq (AW.r1 hC [6] [] ⟨[(6, sI (bits .or .i64 (bits .or .i64 0 3) 4))], []⟩ ?_)
     exact AW.ret (AW.rI (bits .or .i64 (bits .or .i64 0 3) 4) e174)
    ·
     intro h175
     have h175q : ((kind ≠ 3) ∧ (kind ≠ 4)) ∧ (kind ≠ 5) := (And.imp (fun h => (And.imp (fun h => (Go.Am.beq_neg h)) (fun h => (Go.Am.beq_neg h)) (Go.Am.or_neg h))) (fun h => (Go.Am.beq_neg h)) (Go.Am.or_neg h175))
     have e176 := e168.trans (Go.Am.bif_f h175)
     refine AW.kp [7] [] ⟨[(7, sI (bits .or .i64 0 3))], []⟩ ?_
     refine AW.skip (AW.seq (AW.r1 hC [6] [] ⟨[(6, sI (bits .or .i64 0 3))], []⟩ ?_))
     exact AW.ret (AW.rI (bits .or .i64 0 3) e176)
   ·
    intro h177
    have h177q : ((bits .andNot .i64 a 4) = 0) ∨ ((bits .andNot .i64 b 4) = 0) := (Or.imp (fun h => (Go.Am.bne_neg h)) (fun h => (Go.Am.bne_neg h)) (Go.Am.and_neg h177))
    have e178 := e163.trans (Go.Am.bif_f h177)
    refine AW.kp [7] [] ⟨[(7, sI 0)], []⟩ ?_
    refine AW.skip (AW.seq (AW.r1 hC [6] [] ⟨[(6, sI 0)], []⟩ ?_))
    exact AW.ret (AW.rI 0 e178)

def truthStates_l1 (kind : Int) (a : Int) (b : Int) (x2 : Int) : Nat → Int → Int → Int
 | 0, out, y1 => out
 | k + 1, out, y1 => (bif (decide (y1 ≤ 4)) then (bif (bif (((a / x2) % 2) == 1) then (((b / y1) % 2) == 1) else false) then (truthStates_l1 kind a b x2 k (bits .or .i64 out (stateOf (combine kind (valueOf x2) (valueOf y1)))) (2 * y1)) else (truthStates_l1 kind a b x2 k out (2 * y1))) else out)

def truthStates_l0 (kind : Int) (a : Int) (b : Int) : Nat → Int → Int → Int
 | 0, out1, x2 => out1
 | k + 1, out1, x2 => (bif (decide (x2 ≤ 4)) then (Go.Am.andThen (truthStates_l1 kind a b x2 (Int.toNat (5 - 1) + 1) out1 1) (fun z => (fun (out : Int) => (truthStates_l0 kind a b k out (2 * x2))) z)) else out1)

def truthStates (kind : Int) (a : Int) (b : Int) : Int := (Go.Am.andThen (truthStates_l0 kind a b (Int.toNat (5 - 1) + 1) 0 1) (fun z => (fun (out1 : Int) => out1) z))

def truthStates_sp : FnSpec := mkSpec [.val (.int .i64), .val (.int .i64), .val (.int .i64)] [.val (.int .i64)] (fun (kind : Int) (a : Int) (b : Int) => (0 ≤ a ∧ a ≤ 7) ∧ (0 ≤ b ∧ b ≤ 7)) (fun (kind : Int) (a : Int) (b : Int) => [⟨(.int .i64), (truthStates kind a b)⟩])

theorem truthStates_ok : FnOK Try.prog 38 truthStates_sp := by
 have hC : CtxOK Try.prog (mkCtx tyL [(37, stateOf_sp), (52, combine_sp), (53, valueOf_sp)]) := CtxOK.cons stateOf_ok (CtxOK.cons combine_ok (CtxOK.cons valueOf_ok (CtxOK.nil tyOK)))
 refine FnOK.of_body Try.func38 (by kernel_rfl) rfl (C := (mkCtx tyL [(37, stateOf_sp), (52, combine_sp), (53, valueOf_sp)])) hC.ty (by kernel_rfl) ?_
 intro (kind : Int) (a : Int) (b : Int) hwf hpre E
 have hpre : (0 ≤ a ∧ a ≤ 7) ∧ (0 ≤ b ∧ b ≤ 7) := hpre
 have hw_kind : Wf ⟨(.int .i64), (kind : Int)⟩ := hwf _ (List.Mem.head _)
 have hr_kind : -9223372036854775808 ≤ kind ∧ kind ≤ 9223372036854775807 := hw_kind.int_inv
 have hw_a : Wf ⟨(.int .i64), (a : Int)⟩ := hwf _ (List.Mem.tail _ (List.Mem.head _))
 have hr_a : -9223372036854775808 ≤ a ∧ a ≤ 9223372036854775807 := hw_a.int_inv
 have hw_b : Wf ⟨(.int .i64), (b : Int)⟩ := hwf _ (List.Mem.tail _ (List.Mem.tail _ (List.Mem.head _)))
 have hr_b : -9223372036854775808 ≤ b ∧ b ≤ 9223372036854775807 := hw_b.int_inv
 have e0 : truthStates kind a b = truthStates kind a b := rfl
 refine AW.seq (AW.r1 hC [0, 1, 2] [] ⟨[(0, sI kind), (1, sI a), (2, sI b)], []⟩ ?_)
 refine AW.seq (AW.r1 hC [0, 1, 2, 7] [] ⟨[(0, sI kind), (1, sI a), (2, sI b), (7, sI 0)], []⟩ ?_)
 refine AW.seq (AW.seq (AW.r1 hC [0, 1, 2, 7, 8] [] ⟨[(0, sI kind), (1, sI a), (2, sI b), (7, sI 0), (8, sI 1)], []⟩ ?_))
 refine AW.cutQ (α := Int) (fun x => ⟨[(7, sI x)], []⟩) (fun x => (True) ∧ (truthStates_l0 kind a b (Int.toNat (5 - 1) + 1) 0 1) = x) ?_ ?_
 ·
  skip
  refine AW.block (AW.loop (α := Int × Int) (fun x => ⟨[(0, sI kind), (1, sI a), (2, sI b), (7, sI x.1), (8, sI x.2)], []⟩) (fun x => (1 ≤ x.2 ∧ x.2 ≤ 8) ∧ ∃ k, Int.toNat (5 - x.2) < k ∧ (truthStates_l0 kind a b (Int.toNat (5 - 1) + 1) 0 1) = truthStates_l0 kind a b k x.1 x.2) (fun x => Int.toNat (5 - x.2)) (0, 1) (by kernel_rfl) ⟨?_, _, Nat.lt_succ_self _, rfl⟩ ?_)
  ·
   show 1 ≤ 1 ∧ 1 ≤ 8
   first | exact trivial | (refine ⟨?_, ?_⟩ <;> first | omega | simp) | omega | simp
  ·
   intro x hR
   obtain ⟨out1, x2⟩ := x
   obtain ⟨hI0, k199, hk197, e198⟩ := hR
   replace hI0 : 1 ≤ x2 ∧ x2 ≤ 8 := hI0
   replace hk197 : Int.toNat (5 - x2) < k199 := hk197
   obtain ⟨k199q, rfl⟩ : ∃ k, k199 = k + 1 := ⟨k199 - 1, by omega⟩
   refine AW.seq (AW.seq (AW.r1 hC [0, 1, 2, 7, 8, 11] [] ⟨[(0, sI kind), (1, sI a), (2, sI b), (7, sI out1), (8, sI x2), (11, sB (decide (x2 ≤ 4)))], []⟩ ?_))
   refine AW.cd (decide (x2 ≤ 4)) ?_ ?_
   ·
    intro h200
    have h200q := (of_decide_eq_true h200)
    have e201 := e198.trans (Go.Am.bif_t h200)
    refine AW.kp [0, 1, 2, 7, 8] [] ⟨[(0, sI kind), (1, sI a), (2, sI b), (7, sI out1), (8, sI x2)], []⟩ ?_
    refine AW.skip (AW.seq (AW.block (AW.seq (AW.r1 hC [0, 1, 2, 7, 8, 9] [] ⟨[(0, sI kind), (1, sI a), (2, sI b), (7, sI out1), (8, sI x2), (9, sI 1)], []⟩ ?_))))
    refine AW.cutQ (α := Int) (fun x => ⟨[(0, sI kind), (1, sI a), (2, sI b), (7, sI x), (8, sI x2)], []⟩) (fun x => (True) ∧ (truthStates_l1 kind a b x2 (Int.toNat (5 - 1) + 1) out1 1) = x) ?_ ?_
    ·
     skip
     refine AW.block (AW.loop (α := Int × Int) (fun x => ⟨[(0, sI kind), (1, sI a), (2, sI b), (7, sI x.1), (8, sI x2), (9, sI x.2)], []⟩) (fun x => (1 ≤ x.2 ∧ x.2 ≤ 8) ∧ ∃ k, Int.toNat (5 - x.2) < k ∧ (truthStates_l1 kind a b x2 (Int.toNat (5 - 1) + 1) out1 1) = truthStates_l1 kind a b x2 k x.1 x.2) (fun x => Int.toNat (5 - x.2)) (out1, 1) (by kernel_rfl) ⟨?_, _, Nat.lt_succ_self _, rfl⟩ ?_)
     ·
      show 1 ≤ 1 ∧ 1 ≤ 8
      first | exact trivial | (refine ⟨?_, ?_⟩ <;> first | omega | simp) | omega | simp
     ·
      intro x hR
      obtain ⟨out, y1⟩ := x
      obtain ⟨hI1, k236, hk234, e235⟩ := hR
      replace hI1 : 1 ≤ y1 ∧ y1 ≤ 8 := hI1
      replace hk234 : Int.toNat (5 - y1) < k236 := hk234
      obtain ⟨k236q, rfl⟩ : ∃ k, k236 = k + 1 := ⟨k236 - 1, by omega⟩
      refine AW.seq (AW.seq (AW.r1 hC [0, 1, 2, 7, 8, 9, 15] [] ⟨[(0, sI kind), (1, sI a), (2, sI b), (7, sI out), (8, sI x2), (9, sI y1), (15, sB (decide (y1 ≤ 4)))], []⟩ ?_))
      refine AW.cd (decide (y1 ≤ 4)) ?_ ?_
      ·
       intro h237
       have h237q := (of_decide_eq_true h237)
       have e238 := e235.trans (Go.Am.bif_t h237)
       refine AW.kp [0, 1, 2, 7, 8, 9] [] ⟨[(0, sI kind), (1, sI a), (2, sI b), (7, sI out), (8, sI x2), (9, sI y1)], []⟩ ?_
       refine AW.skip (AW.seq (AW.block (AW.seq (AW.r0 hC [0, 1, 2, 7, 8, 9, 29] [] ⟨[(0, sI kind), (1, sI a), (2, sI b), (7, sI out), (8, sI x2), (9, sI y1), (29, sB (bif (((a / x2) % 2) == 1) then (((b / y1) % 2) == 1) else false))], []⟩ [(0 ≤ a ∧ 0 < x2), (0 ≤ (a / x2) ∧ 0 < (2 : Int)), (((((a / x2) % 2) == 1) = true) → (((((a / x2) % 2) == 1) = true))), (((((a / x2) % 2) == 1) = true) → (((((a / x2) % 2) == 1) = true))), (((((a / x2) % 2) == 1) = true) → (0 ≤ b ∧ 0 < y1)), (((((a / x2) % 2) == 1) = true) → (((((a / x2) % 2) == 1) = true))), (((((a / x2) % 2) == 1) = true) → (0 ≤ (b / y1) ∧ 0 < (2 : Int))), (((((a / x2) % 2) == 1) = true) → (((((a / x2) % 2) == 1) = true))), (((((a / x2) % 2) == 1) = true) → (((((a / x2) % 2) == 1) = true)))] ?_ ?_))))
       ·
        refine ⟨?_, ?_, ?_, ?_, ?_, ?_, ?_, ?_, ?_, trivial⟩
        ·
         first | omega | (dsimp only; omega) | (simp only [lens] at *; omega)
        ·
         exact ⟨Int.ediv_nonneg hpre.1.1 (by omega), by decide⟩
        ·
         intro g239
         have g239p0 : ((a / x2) % 2) = 1 := (Go.Am.beq_pos g239)
         first | assumption | exact ⟨by assumption, by assumption⟩
        ·
         intro g240
         have g240p0 : ((a / x2) % 2) = 1 := (Go.Am.beq_pos g240)
         first | assumption | exact ⟨by assumption, by assumption⟩
        ·
         intro g241
         have g241p0 : ((a / x2) % 2) = 1 := (Go.Am.beq_pos g241)
         first | omega | (dsimp only; omega) | (simp only [lens] at *; omega)
        ·
         intro g242
         have g242p0 : ((a / x2) % 2) = 1 := (Go.Am.beq_pos g242)
         first | assumption | exact ⟨by assumption, by assumption⟩
        ·
         intro g243
         have g243p0 : ((a / x2) % 2) = 1 := (Go.Am.beq_pos g243)
         exact ⟨Int.ediv_nonneg hpre.2.1 (by omega), by decide⟩
        ·
         intro g244
         have g244p0 : ((a / x2) % 2) = 1 := (Go.Am.beq_pos g244)
         first | assumption | exact ⟨by assumption, by assumption⟩
        ·
         intro g245
         have g245p0 : ((a / x2) % 2) = 1 := (Go.Am.beq_pos g245)
         first | assumption | exact ⟨by assumption, by assumption⟩
       refine AW.cd (bif (((a / x2) % 2) == 1) then (((b / y1) % 2) == 1) else false) ?_ ?_
       ·
        intro h246
        have h246q : (((a / x2) % 2) = 1) ∧ (((b / y1) % 2) = 1) := (And.imp (fun h => (Go.Am.beq_pos h)) (fun h => (Go.Am.beq_pos h)) (Go.Am.and_pos h246))
        have e247 := e238.trans (Go.Am.bif_t h246)
        refine AW.r0 hC [0, 1, 2, 7, 8, 9] [] ⟨[(0, sI kind), (1, sI a), (2, sI b), (7, sI (bits .or .i64 out (stateOf (combine kind (valueOf x2) (valueOf y1))))), (8, sI x2), (9, sI y1)], []⟩ [(True), (True), (((-9999 ≤ Val.N (valueOf x2) ∧ Val.N (valueOf x2) ≤ 9999) ∧ (-9999 ≤ Val.N (valueOf y1) ∧ Val.N (valueOf y1) ≤ 9999))), (True)] ?_ ?_
        ·
         refine ⟨?_, ?_, ?_, ?_, trivial⟩
         ·
          trivial
         ·
          trivial
         ·
          exact ⟨valueOf_b _, valueOf_b _⟩
         ·
          trivial
        refine AW.r0 hC [0, 1, 2, 7, 8, 9] [] ⟨[(0, sI kind), (1, sI a), (2, sI b), (7, sI (bits .or .i64 out (stateOf (combine kind (valueOf x2) (valueOf y1))))), (8, sI x2), (9, sI (2 * y1))], []⟩ [R64 (2 * y1)] ?_ ?_
        ·
         refine ⟨?_, trivial⟩
         ·
          refine R64.of ?_
          first | omega | (dsimp only; omega) | (simp only [lens] at *; omega)
        refine AW.back (x := (out, y1)) ((bits .or .i64 out (stateOf (combine kind (valueOf x2) (valueOf y1)))), (2 * y1)) (by kernel_rfl) ⟨?_, k236q, ?_, e247⟩ ?_
        ·
         show 1 ≤ (2 * y1) ∧ (2 * y1) ≤ 8
         first | assumption | exact trivial | (refine ⟨?_, ?_⟩ <;> first | omega | (simp only [lens] at *; omega)) | omega | (simp only [lens] at *; omega)
        ·
         show Int.toNat (5 - (2 * y1)) < k236q
         first | omega | (simp only [lens]; omega)
        ·
         show Int.toNat (5 - (2 * y1)) < Int.toNat (5 - y1)
         first | omega | (simp only [lens]; omega)
       ·
        intro h248
        have h248q : (((a / x2) % 2) ≠ 1) ∨ (((b / y1) % 2) ≠ 1) := (Or.imp (fun h => (Go.Am.beq_neg h)) (fun h => (Go.Am.beq_neg h)) (Go.Am.and_neg h248))
        have e249 := e238.trans (Go.Am.bif_f h248)
        refine AW.kp [0, 1, 2, 7, 8, 9] [] ⟨[(0, sI kind), (1, sI a), (2, sI b), (7, sI out), (8, sI x2), (9, sI y1)], []⟩ ?_
        refine AW.skip (AW.r0 hC [0, 1, 2, 7, 8, 9] [] ⟨[(0, sI kind), (1, sI a), (2, sI b), (7, sI out), (8, sI x2), (9, sI (2 * y1))], []⟩ [R64 (2 * y1)] ?_ ?_)
        ·
         refine ⟨?_, trivial⟩
         ·
          refine R64.of ?_
          first | omega | (dsimp only; omega) | (simp only [lens] at *; omega)
        refine AW.back (x := (out, y1)) (out, (2 * y1)) (by kernel_rfl) ⟨?_, k236q, ?_, e249⟩ ?_
        ·
         show 1 ≤ (2 * y1) ∧ (2 * y1) ≤ 8
         first | assumption | exact trivial | (refine ⟨?_, ?_⟩ <;> first | omega | (simp only [lens] at *; omega)) | omega | (simp only [lens] at *; omega)
        ·
         show Int.toNat (5 - (2 * y1)) < k236q
         first | omega | (simp only [lens]; omega)
        ·
         show Int.toNat (5 - (2 * y1)) < Int.toNat (5 - y1)
         first | omega | (simp only [lens]; omega)
      ·
       intro h250
       have h250q := (of_decide_eq_false h250)
       have e251 := e235.trans (Go.Am.bif_f h250)
       refine AW.kp [0, 1, 2, 7, 8] [] ⟨[(0, sI kind), (1, sI a), (2, sI b), (7, sI out), (8, sI x2)], []⟩ ?_
       refine AW.exit ?_
       refine AW.meet out (by kernel_rfl) ⟨?_, e251⟩
       show True
       first | assumption | exact trivial | omega
    ·
     intro out hR
     obtain ⟨hJ1, e252⟩ := hR
     replace hJ1 : True := hJ1
     have e253 := e201.trans (Go.Am.then_eq e252)
     refine AW.r0 hC [0, 1, 2, 7, 8] [] ⟨[(0, sI kind), (1, sI a), (2, sI b), (7, sI out), (8, sI (2 * x2))], []⟩ [R64 (2 * x2)] ?_ ?_
     ·
      refine ⟨?_, trivial⟩
      ·
       refine R64.of ?_
       first | omega | (dsimp only; omega) | (simp only [lens] at *; omega)
     refine AW.back (x := (out1, x2)) (out, (2 * x2)) (by kernel_rfl) ⟨?_, k199q, ?_, e253⟩ ?_
     ·
      show 1 ≤ (2 * x2) ∧ (2 * x2) ≤ 8
      first | assumption | exact trivial | (refine ⟨?_, ?_⟩ <;> first | omega | (simp only [lens] at *; omega)) | omega | (simp only [lens] at *; omega)
     ·
      show Int.toNat (5 - (2 * x2)) < k199q
      first | omega | (simp only [lens]; omega)
     ·
      show Int.toNat (5 - (2 * x2)) < Int.toNat (5 - x2)
      first | omega | (simp only [lens]; omega)
   ·
    intro h254
    have h254q := (of_decide_eq_false h254)
    have e255 := e198.trans (Go.Am.bif_f h254)
    refine AW.kp [7] [] ⟨[(7, sI out1)], []⟩ ?_
    refine AW.exit ?_
    refine AW.meet out1 (by kernel_rfl) ⟨?_, e255⟩
    show True
    first | assumption | exact trivial | omega
 ·
  intro out1 hR
  obtain ⟨hJ0, e256⟩ := hR
  replace hJ0 : True := hJ0
  have e257 := e0.trans (Go.Am.then_eq e256)
  refine AW.seq (AW.r1 hC [6] [] ⟨[(6, sI out1)], []⟩ ?_)
  exact AW.ret (AW.rI out1 e257)

end
end Go.Proofs.Ytophfihhdelbiaa
