/-
  A part of the proof of this claim (Ad7): what functions of the program compute, and plain facts of that. No conditions.
-/
import Derived.Test.YtmijmkbnmcmgcaaAdM
import Derived.Test.YtmijmkbnmcmgcaaAnA
set_option linter.all false
namespace Go.Proofs.Ytmijmkbnmcmgcaa
open Go Go.Am

def equalInts_l0 (a : List Int) (b : List Int) : Nat → Nat → Unit ⊕ Bool
  | 0, i => .inl ()
  | k + 1, i => (bif (decide (((i : Nat) : Int) < ((List.length a : Nat) : Int))) then (bif ((List.getD a i 0) != (List.getD b i 0)) then (.inr false) else (equalInts_l0 a b k (i + 1))) else (.inl ()))

def equalInts (a : List Int) (b : List Int) : Bool := (bif (((List.length a : Nat) : Int) != ((List.length b : Nat) : Int)) then false else (Sum.elim (fun _ => true) (fun r => r) (equalInts_l0 a b ((List.length a) - 0 + 1) 0)))

def equalInts_sp : FnSpec := mkSpec [.val (.slice (.int .i64)), .val (.slice (.int .i64))] [.val .bool] (fun (a : List Int) (b : List Int) => True) (fun (a : List Int) (b : List Int) => [⟨.bool, (equalInts a b)⟩])

theorem equalInts_ok : FnOK Try.prog 24 equalInts_sp := by
  have hC : CtxOK Try.prog (mkCtx tyL []) := CtxOK.nil tyOK
  have hM : Try.prog.follows .mixedOrders = true := Try.checked.mixed
  refine FnOK.of_body Try.func24 (by kernel_rfl) rfl (C := (mkCtx tyL [])) hC.ty (by decide) ?_
  intro (a : List Int) (b : List Int) hwf hpre E
  have hpre : True := hpre
  have hw_a : Wf ⟨(.slice (.int .i64)), (a : List Int)⟩ := hwf _ (List.Mem.head _)
  have hl_a : ((List.length a : Nat) : Int) ≤ 9223372036854775807 := hw_a.len
  have hw_b : Wf ⟨(.slice (.int .i64)), (b : List Int)⟩ := hwf _ (List.Mem.tail _ (List.Mem.head _))
  have hl_b : ((List.length b : Nat) : Int) ≤ 9223372036854775807 := hw_b.len
  have e0 : equalInts a b = equalInts a b := rfl
  refine AW.seq ?_
  refine AW.reg hC  false [] [0, 1] []
    ⟨[(0, .data (.slice (.int .i64)) (a : List Int)), (1, .data (.slice (.int .i64)) (b : List Int))], []⟩
    [] (by kernel_rfl) ?_ ?_
  · exact trivial
  refine AW.seq ?_
  refine AW.seq ?_
  refine AW.reg hC  false [] [0, 1, 10] []
    ⟨[(0, .data (.slice (.int .i64)) (a : List Int)), (1, .data (.slice (.int .i64)) (b : List Int)), (10, .bool (((List.length a : Nat) : Int) != ((List.length b : Nat) : Int)))], []⟩
    [] (by kernel_rfl) ?_ ?_
  · exact trivial
  refine AW.cond (b := (((List.length a : Nat) : Int) != ((List.length b : Nat) : Int))) (by kernel_rfl) ?_ ?_
  · intro h1
    have h1q : ((List.length a : Nat) : Int) ≠ ((List.length b : Nat) : Int) := (Go.Am.bne_pos h1)
    have e2 := e0.trans (Go.Am.bif_t h1)
    refine AW.seq ?_
    refine AW.reg hC  false [] [4] []
      ⟨[(4, .bool false)], []⟩
      [] (by kernel_rfl) ?_ ?_
    · exact trivial
    refine AW.ret ?_
    exact AW.retE (β := Bool) (fun v => [⟨.bool, v⟩]) (fun v => []) (v := false) e2 (by kernel_rfl) rfl rfl
  · intro h3
    have h3q : ((List.length a : Nat) : Int) = ((List.length b : Nat) : Int) := (Go.Am.bne_neg h3)
    have e4 := e0.trans (Go.Am.bif_f h3)
    refine AW.keep [0, 1] [] ⟨[(0, .data (.slice (.int .i64)) (a : List Int)), (1, .data (.slice (.int .i64)) (b : List Int))], []⟩ (by kernel_rfl) ?_
    refine AW.skip ?_
    refine AW.seq ?_
    refine AW.seq ?_
    refine AW.reg hC  false [] [0, 1, 5] []
      ⟨[(0, .data (.slice (.int .i64)) (a : List Int)), (1, .data (.slice (.int .i64)) (b : List Int)), (5, .int .i64 0)], []⟩
      [] (by kernel_rfl) ?_ ?_
    · exact trivial
    refine AW.cutQ (α := Unit) (fun x => ⟨[], []⟩) (fun x => (True) ∧ (equalInts_l0 a b ((List.length a) - 0 + 1) 0) = (.inl ())) ?_ ?_
    · skip
      refine AW.block ?_
      refine AW.loop (α := Nat) (fun x => ⟨[(0, .data (.slice (.int .i64)) (a : List Int)), (1, .data (.slice (.int .i64)) (b : List Int)), (5, .int .i64 ((x : Nat) : Int))], []⟩) (fun x => (True) ∧ ∃ k, (List.length a) - x < k ∧ (equalInts_l0 a b ((List.length a) - 0 + 1) 0) = equalInts_l0 a b k x) (fun x => (List.length a) - x) 0 (by kernel_rfl) ⟨?_, _, Nat.lt_succ_self _, rfl⟩ ?_
      · show True
        first | exact trivial | (refine ⟨?_, ?_⟩ <;> first | omega | simp) | omega | simp
      · intro i hR
        obtain ⟨hI0, k34, hk32, e33⟩ := hR
        replace hI0 : True := hI0
        replace hk32 : (List.length a) - i < k34 := hk32
        obtain ⟨k34q, rfl⟩ : ∃ k, k34 = k + 1 := ⟨k34 - 1, by omega⟩
        refine AW.seq ?_
        refine AW.seq ?_
        refine AW.reg hC  false [] [0, 1, 5, 14] []
          ⟨[(0, .data (.slice (.int .i64)) (a : List Int)), (1, .data (.slice (.int .i64)) (b : List Int)), (5, .int .i64 ((i : Nat) : Int)), (14, .bool (decide (((i : Nat) : Int) < ((List.length a : Nat) : Int))))], []⟩
          [] (by kernel_rfl) ?_ ?_
        · exact trivial
        refine AW.cond (b := (decide (((i : Nat) : Int) < ((List.length a : Nat) : Int)))) (by kernel_rfl) ?_ ?_
        · intro h35
          have h35q : ((i : Nat) : Int) < ((List.length a : Nat) : Int) := (of_decide_eq_true h35)
          have e36 := e33.trans (Go.Am.bif_t h35)
          refine AW.keep [0, 1, 5] [] ⟨[(0, .data (.slice (.int .i64)) (a : List Int)), (1, .data (.slice (.int .i64)) (b : List Int)), (5, .int .i64 ((i : Nat) : Int))], []⟩ (by kernel_rfl) ?_
          refine AW.skip ?_
          refine AW.seq ?_
          refine AW.block ?_
          refine AW.seq ?_
          refine AW.regD hC hM  false [] [0, 1, 5, 25] []
            ⟨[(0, .data (.slice (.int .i64)) (a : List Int)), (1, .data (.slice (.int .i64)) (b : List Int)), (5, .int .i64 ((i : Nat) : Int)), (25, .bool ((List.getD a i 0) != (List.getD b i 0)))], []⟩
            [(0 ≤ ((i : Nat) : Int) ∧ ((i : Nat) : Int) < ((List.length a : Nat) : Int)), (0 ≤ ((i : Nat) : Int) ∧ ((i : Nat) : Int) < ((List.length b : Nat) : Int))] (by kernel_rfl) ?_ ?_
          · refine ⟨?_, ?_, trivial⟩
            · -- r6.0: 0 ≤ ((i : Nat) : Int) ∧ ((i : Nat) : Int) < ((List.length a : Nat) : Int)
              first | omega | (dsimp only; omega) | (simp only [List.length_set, List.length_append, List.length_replicate, List.length_cons, List.length_nil, List.length_take, List.length_drop] at *; omega)
            · -- r6.1: 0 ≤ ((i : Nat) : Int) ∧ ((i : Nat) : Int) < ((List.length b : Nat) : Int)
              first | omega | (dsimp only; omega) | (simp only [List.length_set, List.length_append, List.length_replicate, List.length_cons, List.length_nil, List.length_take, List.length_drop] at *; omega)
          refine AW.cond (b := ((List.getD a i 0) != (List.getD b i 0))) (by kernel_rfl) ?_ ?_
          · intro h37
            have h37q : (List.getD a i 0) ≠ (List.getD b i 0) := (Go.Am.bne_pos h37)
            have e38 := e36.trans (Go.Am.bif_t h37)
            refine AW.seq ?_
            refine AW.reg hC  false [] [4] []
              ⟨[(4, .bool false)], []⟩
              [] (by kernel_rfl) ?_ ?_
            · exact trivial
            refine AW.ret ?_
            have e39 := e4.trans (Go.Am.elim_r e38)
            exact AW.retE (β := Bool) (fun v => [⟨.bool, v⟩]) (fun v => []) (v := false) e39 (by kernel_rfl) rfl rfl
          · intro h40
            have h40q : (List.getD a i 0) = (List.getD b i 0) := (Go.Am.bne_neg h40)
            have e41 := e36.trans (Go.Am.bif_f h40)
            refine AW.keep [0, 1, 5] [] ⟨[(0, .data (.slice (.int .i64)) (a : List Int)), (1, .data (.slice (.int .i64)) (b : List Int)), (5, .int .i64 ((i : Nat) : Int))], []⟩ (by kernel_rfl) ?_
            refine AW.skip ?_
            refine AW.reg hC  false [] [0, 1, 5] []
              ⟨[(0, .data (.slice (.int .i64)) (a : List Int)), (1, .data (.slice (.int .i64)) (b : List Int)), (5, .int .i64 ((i + 1 : Nat) : Int))], []⟩
              [(-9223372036854775808 ≤ ((i + 1 : Nat) : Int) ∧ ((i + 1 : Nat) : Int) ≤ 9223372036854775807)] (by kernel_rfl) ?_ ?_
            · refine ⟨?_, trivial⟩
              · -- r5.0: -9223372036854775808 ≤ ((i + 1 : Nat) : Int) ∧ ((i + 1 : Nat) : Int) ≤ 9223372036854775807
                first | omega | (dsimp only; omega) | (simp only [List.length_set, List.length_append, List.length_replicate, List.length_cons, List.length_nil, List.length_take, List.length_drop] at *; omega)
            refine AW.back (x := i) (i + 1) (by kernel_rfl) ⟨?_, k34q, ?_, e41⟩ ?_
            · show True
              first | assumption | exact trivial | (refine ⟨?_, ?_⟩ <;> first | omega | (simp only [List.length_set, List.length_append, List.length_replicate, List.length_cons, List.length_nil, List.length_take, List.length_drop] at *; omega)) | omega | (simp only [List.length_set, List.length_append, List.length_replicate, List.length_cons, List.length_nil, List.length_take, List.length_drop] at *; omega)
            · show (List.length a) - (i + 1) < k34q
              first | omega | (simp only [List.length_set, List.length_append, List.length_replicate, List.length_cons, List.length_nil, List.length_take, List.length_drop]; omega)
            · show (List.length a) - (i + 1) < (List.length a) - i
              first | omega | (simp only [List.length_set, List.length_append, List.length_replicate, List.length_cons, List.length_nil, List.length_take, List.length_drop]; omega)
        · intro h42
          have h42q : ¬ (((i : Nat) : Int) < ((List.length a : Nat) : Int)) := (of_decide_eq_false h42)
          have e43 := e33.trans (Go.Am.bif_f h42)
          refine AW.keep [] [] ⟨[], []⟩ (by kernel_rfl) ?_
          refine AW.exit ?_
          refine AW.meet () (by kernel_rfl) ⟨?_, e43⟩
          show True
          first | assumption | exact trivial | omega
    · intro x hR
      obtain ⟨hJ0, e44⟩ := hR
      replace hJ0 : True := hJ0
      have e45 := e4.trans (Go.Am.elim_l e44)
      refine AW.seq ?_
      refine AW.reg hC  false [] [4] []
        ⟨[(4, .bool true)], []⟩
        [] (by kernel_rfl) ?_ ?_
      · exact trivial
      refine AW.ret ?_
      exact AW.retE (β := Bool) (fun v => [⟨.bool, v⟩]) (fun v => []) (v := true) e45 (by kernel_rfl) rfl rfl

def eqIntS_l0 (a : List Int) (b : List Int) : Nat → Nat → Unit ⊕ Bool
  | 0, i => .inl ()
  | k + 1, i => (bif (decide (((i : Nat) : Int) < ((List.length a : Nat) : Int))) then (bif ((List.getD a i 0) != (List.getD b i 0)) then (.inr false) else (eqIntS_l0 a b k (i + 1))) else (.inl ()))

def eqIntS (a : List Int) (b : List Int) : Bool := (bif (((List.length a : Nat) : Int) != ((List.length b : Nat) : Int)) then false else (Sum.elim (fun _ => true) (fun r => r) (eqIntS_l0 a b ((List.length a) - 0 + 1) 0)))

def eqIntS_sp : FnSpec := mkSpec [.val (.slice (.int .i64)), .val (.slice (.int .i64))] [.val .bool] (fun (a : List Int) (b : List Int) => True) (fun (a : List Int) (b : List Int) => [⟨.bool, (eqIntS a b)⟩])

theorem eqIntS_ok : FnOK Try.prog 26 eqIntS_sp := by
  have hC : CtxOK Try.prog (mkCtx tyL []) := CtxOK.nil tyOK
  have hM : Try.prog.follows .mixedOrders = true := Try.checked.mixed
  refine FnOK.of_body Try.func26 (by kernel_rfl) rfl (C := (mkCtx tyL [])) hC.ty (by decide) ?_
  intro (a : List Int) (b : List Int) hwf hpre E
  have hpre : True := hpre
  have hw_a : Wf ⟨(.slice (.int .i64)), (a : List Int)⟩ := hwf _ (List.Mem.head _)
  have hl_a : ((List.length a : Nat) : Int) ≤ 9223372036854775807 := hw_a.len
  have hw_b : Wf ⟨(.slice (.int .i64)), (b : List Int)⟩ := hwf _ (List.Mem.tail _ (List.Mem.head _))
  have hl_b : ((List.length b : Nat) : Int) ≤ 9223372036854775807 := hw_b.len
  have e0 : eqIntS a b = eqIntS a b := rfl
  refine AW.seq ?_
  refine AW.reg hC  false [] [0, 1] []
    ⟨[(0, .data (.slice (.int .i64)) (a : List Int)), (1, .data (.slice (.int .i64)) (b : List Int))], []⟩
    [] (by kernel_rfl) ?_ ?_
  · exact trivial
  refine AW.seq ?_
  refine AW.seq ?_
  refine AW.reg hC  false [] [0, 1, 10] []
    ⟨[(0, .data (.slice (.int .i64)) (a : List Int)), (1, .data (.slice (.int .i64)) (b : List Int)), (10, .bool (((List.length a : Nat) : Int) != ((List.length b : Nat) : Int)))], []⟩
    [] (by kernel_rfl) ?_ ?_
  · exact trivial
  refine AW.cond (b := (((List.length a : Nat) : Int) != ((List.length b : Nat) : Int))) (by kernel_rfl) ?_ ?_
  · intro h1
    have h1q : ((List.length a : Nat) : Int) ≠ ((List.length b : Nat) : Int) := (Go.Am.bne_pos h1)
    have e2 := e0.trans (Go.Am.bif_t h1)
    refine AW.seq ?_
    refine AW.reg hC  false [] [4] []
      ⟨[(4, .bool false)], []⟩
      [] (by kernel_rfl) ?_ ?_
    · exact trivial
    refine AW.ret ?_
    exact AW.retE (β := Bool) (fun v => [⟨.bool, v⟩]) (fun v => []) (v := false) e2 (by kernel_rfl) rfl rfl
  · intro h3
    have h3q : ((List.length a : Nat) : Int) = ((List.length b : Nat) : Int) := (Go.Am.bne_neg h3)
    have e4 := e0.trans (Go.Am.bif_f h3)
    refine AW.keep [0, 1] [] ⟨[(0, .data (.slice (.int .i64)) (a : List Int)), (1, .data (.slice (.int .i64)) (b : List Int))], []⟩ (by kernel_rfl) ?_
    refine AW.skip ?_
    refine AW.seq ?_
    refine AW.seq ?_
    refine AW.reg hC  false [] [0, 1, 5] []
      ⟨[(0, .data (.slice (.int .i64)) (a : List Int)), (1, .data (.slice (.int .i64)) (b : List Int)), (5, .int .i64 0)], []⟩
      [] (by kernel_rfl) ?_ ?_
    · exact trivial
    refine AW.cutQ (α := Unit) (fun x => ⟨[], []⟩) (fun x => (True) ∧ (eqIntS_l0 a b ((List.length a) - 0 + 1) 0) = (.inl ())) ?_ ?_
    · skip
      refine AW.block ?_
      refine AW.loop (α := Nat) (fun x => ⟨[(0, .data (.slice (.int .i64)) (a : List Int)), (1, .data (.slice (.int .i64)) (b : List Int)), (5, .int .i64 ((x : Nat) : Int))], []⟩) (fun x => (True) ∧ ∃ k, (List.length a) - x < k ∧ (eqIntS_l0 a b ((List.length a) - 0 + 1) 0) = eqIntS_l0 a b k x) (fun x => (List.length a) - x) 0 (by kernel_rfl) ⟨?_, _, Nat.lt_succ_self _, rfl⟩ ?_
      · show True
        first | exact trivial | (refine ⟨?_, ?_⟩ <;> first | omega | simp) | omega | simp
      · intro i hR
        obtain ⟨hI0, k34, hk32, e33⟩ := hR
        replace hI0 : True := hI0
        replace hk32 : (List.length a) - i < k34 := hk32
        obtain ⟨k34q, rfl⟩ : ∃ k, k34 = k + 1 := ⟨k34 - 1, by omega⟩
        refine AW.seq ?_
        refine AW.seq ?_
        refine AW.reg hC  false [] [0, 1, 5, 14] []
          ⟨[(0, .data (.slice (.int .i64)) (a : List Int)), (1, .data (.slice (.int .i64)) (b : List Int)), (5, .int .i64 ((i : Nat) : Int)), (14, .bool (decide (((i : Nat) : Int) < ((List.length a : Nat) : Int))))], []⟩
          [] (by kernel_rfl) ?_ ?_
        · exact trivial
        refine AW.cond (b := (decide (((i : Nat) : Int) < ((List.length a : Nat) : Int)))) (by kernel_rfl) ?_ ?_
        · intro h35
          have h35q : ((i : Nat) : Int) < ((List.length a : Nat) : Int) := (of_decide_eq_true h35)
          have e36 := e33.trans (Go.Am.bif_t h35)
          refine AW.keep [0, 1, 5] [] ⟨[(0, .data (.slice (.int .i64)) (a : List Int)), (1, .data (.slice (.int .i64)) (b : List Int)), (5, .int .i64 ((i : Nat) : Int))], []⟩ (by kernel_rfl) ?_
          refine AW.skip ?_
          refine AW.seq ?_
          refine AW.block ?_
          refine AW.seq ?_
          refine AW.regD hC hM  false [] [0, 1, 5, 25] []
            ⟨[(0, .data (.slice (.int .i64)) (a : List Int)), (1, .data (.slice (.int .i64)) (b : List Int)), (5, .int .i64 ((i : Nat) : Int)), (25, .bool ((List.getD a i 0) != (List.getD b i 0)))], []⟩
            [(0 ≤ ((i : Nat) : Int) ∧ ((i : Nat) : Int) < ((List.length a : Nat) : Int)), (0 ≤ ((i : Nat) : Int) ∧ ((i : Nat) : Int) < ((List.length b : Nat) : Int))] (by kernel_rfl) ?_ ?_
          · refine ⟨?_, ?_, trivial⟩
            · -- r6.0: 0 ≤ ((i : Nat) : Int) ∧ ((i : Nat) : Int) < ((List.length a : Nat) : Int)
              first | omega | (dsimp only; omega) | (simp only [List.length_set, List.length_append, List.length_replicate, List.length_cons, List.length_nil, List.length_take, List.length_drop] at *; omega)
            · -- r6.1: 0 ≤ ((i : Nat) : Int) ∧ ((i : Nat) : Int) < ((List.length b : Nat) : Int)
              first | omega | (dsimp only; omega) | (simp only [List.length_set, List.length_append, List.length_replicate, List.length_cons, List.length_nil, List.length_take, List.length_drop] at *; omega)
          refine AW.cond (b := ((List.getD a i 0) != (List.getD b i 0))) (by kernel_rfl) ?_ ?_
          · intro h37
            have h37q : (List.getD a i 0) ≠ (List.getD b i 0) := (Go.Am.bne_pos h37)
            have e38 := e36.trans (Go.Am.bif_t h37)
            refine AW.seq ?_
            refine AW.reg hC  false [] [4] []
              ⟨[(4, .bool false)], []⟩
              [] (by kernel_rfl) ?_ ?_
            · exact trivial
            refine AW.ret ?_
            have e39 := e4.trans (Go.Am.elim_r e38)
            exact AW.retE (β := Bool) (fun v => [⟨.bool, v⟩]) (fun v => []) (v := false) e39 (by kernel_rfl) rfl rfl
          · intro h40
            have h40q : (List.getD a i 0) = (List.getD b i 0) := (Go.Am.bne_neg h40)
            have e41 := e36.trans (Go.Am.bif_f h40)
            refine AW.keep [0, 1, 5] [] ⟨[(0, .data (.slice (.int .i64)) (a : List Int)), (1, .data (.slice (.int .i64)) (b : List Int)), (5, .int .i64 ((i : Nat) : Int))], []⟩ (by kernel_rfl) ?_
            refine AW.skip ?_
            refine AW.reg hC  false [] [0, 1, 5] []
              ⟨[(0, .data (.slice (.int .i64)) (a : List Int)), (1, .data (.slice (.int .i64)) (b : List Int)), (5, .int .i64 ((i + 1 : Nat) : Int))], []⟩
              [(-9223372036854775808 ≤ ((i + 1 : Nat) : Int) ∧ ((i + 1 : Nat) : Int) ≤ 9223372036854775807)] (by kernel_rfl) ?_ ?_
            · refine ⟨?_, trivial⟩
              · -- r5.0: -9223372036854775808 ≤ ((i + 1 : Nat) : Int) ∧ ((i + 1 : Nat) : Int) ≤ 9223372036854775807
                first | omega | (dsimp only; omega) | (simp only [List.length_set, List.length_append, List.length_replicate, List.length_cons, List.length_nil, List.length_take, List.length_drop] at *; omega)
            refine AW.back (x := i) (i + 1) (by kernel_rfl) ⟨?_, k34q, ?_, e41⟩ ?_
            · show True
              first | assumption | exact trivial | (refine ⟨?_, ?_⟩ <;> first | omega | (simp only [List.length_set, List.length_append, List.length_replicate, List.length_cons, List.length_nil, List.length_take, List.length_drop] at *; omega)) | omega | (simp only [List.length_set, List.length_append, List.length_replicate, List.length_cons, List.length_nil, List.length_take, List.length_drop] at *; omega)
            · show (List.length a) - (i + 1) < k34q
              first | omega | (simp only [List.length_set, List.length_append, List.length_replicate, List.length_cons, List.length_nil, List.length_take, List.length_drop]; omega)
            · show (List.length a) - (i + 1) < (List.length a) - i
              first | omega | (simp only [List.length_set, List.length_append, List.length_replicate, List.length_cons, List.length_nil, List.length_take, List.length_drop]; omega)
        · intro h42
          have h42q : ¬ (((i : Nat) : Int) < ((List.length a : Nat) : Int)) := (of_decide_eq_false h42)
          have e43 := e33.trans (Go.Am.bif_f h42)
          refine AW.keep [] [] ⟨[], []⟩ (by kernel_rfl) ?_
          refine AW.exit ?_
          refine AW.meet () (by kernel_rfl) ⟨?_, e43⟩
          show True
          first | assumption | exact trivial | omega
    · intro x hR
      obtain ⟨hJ0, e44⟩ := hR
      replace hJ0 : True := hJ0
      have e45 := e4.trans (Go.Am.elim_l e44)
      refine AW.seq ?_
      refine AW.reg hC  false [] [4] []
        ⟨[(4, .bool true)], []⟩
        [] (by kernel_rfl) ?_ ?_
      · exact trivial
      refine AW.ret ?_
      exact AW.retE (β := Bool) (fun v => [⟨.bool, v⟩]) (fun v => []) (v := true) e45 (by kernel_rfl) rfl rfl

def heldIntS_l0 (a : List Int) : Nat → Int → Nat → Int ⊕ Int
  | 0, k1, i => .inl k1
  | k + 1, k1, i => (bif (decide (((i : Nat) : Int) < ((List.length a : Nat) : Int))) then (bif ((List.getD a i 0) != k1) then (.inr (-1)) else (heldIntS_l0 a k (k1 + 1) (i + 1))) else (.inl k1))

def heldIntS (a : List Int) (n : Int) : Int := (Sum.elim (fun z => (fun (k1 : Int) => k1) z) (fun r => r) (heldIntS_l0 a ((List.length a) - 0 + 1) n 0))

def heldIntS_sp : FnSpec := mkSpec [.val (.slice (.int .i64)), .val (.int .i64)] [.val (.int .i64)] (fun (a : List Int) (n : Int) => (0 ≤ n ∧ n ≤ 1099511627776) ∧ (List.length a : Int) ≤ 4294967296) (fun (a : List Int) (n : Int) => [⟨(.int .i64), (heldIntS a n)⟩])

theorem heldIntS_ok : FnOK Try.prog 29 heldIntS_sp := by
  have hC : CtxOK Try.prog (mkCtx tyL []) := CtxOK.nil tyOK
  refine FnOK.of_body Try.func29 (by kernel_rfl) rfl (C := (mkCtx tyL [])) hC.ty (by decide) ?_
  intro (a : List Int) (n : Int) hwf hpre E
  have hpre : (0 ≤ n ∧ n ≤ 1099511627776) ∧ (List.length a : Int) ≤ 4294967296 := hpre
  have hw_a : Wf ⟨(.slice (.int .i64)), (a : List Int)⟩ := hwf _ (List.Mem.head _)
  have hl_a : ((List.length a : Nat) : Int) ≤ 9223372036854775807 := hw_a.len
  have hw_n : Wf ⟨(.int .i64), (n : Int)⟩ := hwf _ (List.Mem.tail _ (List.Mem.head _))
  have hr_n : -9223372036854775808 ≤ n ∧ n ≤ 9223372036854775807 := hw_n.int_inv
  have e0 : heldIntS a n = heldIntS a n := rfl
  refine AW.seq ?_
  refine AW.reg hC  false [] [0, 1] []
    ⟨[(0, .data (.slice (.int .i64)) (a : List Int)), (1, .int .i64 n)], []⟩
    [] (by kernel_rfl) ?_ ?_
  · exact trivial
  refine AW.seq ?_
  refine AW.seq ?_
  refine AW.reg hC  false [] [0, 1, 5] []
    ⟨[(0, .data (.slice (.int .i64)) (a : List Int)), (1, .int .i64 n), (5, .int .i64 0)], []⟩
    [] (by kernel_rfl) ?_ ?_
  · exact trivial
  refine AW.cutQ (α := Int) (fun x => ⟨[(1, .int .i64 x)], []⟩) (fun x => (n ≤ x) ∧ (heldIntS_l0 a ((List.length a) - 0 + 1) n 0) = (.inl x)) ?_ ?_
  · skip
    refine AW.block ?_
    refine AW.loop (α := Int × Nat) (fun x => ⟨[(0, .data (.slice (.int .i64)) (a : List Int)), (1, .int .i64 x.1), (5, .int .i64 ((x.2 : Nat) : Int))], []⟩) (fun x => (n ≤ x.1 ∧ x.1 ≤ n + (x.2 : Int)) ∧ ∃ k, (List.length a) - x.2 < k ∧ (heldIntS_l0 a ((List.length a) - 0 + 1) n 0) = heldIntS_l0 a k x.1 x.2) (fun x => (List.length a) - x.2) (n, 0) (by kernel_rfl) ⟨?_, _, Nat.lt_succ_self _, rfl⟩ ?_
    · show n ≤ n ∧ n ≤ n + (0 : Int)
      first | exact trivial | (refine ⟨?_, ?_⟩ <;> first | omega | simp) | omega | simp
    · intro x hR
      obtain ⟨k1, i⟩ := x
      obtain ⟨hI0, k30, hk28, e29⟩ := hR
      replace hI0 : n ≤ k1 ∧ k1 ≤ n + (i : Int) := hI0
      replace hk28 : (List.length a) - i < k30 := hk28
      obtain ⟨k30q, rfl⟩ : ∃ k, k30 = k + 1 := ⟨k30 - 1, by omega⟩
      refine AW.seq ?_
      refine AW.seq ?_
      refine AW.reg hC  false [] [0, 1, 5, 9] []
        ⟨[(0, .data (.slice (.int .i64)) (a : List Int)), (1, .int .i64 k1), (5, .int .i64 ((i : Nat) : Int)), (9, .bool (decide (((i : Nat) : Int) < ((List.length a : Nat) : Int))))], []⟩
        [] (by kernel_rfl) ?_ ?_
      · exact trivial
      refine AW.cond (b := (decide (((i : Nat) : Int) < ((List.length a : Nat) : Int)))) (by kernel_rfl) ?_ ?_
      · intro h31
        have h31q : ((i : Nat) : Int) < ((List.length a : Nat) : Int) := (of_decide_eq_true h31)
        have e32 := e29.trans (Go.Am.bif_t h31)
        refine AW.keep [0, 1, 5] [] ⟨[(0, .data (.slice (.int .i64)) (a : List Int)), (1, .int .i64 k1), (5, .int .i64 ((i : Nat) : Int))], []⟩ (by kernel_rfl) ?_
        refine AW.skip ?_
        refine AW.seq ?_
        refine AW.block ?_
        refine AW.seq ?_
        refine AW.seq ?_
        refine AW.reg hC  false [] [0, 1, 5, 17] []
          ⟨[(0, .data (.slice (.int .i64)) (a : List Int)), (1, .int .i64 k1), (5, .int .i64 ((i : Nat) : Int)), (17, .bool ((List.getD a i 0) != k1))], []⟩
          [(0 ≤ ((i : Nat) : Int) ∧ ((i : Nat) : Int) < ((List.length a : Nat) : Int))] (by kernel_rfl) ?_ ?_
        · refine ⟨?_, trivial⟩
          · -- r4.0: 0 ≤ ((i : Nat) : Int) ∧ ((i : Nat) : Int) < ((List.length a : Nat) : Int)
            first | omega | (dsimp only; omega) | (simp only [List.length_set, List.length_append, List.length_replicate, List.length_cons, List.length_nil, List.length_take, List.length_drop] at *; omega)
        refine AW.cond (b := ((List.getD a i 0) != k1)) (by kernel_rfl) ?_ ?_
        · intro h33
          have h33q : (List.getD a i 0) ≠ k1 := (Go.Am.bne_pos h33)
          have e34 := e32.trans (Go.Am.bif_t h33)
          refine AW.seq ?_
          refine AW.reg hC  false [] [4] []
            ⟨[(4, .int .i64 (-1))], []⟩
            [] (by kernel_rfl) ?_ ?_
          · exact trivial
          refine AW.ret ?_
          have e35 := e0.trans (Go.Am.elim_r e34)
          exact AW.retE (β := Int) (fun v => [⟨(.int .i64), v⟩]) (fun v => []) (v := (-1)) e35 (by kernel_rfl) rfl rfl
        · intro h36
          have h36q : (List.getD a i 0) = k1 := (Go.Am.bne_neg h36)
          have e37 := e32.trans (Go.Am.bif_f h36)
          refine AW.keep [0, 1, 5] [] ⟨[(0, .data (.slice (.int .i64)) (a : List Int)), (1, .int .i64 k1), (5, .int .i64 ((i : Nat) : Int))], []⟩ (by kernel_rfl) ?_
          refine AW.skip ?_
          refine AW.reg hC  false [] [0, 1, 5] []
            ⟨[(0, .data (.slice (.int .i64)) (a : List Int)), (1, .int .i64 (k1 + 1)), (5, .int .i64 ((i : Nat) : Int))], []⟩
            [(-9223372036854775808 ≤ (k1 + 1) ∧ (k1 + 1) ≤ 9223372036854775807)] (by kernel_rfl) ?_ ?_
          · refine ⟨?_, trivial⟩
            · -- r6.0: -9223372036854775808 ≤ (k1 + 1) ∧ (k1 + 1) ≤ 9223372036854775807
              first | omega | (dsimp only; omega) | (simp only [List.length_set, List.length_append, List.length_replicate, List.length_cons, List.length_nil, List.length_take, List.length_drop] at *; omega)
          refine AW.reg hC  false [] [0, 1, 5] []
            ⟨[(0, .data (.slice (.int .i64)) (a : List Int)), (1, .int .i64 (k1 + 1)), (5, .int .i64 ((i + 1 : Nat) : Int))], []⟩
            [(-9223372036854775808 ≤ ((i + 1 : Nat) : Int) ∧ ((i + 1 : Nat) : Int) ≤ 9223372036854775807)] (by kernel_rfl) ?_ ?_
          · refine ⟨?_, trivial⟩
            · -- r3.0: -9223372036854775808 ≤ ((i + 1 : Nat) : Int) ∧ ((i + 1 : Nat) : Int) ≤ 9223372036854775807
              first | omega | (dsimp only; omega) | (simp only [List.length_set, List.length_append, List.length_replicate, List.length_cons, List.length_nil, List.length_take, List.length_drop] at *; omega)
          refine AW.back (x := (k1, i)) ((k1 + 1), i + 1) (by kernel_rfl) ⟨?_, k30q, ?_, e37⟩ ?_
          · show n ≤ (k1 + 1) ∧ (k1 + 1) ≤ n + ((i + 1) : Int)
            first | assumption | exact trivial | (refine ⟨?_, ?_⟩ <;> first | omega | (simp only [List.length_set, List.length_append, List.length_replicate, List.length_cons, List.length_nil, List.length_take, List.length_drop] at *; omega)) | omega | (simp only [List.length_set, List.length_append, List.length_replicate, List.length_cons, List.length_nil, List.length_take, List.length_drop] at *; omega)
          · show (List.length a) - (i + 1) < k30q
            first | omega | (simp only [List.length_set, List.length_append, List.length_replicate, List.length_cons, List.length_nil, List.length_take, List.length_drop]; omega)
          · show (List.length a) - (i + 1) < (List.length a) - i
            first | omega | (simp only [List.length_set, List.length_append, List.length_replicate, List.length_cons, List.length_nil, List.length_take, List.length_drop]; omega)
      · intro h38
        have h38q : ¬ (((i : Nat) : Int) < ((List.length a : Nat) : Int)) := (of_decide_eq_false h38)
        have e39 := e29.trans (Go.Am.bif_f h38)
        refine AW.keep [1] [] ⟨[(1, .int .i64 k1)], []⟩ (by kernel_rfl) ?_
        refine AW.exit ?_
        refine AW.meet k1 (by kernel_rfl) ⟨?_, e39⟩
        show n ≤ k1
        first | assumption | exact trivial | omega
  · intro k1 hR
    obtain ⟨hJ0, e40⟩ := hR
    replace hJ0 : n ≤ k1 := hJ0
    have e41 := e0.trans (Go.Am.elim_l e40)
    refine AW.seq ?_
    refine AW.reg hC  false [] [4] []
      ⟨[(4, .int .i64 k1)], []⟩
      [] (by kernel_rfl) ?_ ?_
    · exact trivial
    refine AW.ret ?_
    exact AW.retE (β := Int) (fun v => [⟨(.int .i64), v⟩]) (fun v => []) (v := k1) e41 (by kernel_rfl) rfl rfl

def iCandidateKeys_l1 (v13 : Nat) (keys : List Int) : Nat → Nat → Unit ⊕ Int
  | 0, v8 => .inl ()
  | k + 1, v8 => (bif (decide (((v8 : Nat) : Int) < ((List.length keys : Nat) : Int))) then (bif (contains ((v13 : Nat) : Int) (List.getD keys v8 0)) then (.inr ((v8 : Nat) : Int)) else (iCandidateKeys_l1 v13 keys k (v8 + 1))) else (.inl ()))

def iCandidateKeys_c0 (v13 : Nat) (keys : List Int) : Int :=
  (Sum.elim (fun _ => (-1)) (fun r => r) (iCandidateKeys_l1 v13 keys ((List.length keys) - 0 + 1) 0))

def iCandidateKeys_l0 (fds : List Dep) (width : Int) : Nat → Nat → (List Int) → (List Int)
  | 0, v13, keys => keys
  | k + 1, v13, keys => (bif (decide (((v13 : Nat) : Int) < ((1 : Int) * 2 ^ (Int.toNat width)))) then (bif (!(iIsKey fds width ((v13 : Nat) : Int))) then (iCandidateKeys_l0 fds width k (v13 + 1) keys) else (Go.Am.andThen (iCandidateKeys_c0 v13 keys) (fun z => (fun (v7 : Int) => (bif (!(decide (0 ≤ v7))) then (iCandidateKeys_l0 fds width k (v13 + 1) (keys ++ ([((v13 : Nat) : Int)] : List Int))) else (iCandidateKeys_l0 fds width k (v13 + 1) keys))) z))) else keys)

def iCandidateKeys (fds : List Dep) (width : Int) : (List Int) := (bif (!(ValidDependencies fds width)) then ([] : List Int) else (Go.Am.andThen (iCandidateKeys_l0 fds width (Int.toNat (((1 : Int) * 2 ^ (Int.toNat width)) - ((0 : Nat) : Int)) + 1) 0 ([] : List Int)) (fun z => (fun (keys : List Int) => keys) z)))

def iCandidateKeys_sp : FnSpec := mkSpec [.val (.slice (.named 0)), .val (.int .i64)] [.own (.int .i64)] (fun (fds : List Dep) (width : Int) => True) (fun (fds : List Dep) (width : Int) => [⟨(.slice (.int .i64)), (iCandidateKeys fds width)⟩])

theorem iCandidateKeys_ok : FnOK Try.prog 23 iCandidateKeys_sp := by
  have hC : CtxOK Try.prog (mkCtx tyL [(15, iIsKey_sp), (18, ValidDependencies_sp), (46, contains_sp)]) := CtxOK.cons iIsKey_ok (CtxOK.cons ValidDependencies_ok (CtxOK.cons contains_ok (CtxOK.nil tyOK)))
  have hC1 := hC.rebase 1000
  have hC2 := hC.rebase 2000
  have hC3 := hC.rebase 3000
  refine FnOK.of_body Try.func23 (by kernel_rfl) rfl (C := (mkCtx tyL [(15, iIsKey_sp), (18, ValidDependencies_sp), (46, contains_sp)])) hC.ty (by decide) ?_
  intro (fds : List Dep) (width : Int) hwf hpre E
  have hpre : True := hpre
  have hw_fds : Wf ⟨(.slice (.named 0)), (fds : List Dep)⟩ := hwf _ (List.Mem.head _)
  have hl_fds : ((List.length fds : Nat) : Int) ≤ 9223372036854775807 := hw_fds.len
  have hw_width : Wf ⟨(.int .i64), (width : Int)⟩ := hwf _ (List.Mem.tail _ (List.Mem.head _))
  have hr_width : -9223372036854775808 ≤ width ∧ width ≤ 9223372036854775807 := hw_width.int_inv
  have e0 : iCandidateKeys fds width = iCandidateKeys fds width := rfl
  refine AW.seq ?_
  refine AW.reg hC  false [] [0, 1] []
    ⟨[(0, .data (.slice (.named 0)) (fds : List Dep)), (1, .int .i64 width)], []⟩
    [] (by kernel_rfl) ?_ ?_
  · exact trivial
  refine AW.seq ?_
  refine AW.seq ?_
  refine AW.reg hC  false [] [0, 1, 10] []
    ⟨[(0, .data (.slice (.named 0)) (fds : List Dep)), (1, .int .i64 width), (10, .bool (!(ValidDependencies fds width)))], []⟩
    [(True)] (by kernel_rfl) ?_ ?_
  · refine ⟨?_, trivial⟩
    · trivial
  refine AW.cond (b := (!(ValidDependencies fds width))) (by kernel_rfl) ?_ ?_
  · intro h1
    have h1q : (ValidDependencies fds width) = false := (Go.Am.not_pos h1)
    have e2 := e0.trans (Go.Am.bif_t h1)
    refine AW.seq ?_
    refine AW.reg hC  false [] [4] []
      ⟨[(4, .nilsl)], []⟩
      [] (by kernel_rfl) ?_ ?_
    · exact trivial
    refine AW.ret ?_
    exact AW.retE (β := (List Int)) (fun v => [⟨(.slice (.int .i64)), v⟩]) (fun v => []) (v := ([] : List Int)) e2 (by kernel_rfl) rfl rfl
  · intro h3
    have h3q : (ValidDependencies fds width) = true := (Go.Am.not_neg h3)
    have e4 := e0.trans (Go.Am.bif_f h3)
    refine AW.keep [0, 1] [] ⟨[(0, .data (.slice (.named 0)) (fds : List Dep)), (1, .int .i64 width)], []⟩ (by kernel_rfl) ?_
    refine AW.skip ?_
    refine AW.seq ?_
    refine AW.reg hC  false [] [0, 1, 5] []
      ⟨[(0, .data (.slice (.named 0)) (fds : List Dep)), (1, .int .i64 width), (5, .nilsl)], []⟩
      [] (by kernel_rfl) ?_ ?_
    · exact trivial
    refine AW.seq ?_
    refine AW.seq ?_
    refine AW.reg hC  false [] [0, 1, 5, 12, 13] []
      ⟨[(0, .data (.slice (.named 0)) (fds : List Dep)), (1, .int .i64 width), (5, .nilsl), (12, .int .i64 ((1 : Int) * 2 ^ (Int.toNat width))), (13, .int .i64 0)], []⟩
      [(0 ≤ width ∧ width ≤ 64), (-9223372036854775808 ≤ ((1 : Int) * 2 ^ (Int.toNat width)) ∧ ((1 : Int) * 2 ^ (Int.toNat width)) ≤ 9223372036854775807)] (by kernel_rfl) ?_ ?_
    · refine ⟨?_, ?_, trivial⟩
      · -- r4.0: 0 ≤ width ∧ width ≤ 64
        first | omega | (have hw := (valid_deps (fds := fds) (w := width) (by assumption)).1; have := pow32 (w := width) hw.2 (by omega); (try simp only [List.length_cons, List.length_nil]); omega)
      · -- r4.1: -9223372036854775808 ≤ ((1 : Int) * 2 ^ (Int.toNat width)) ∧ ((1 : Int) * 2 ^ (Int.toNat width)) ≤ 9223372036854775807
        first | omega | (have hw := (valid_deps (fds := fds) (w := width) (by assumption)).1; have := pow32 (w := width) hw.2 (by omega); (try simp only [List.length_cons, List.length_nil]); omega)
    refine AW.adopt 5 22 (.int .i64) (by kernel_rfl) (by kernel_rfl) ?_
    refine AW.keep [0, 1, 5, 12, 13] [22] ⟨[(0, .data (.slice (.named 0)) (fds : List Dep)), (1, .int .i64 width), (5, .arr 22 1), (12, .int .i64 ((1 : Int) * 2 ^ (Int.toNat width))), (13, .int .i64 0)], [(22, .arr 1 (.int .i64) (([] : List Int) : List Int))]⟩ (by kernel_rfl) ?_
    refine AW.cutQ (α := (List Int)) (fun x => ⟨[(5, .arr 22 1)], [(22, .arr 1 (.int .i64) (x : List Int))]⟩) (fun x => (True) ∧ (iCandidateKeys_l0 fds width (Int.toNat (((1 : Int) * 2 ^ (Int.toNat width)) - ((0 : Nat) : Int)) + 1) 0 ([] : List Int)) = x) ?_ ?_
    · skip
      refine AW.block ?_
      refine AW.loop (α := Nat × (List Int)) (fun x => ⟨[(0, .data (.slice (.named 0)) (fds : List Dep)), (1, .int .i64 width), (5, .arr 22 1), (12, .int .i64 ((1 : Int) * 2 ^ (Int.toNat width))), (13, .int .i64 ((x.1 : Nat) : Int))], [(22, .arr 1 (.int .i64) (x.2 : List Int))]⟩) (fun x => ((List.length x.2 : Int) ≤ x.1) ∧ ∃ k, Int.toNat (((1 : Int) * 2 ^ (Int.toNat width)) - ((x.1 : Nat) : Int)) < k ∧ (iCandidateKeys_l0 fds width (Int.toNat (((1 : Int) * 2 ^ (Int.toNat width)) - ((0 : Nat) : Int)) + 1) 0 ([] : List Int)) = iCandidateKeys_l0 fds width k x.1 x.2) (fun x => Int.toNat (((1 : Int) * 2 ^ (Int.toNat width)) - ((x.1 : Nat) : Int))) (0, ([] : List Int)) (by kernel_rfl) ⟨?_, _, Nat.lt_succ_self _, rfl⟩ ?_
      · show (List.length ([] : List Int) : Int) ≤ 0
        first | exact trivial | (refine ⟨?_, ?_⟩ <;> first | omega | simp) | omega | simp
      · intro x hR
        obtain ⟨v13, keys⟩ := x
        obtain ⟨hI0, k775, hk773, e774⟩ := hR
        replace hI0 : (List.length keys : Int) ≤ v13 := hI0
        replace hk773 : Int.toNat (((1 : Int) * 2 ^ (Int.toNat width)) - ((v13 : Nat) : Int)) < k775 := hk773
        obtain ⟨k775q, rfl⟩ : ∃ k, k775 = k + 1 := ⟨k775 - 1, by omega⟩
        refine AW.seq ?_
        refine AW.reg hC  false [] [0, 1, 5, 12, 13, 14] [22]
          ⟨[(0, .data (.slice (.named 0)) (fds : List Dep)), (1, .int .i64 width), (5, .arr 22 1), (12, .int .i64 ((1 : Int) * 2 ^ (Int.toNat width))), (13, .int .i64 ((v13 : Nat) : Int)), (14, .bool (decide (((v13 : Nat) : Int) < ((1 : Int) * 2 ^ (Int.toNat width)))))], [(22, .arr 1 (.int .i64) (keys : List Int))]⟩
          [] (by kernel_rfl) ?_ ?_
        · exact trivial
        refine AW.seq ?_
        refine AW.cond (b := (decide (((v13 : Nat) : Int) < ((1 : Int) * 2 ^ (Int.toNat width))))) (by kernel_rfl) ?_ ?_
        · intro h776
          have h776q : ((v13 : Nat) : Int) < ((1 : Int) * 2 ^ (Int.toNat width)) := (of_decide_eq_true h776)
          have e777 := e774.trans (Go.Am.bif_t h776)
          refine AW.keep [0, 1, 5, 12, 13] [22] ⟨[(0, .data (.slice (.named 0)) (fds : List Dep)), (1, .int .i64 width), (5, .arr 22 1), (12, .int .i64 ((1 : Int) * 2 ^ (Int.toNat width))), (13, .int .i64 ((v13 : Nat) : Int))], [(22, .arr 1 (.int .i64) (keys : List Int))]⟩ (by kernel_rfl) ?_
          refine AW.skip ?_
          refine AW.seq ?_
          refine AW.block ?_
          refine AW.seq ?_
          refine AW.reg hC  false [] [0, 1, 5, 6, 12, 13] [22, 24]
            ⟨[(0, .data (.slice (.named 0)) (fds : List Dep)), (1, .int .i64 width), (5, .arr 22 1), (6, .ref 24 1 0), (12, .int .i64 ((1 : Int) * 2 ^ (Int.toNat width))), (13, .int .i64 ((v13 : Nat) : Int))], [(22, .arr 1 (.int .i64) (keys : List Int)), (24, .box 1 [.int .i64 ((v13 : Nat) : Int)])]⟩
            [] (by kernel_rfl) ?_ ?_
          · exact trivial
          refine AW.seq ?_
          refine AW.seq ?_
          refine AW.reg hC  false [] [0, 1, 5, 6, 12, 13, 20] [22, 24]
            ⟨[(0, .data (.slice (.named 0)) (fds : List Dep)), (1, .int .i64 width), (5, .arr 22 1), (6, .ref 24 1 0), (12, .int .i64 ((1 : Int) * 2 ^ (Int.toNat width))), (13, .int .i64 ((v13 : Nat) : Int)), (20, .bool (!(iIsKey fds width ((v13 : Nat) : Int))))], [(22, .arr 1 (.int .i64) (keys : List Int)), (24, .box 1 [.int .i64 ((v13 : Nat) : Int)])]⟩
            [(True)] (by kernel_rfl) ?_ ?_
          · refine ⟨?_, trivial⟩
            · trivial
          refine AW.cond (b := (!(iIsKey fds width ((v13 : Nat) : Int)))) (by kernel_rfl) ?_ ?_
          · intro h778
            have h778q : (iIsKey fds width ((v13 : Nat) : Int)) = false := (Go.Am.not_pos h778)
            have e779 := e777.trans (Go.Am.bif_t h778)
            refine AW.keep [0, 1, 5, 12, 13] [22] ⟨[(0, .data (.slice (.named 0)) (fds : List Dep)), (1, .int .i64 width), (5, .arr 22 1), (12, .int .i64 ((1 : Int) * 2 ^ (Int.toNat width))), (13, .int .i64 ((v13 : Nat) : Int))], [(22, .arr 1 (.int .i64) (keys : List Int))]⟩ (by kernel_rfl) ?_
            refine AW.exit ?_
            refine AW.reg hC  false [] [0, 1, 5, 12, 13] [22]
              ⟨[(0, .data (.slice (.named 0)) (fds : List Dep)), (1, .int .i64 width), (5, .arr 22 1), (12, .int .i64 ((1 : Int) * 2 ^ (Int.toNat width))), (13, .int .i64 ((v13 + 1 : Nat) : Int))], [(22, .arr 1 (.int .i64) (keys : List Int))]⟩
              [(-9223372036854775808 ≤ ((v13 + 1 : Nat) : Int) ∧ ((v13 + 1 : Nat) : Int) ≤ 9223372036854775807)] (by kernel_rfl) ?_ ?_
            · refine ⟨?_, trivial⟩
              · -- r10.0: -9223372036854775808 ≤ ((v13 + 1 : Nat) : Int) ∧ ((v13 + 1 : Nat) : Int) ≤ 9223372036854775807
                first | omega | (have hw := (valid_deps (fds := fds) (w := width) (by assumption)).1; have := pow32 (w := width) hw.2 (by omega); (try simp only [List.length_cons, List.length_nil]); omega)
            refine AW.back (x := (v13, keys)) (v13 + 1, keys) (by kernel_rfl) ⟨?_, k775q, ?_, e779⟩ ?_
            · show (List.length keys : Int) ≤ (v13 + 1)
              first | assumption | exact trivial | (refine ⟨?_, ?_⟩ <;> first | omega | (simp only [List.length_set, List.length_append, List.length_replicate, List.length_cons, List.length_nil, List.length_take, List.length_drop] at *; omega)) | omega | (simp only [List.length_set, List.length_append, List.length_replicate, List.length_cons, List.length_nil, List.length_take, List.length_drop] at *; omega)
            · show Int.toNat (((1 : Int) * 2 ^ (Int.toNat width)) - (((v13 + 1) : Nat) : Int)) < k775q
              first | omega | (simp only [List.length_set, List.length_append, List.length_replicate, List.length_cons, List.length_nil, List.length_take, List.length_drop]; omega)
            · show Int.toNat (((1 : Int) * 2 ^ (Int.toNat width)) - (((v13 + 1) : Nat) : Int)) < Int.toNat (((1 : Int) * 2 ^ (Int.toNat width)) - ((v13 : Nat) : Int))
              first | omega | (simp only [List.length_set, List.length_append, List.length_replicate, List.length_cons, List.length_nil, List.length_take, List.length_drop]; omega)
          · intro h780
            have h780q : (iIsKey fds width ((v13 : Nat) : Int)) = true := (Go.Am.not_neg h780)
            have e781 := e777.trans (Go.Am.bif_f h780)
            refine AW.keep [0, 1, 5, 6, 12, 13] [22, 24] ⟨[(0, .data (.slice (.named 0)) (fds : List Dep)), (1, .int .i64 width), (5, .arr 22 1), (6, .ref 24 1 0), (12, .int .i64 ((1 : Int) * 2 ^ (Int.toNat width))), (13, .int .i64 ((v13 : Nat) : Int))], [(22, .arr 1 (.int .i64) (keys : List Int)), (24, .box 1 [.int .i64 ((v13 : Nat) : Int)])]⟩ (by kernel_rfl) ?_
            refine AW.skip ?_
            refine AW.seq ?_
            refine AW.regionO [0, 1, 2, 3] (by rfl) ?_
            refine AWO.run hC false [] [0, 1] [2, 3] [0, 1, 5, 6, 12, 13, 21, 22] [22, 24]
              ⟨[(0, .data (.slice (.named 0)) (fds : List Dep)), (1, .int .i64 width), (5, .arr 22 1), (6, .ref 24 1 0), (12, .int .i64 ((1 : Int) * 2 ^ (Int.toNat width))), (13, .int .i64 ((v13 : Nat) : Int)), (21, .arr 22 1), (22, .clo 51 [.ref 24 1 0])], [(22, .arr 1 (.int .i64) (keys : List Int)), (24, .box 1 [.int .i64 ((v13 : Nat) : Int)])]⟩
              [] (by rfl) (by kernel_rfl) ?_ ?_
            · exact trivial
            refine AWO.call hC.ty (vs := [.arr 22 1, .clo 51 [.ref 24 1 0]]) (caps := []) (by rfl) rfl (.inl rfl) (by decide) (by kernel_rfl) (by kernel_rfl) Try.func50 (by kernel_rfl) rfl (by kernel_rfl) ?_
            intro o1
            refine AW.keep [0, 1, 1000, 1001, 1005, 1006, 1012, 1013] [22, 24] ⟨[(0, .arr 22 1), (1, .clo 51 [.ref 24 1 0]), (1000, .data (.slice (.named 0)) (fds : List Dep)), (1001, .int .i64 width), (1005, .arr 22 1), (1006, .ref 24 1 0), (1012, .int .i64 ((1 : Int) * 2 ^ (Int.toNat width))), (1013, .int .i64 ((v13 : Nat) : Int))], [(22, .arr 1 (.int .i64) (keys : List Int)), (24, .box 1 [.int .i64 ((v13 : Nat) : Int)])]⟩ (by kernel_rfl) ?_
            refine AW.seq ?_
            refine AW.reg hC1  false [] [0, 1, 1000, 1001, 1005, 1006, 1012, 1013] [22, 24]
              ⟨[(0, .arr 22 1), (1, .clo 51 [.ref 24 1 0]), (1000, .data (.slice (.named 0)) (fds : List Dep)), (1001, .int .i64 width), (1005, .arr 22 1), (1006, .ref 24 1 0), (1012, .int .i64 ((1 : Int) * 2 ^ (Int.toNat width))), (1013, .int .i64 ((v13 : Nat) : Int))], [(22, .arr 1 (.int .i64) (keys : List Int)), (24, .box 1 [.int .i64 ((v13 : Nat) : Int)])]⟩
              [] (by kernel_rfl) ?_ ?_
            · exact trivial
            refine AW.seq ?_
            refine AW.regionO [0, 1, 2, 3, 4] (by rfl) ?_
            refine AWO.run hC1 false [] [0, 1] [2, 3, 4] [5, 6, 1000, 1001, 1005, 1006, 1012, 1013] [22, 24]
              ⟨[(5, .arr 22 1), (6, .clo 51 [.ref 24 1 0]), (1000, .data (.slice (.named 0)) (fds : List Dep)), (1001, .int .i64 width), (1005, .arr 22 1), (1006, .ref 24 1 0), (1012, .int .i64 ((1 : Int) * 2 ^ (Int.toNat width))), (1013, .int .i64 ((v13 : Nat) : Int))], [(22, .arr 1 (.int .i64) (keys : List Int)), (24, .box 1 [.int .i64 ((v13 : Nat) : Int)])]⟩
              [] (by rfl) (by kernel_rfl) ?_ ?_
            · exact trivial
            refine AWO.callJ hC1.ty [7, 1000, 1001, 1005, 1006, 1012, 1013] [22, 24] (α := Int) (fun x => ⟨[(7, .int .i64 x), (1000, .data (.slice (.named 0)) (fds : List Dep)), (1001, .int .i64 width), (1005, .arr 22 1), (1006, .ref 24 1 0), (1012, .int .i64 ((1 : Int) * 2 ^ (Int.toNat width))), (1013, .int .i64 ((v13 : Nat) : Int))], [(22, .arr 1 (.int .i64) (keys : List Int)), (24, .box 1 [.int .i64 ((v13 : Nat) : Int)])]⟩) (fun x => (True) ∧ (iCandidateKeys_c0 v13 keys) = x) (vs := [.arr 22 1, .clo 51 [.ref 24 1 0]]) (caps := []) (by rfl) rfl (.inl rfl) (by decide) (by kernel_rfl) (by kernel_rfl) Try.func60 (by kernel_rfl) rfl (by kernel_rfl) ?_ ?_
            · intro o2
              have e982 : (iCandidateKeys_c0 v13 keys) = (iCandidateKeys_c0 v13 keys) := rfl
              refine AW.keep [0, 1, 2000, 2001, 2005, 2006, 2012, 2013] [22, 24] ⟨[(0, .arr 22 1), (1, .clo 51 [.ref 24 1 0]), (2000, .data (.slice (.named 0)) (fds : List Dep)), (2001, .int .i64 width), (2005, .arr 22 1), (2006, .ref 24 1 0), (2012, .int .i64 ((1 : Int) * 2 ^ (Int.toNat width))), (2013, .int .i64 ((v13 : Nat) : Int))], [(22, .arr 1 (.int .i64) (keys : List Int)), (24, .box 1 [.int .i64 ((v13 : Nat) : Int)])]⟩ (by kernel_rfl) ?_
              refine AW.seq ?_
              refine AW.reg hC2  false [] [0, 1, 2000, 2001, 2005, 2006, 2012, 2013] [22, 24]
                ⟨[(0, .arr 22 1), (1, .clo 51 [.ref 24 1 0]), (2000, .data (.slice (.named 0)) (fds : List Dep)), (2001, .int .i64 width), (2005, .arr 22 1), (2006, .ref 24 1 0), (2012, .int .i64 ((1 : Int) * 2 ^ (Int.toNat width))), (2013, .int .i64 ((v13 : Nat) : Int))], [(22, .arr 1 (.int .i64) (keys : List Int)), (24, .box 1 [.int .i64 ((v13 : Nat) : Int)])]⟩
                [] (by kernel_rfl) ?_ ?_
              · exact trivial
              refine AW.seq ?_
              refine AW.seq ?_
              refine AW.reg hC2  false [] [0, 1, 7, 8, 2000, 2001, 2005, 2006, 2012, 2013] [22, 24]
                ⟨[(0, .arr 22 1), (1, .clo 51 [.ref 24 1 0]), (7, .int .i64 ((List.length keys : Nat) : Int)), (8, .int .i64 0), (2000, .data (.slice (.named 0)) (fds : List Dep)), (2001, .int .i64 width), (2005, .arr 22 1), (2006, .ref 24 1 0), (2012, .int .i64 ((1 : Int) * 2 ^ (Int.toNat width))), (2013, .int .i64 ((v13 : Nat) : Int))], [(22, .arr 1 (.int .i64) (keys : List Int)), (24, .box 1 [.int .i64 ((v13 : Nat) : Int)])]⟩
                [] (by kernel_rfl) ?_ ?_
              · exact trivial
              refine AW.cutQ (α := Unit) (fun x => ⟨[(2000, .data (.slice (.named 0)) (fds : List Dep)), (2001, .int .i64 width), (2005, .arr 22 1), (2006, .ref 24 1 0), (2012, .int .i64 ((1 : Int) * 2 ^ (Int.toNat width))), (2013, .int .i64 ((v13 : Nat) : Int))], [(22, .arr 1 (.int .i64) (keys : List Int)), (24, .box 1 [.int .i64 ((v13 : Nat) : Int)])]⟩) (fun x => (True) ∧ (iCandidateKeys_l1 v13 keys ((List.length keys) - 0 + 1) 0) = (.inl ())) ?_ ?_
              · skip
                refine AW.block ?_
                refine AW.loop (α := Nat) (fun x => ⟨[(0, .arr 22 1), (1, .clo 51 [.ref 24 1 0]), (7, .int .i64 ((List.length keys : Nat) : Int)), (8, .int .i64 ((x : Nat) : Int)), (2000, .data (.slice (.named 0)) (fds : List Dep)), (2001, .int .i64 width), (2005, .arr 22 1), (2006, .ref 24 1 0), (2012, .int .i64 ((1 : Int) * 2 ^ (Int.toNat width))), (2013, .int .i64 ((v13 : Nat) : Int))], [(22, .arr 1 (.int .i64) (keys : List Int)), (24, .box 1 [.int .i64 ((v13 : Nat) : Int)])]⟩) (fun x => (True) ∧ ∃ k, (List.length keys) - x < k ∧ (iCandidateKeys_l1 v13 keys ((List.length keys) - 0 + 1) 0) = iCandidateKeys_l1 v13 keys k x) (fun x => (List.length keys) - x) 0 (by kernel_rfl) ⟨?_, _, Nat.lt_succ_self _, rfl⟩ ?_
                · show True
                  first | exact trivial | (refine ⟨?_, ?_⟩ <;> first | omega | simp) | omega | simp
                · intro v8 hR
                  obtain ⟨hI1, k1012, hk1010, e1011⟩ := hR
                  replace hI1 : True := hI1
                  replace hk1010 : (List.length keys) - v8 < k1012 := hk1010
                  obtain ⟨k1012q, rfl⟩ : ∃ k, k1012 = k + 1 := ⟨k1012 - 1, by omega⟩
                  refine AW.seq ?_
                  refine AW.reg hC2  false [] [0, 1, 7, 8, 9, 2000, 2001, 2005, 2006, 2012, 2013] [22, 24]
                    ⟨[(0, .arr 22 1), (1, .clo 51 [.ref 24 1 0]), (7, .int .i64 ((List.length keys : Nat) : Int)), (8, .int .i64 ((v8 : Nat) : Int)), (9, .bool (decide (((v8 : Nat) : Int) < ((List.length keys : Nat) : Int)))), (2000, .data (.slice (.named 0)) (fds : List Dep)), (2001, .int .i64 width), (2005, .arr 22 1), (2006, .ref 24 1 0), (2012, .int .i64 ((1 : Int) * 2 ^ (Int.toNat width))), (2013, .int .i64 ((v13 : Nat) : Int))], [(22, .arr 1 (.int .i64) (keys : List Int)), (24, .box 1 [.int .i64 ((v13 : Nat) : Int)])]⟩
                    [] (by kernel_rfl) ?_ ?_
                  · exact trivial
                  refine AW.seq ?_
                  refine AW.cond (b := (decide (((v8 : Nat) : Int) < ((List.length keys : Nat) : Int)))) (by kernel_rfl) ?_ ?_
                  · intro h1013
                    have h1013q : ((v8 : Nat) : Int) < ((List.length keys : Nat) : Int) := (of_decide_eq_true h1013)
                    have e1014 := e1011.trans (Go.Am.bif_t h1013)
                    refine AW.keep [0, 1, 7, 8, 2000, 2001, 2005, 2006, 2012, 2013] [22, 24] ⟨[(0, .arr 22 1), (1, .clo 51 [.ref 24 1 0]), (7, .int .i64 ((List.length keys : Nat) : Int)), (8, .int .i64 ((v8 : Nat) : Int)), (2000, .data (.slice (.named 0)) (fds : List Dep)), (2001, .int .i64 width), (2005, .arr 22 1), (2006, .ref 24 1 0), (2012, .int .i64 ((1 : Int) * 2 ^ (Int.toNat width))), (2013, .int .i64 ((v13 : Nat) : Int))], [(22, .arr 1 (.int .i64) (keys : List Int)), (24, .box 1 [.int .i64 ((v13 : Nat) : Int)])]⟩ (by kernel_rfl) ?_
                    refine AW.skip ?_
                    refine AW.seq ?_
                    refine AW.block ?_
                    refine AW.seq ?_
                    refine AW.reg hC2  false [] [0, 1, 5, 7, 8, 2000, 2001, 2005, 2006, 2012, 2013] [22, 24]
                      ⟨[(0, .arr 22 1), (1, .clo 51 [.ref 24 1 0]), (5, .int .i64 ((v8 : Nat) : Int)), (7, .int .i64 ((List.length keys : Nat) : Int)), (8, .int .i64 ((v8 : Nat) : Int)), (2000, .data (.slice (.named 0)) (fds : List Dep)), (2001, .int .i64 width), (2005, .arr 22 1), (2006, .ref 24 1 0), (2012, .int .i64 ((1 : Int) * 2 ^ (Int.toNat width))), (2013, .int .i64 ((v13 : Nat) : Int))], [(22, .arr 1 (.int .i64) (keys : List Int)), (24, .box 1 [.int .i64 ((v13 : Nat) : Int)])]⟩
                      [] (by kernel_rfl) ?_ ?_
                    · exact trivial
                    refine AW.seq ?_
                    refine AW.regionO [0, 1, 2, 3, 4, 5] (by rfl) ?_
                    refine AWO.run hC2 false [] [0, 1, 2, 3, 4] [5] [0, 1, 5, 7, 8, 11, 15, 2000, 2001, 2005, 2006, 2012, 2013] [22, 24]
                      ⟨[(0, .arr 22 1), (1, .clo 51 [.ref 24 1 0]), (5, .int .i64 ((v8 : Nat) : Int)), (7, .int .i64 ((List.length keys : Nat) : Int)), (8, .int .i64 ((v8 : Nat) : Int)), (11, .clo 51 [.ref 24 1 0]), (15, .int .i64 (List.getD keys v8 0)), (2000, .data (.slice (.named 0)) (fds : List Dep)), (2001, .int .i64 width), (2005, .arr 22 1), (2006, .ref 24 1 0), (2012, .int .i64 ((1 : Int) * 2 ^ (Int.toNat width))), (2013, .int .i64 ((v13 : Nat) : Int))], [(22, .arr 1 (.int .i64) (keys : List Int)), (24, .box 1 [.int .i64 ((v13 : Nat) : Int)])]⟩
                      [(0 ≤ ((v8 : Nat) : Int) ∧ ((v8 : Nat) : Int) < ((List.length keys : Nat) : Int))] (by rfl) (by kernel_rfl) ?_ ?_
                    · refine ⟨?_, trivial⟩
                      · -- f60.r4.0: 0 ≤ ((v8 : Nat) : Int) ∧ ((v8 : Nat) : Int) < ((List.length keys : Nat) : Int)
                        first | omega | (have hw := (valid_deps (fds := fds) (w := width) (by assumption)).1; have := pow32 (w := width) hw.2 (by omega); (try simp only [List.length_cons, List.length_nil]); omega)
                    refine AWO.call hC2.ty (vs := [.int .i64 (List.getD keys v8 0)]) (caps := [.ref 24 1 0]) (by rfl) rfl (.inl rfl) (by decide) (by kernel_rfl) (by kernel_rfl) Try.func51 (by kernel_rfl) rfl (by kernel_rfl) ?_
                    intro o3
                    refine AW.keep [0, 1, 1000, 1001, 1005, 1007, 1008, 3000, 3001, 3005, 3006, 3012, 3013] [22, 24] ⟨[(0, .int .i64 (List.getD keys v8 0)), (1, .ref 24 1 0), (1000, .arr 22 1), (1001, .clo 51 [.ref 24 1 0]), (1005, .int .i64 ((v8 : Nat) : Int)), (1007, .int .i64 ((List.length keys : Nat) : Int)), (1008, .int .i64 ((v8 : Nat) : Int)), (3000, .data (.slice (.named 0)) (fds : List Dep)), (3001, .int .i64 width), (3005, .arr 22 1), (3006, .ref 24 1 0), (3012, .int .i64 ((1 : Int) * 2 ^ (Int.toNat width))), (3013, .int .i64 ((v13 : Nat) : Int))], [(22, .arr 1 (.int .i64) (keys : List Int)), (24, .box 1 [.int .i64 ((v13 : Nat) : Int)])]⟩ (by kernel_rfl) ?_
                    refine AW.seq ?_
                    refine AW.reg hC3  false [] [0, 1, 1000, 1001, 1005, 1007, 1008, 3000, 3001, 3005, 3006, 3012, 3013] [22, 24]
                      ⟨[(0, .int .i64 (List.getD keys v8 0)), (1, .ref 24 1 0), (1000, .arr 22 1), (1001, .clo 51 [.ref 24 1 0]), (1005, .int .i64 ((v8 : Nat) : Int)), (1007, .int .i64 ((List.length keys : Nat) : Int)), (1008, .int .i64 ((v8 : Nat) : Int)), (3000, .data (.slice (.named 0)) (fds : List Dep)), (3001, .int .i64 width), (3005, .arr 22 1), (3006, .ref 24 1 0), (3012, .int .i64 ((1 : Int) * 2 ^ (Int.toNat width))), (3013, .int .i64 ((v13 : Nat) : Int))], [(22, .arr 1 (.int .i64) (keys : List Int)), (24, .box 1 [.int .i64 ((v13 : Nat) : Int)])]⟩
                      [] (by kernel_rfl) ?_ ?_
                    · exact trivial
                    refine AW.seq ?_
                    refine AW.reg hC3  false [] [3, 1000, 1001, 1005, 1007, 1008, 3000, 3001, 3005, 3006, 3012, 3013] [22, 24]
                      ⟨[(3, .bool (contains ((v13 : Nat) : Int) (List.getD keys v8 0))), (1000, .arr 22 1), (1001, .clo 51 [.ref 24 1 0]), (1005, .int .i64 ((v8 : Nat) : Int)), (1007, .int .i64 ((List.length keys : Nat) : Int)), (1008, .int .i64 ((v8 : Nat) : Int)), (3000, .data (.slice (.named 0)) (fds : List Dep)), (3001, .int .i64 width), (3005, .arr 22 1), (3006, .ref 24 1 0), (3012, .int .i64 ((1 : Int) * 2 ^ (Int.toNat width))), (3013, .int .i64 ((v13 : Nat) : Int))], [(22, .arr 1 (.int .i64) (keys : List Int)), (24, .box 1 [.int .i64 ((v13 : Nat) : Int)])]⟩
                      [(True)] (by kernel_rfl) ?_ ?_
                    · refine ⟨?_, trivial⟩
                      · trivial
                    refine AW.ret ?_
                    refine ⟨[.bool (contains ((v13 : Nat) : Int) (List.getD keys v8 0))], by kernel_rfl, ?_⟩
                    refine AWO.keep [0, 1, 5, 7, 8, 16, 2000, 2001, 2005, 2006, 2012, 2013] [22, 24] ⟨[(0, .arr 22 1), (1, .clo 51 [.ref 24 1 0]), (5, .int .i64 ((v8 : Nat) : Int)), (7, .int .i64 ((List.length keys : Nat) : Int)), (8, .int .i64 ((v8 : Nat) : Int)), (16, .bool (contains ((v13 : Nat) : Int) (List.getD keys v8 0))), (2000, .data (.slice (.named 0)) (fds : List Dep)), (2001, .int .i64 width), (2005, .arr 22 1), (2006, .ref 24 1 0), (2012, .int .i64 ((1 : Int) * 2 ^ (Int.toNat width))), (2013, .int .i64 ((v13 : Nat) : Int))], [(22, .arr 1 (.int .i64) (keys : List Int)), (24, .box 1 [.int .i64 ((v13 : Nat) : Int)])]⟩ (by kernel_rfl) ?_
                    refine AWO.run hC2 false [] [] [] [0, 1, 5, 7, 8, 16, 2000, 2001, 2005, 2006, 2012, 2013] [22, 24]
                      ⟨[(0, .arr 22 1), (1, .clo 51 [.ref 24 1 0]), (5, .int .i64 ((v8 : Nat) : Int)), (7, .int .i64 ((List.length keys : Nat) : Int)), (8, .int .i64 ((v8 : Nat) : Int)), (16, .bool (contains ((v13 : Nat) : Int) (List.getD keys v8 0))), (2000, .data (.slice (.named 0)) (fds : List Dep)), (2001, .int .i64 width), (2005, .arr 22 1), (2006, .ref 24 1 0), (2012, .int .i64 ((1 : Int) * 2 ^ (Int.toNat width))), (2013, .int .i64 ((v13 : Nat) : Int))], [(22, .arr 1 (.int .i64) (keys : List Int)), (24, .box 1 [.int .i64 ((v13 : Nat) : Int)])]⟩
                      [] (by rfl) (by kernel_rfl) ?_ ?_
                    · exact trivial
                    refine AWO.nil ?_
                    refine AW.cond (b := (contains ((v13 : Nat) : Int) (List.getD keys v8 0))) (by kernel_rfl) ?_ ?_
                    · intro h1015
                      have h1015q : (contains ((v13 : Nat) : Int) (List.getD keys v8 0)) = true := h1015
                      have e1016 := e1014.trans (Go.Am.bif_t h1015)
                      refine AW.seq ?_
                      refine AW.reg hC2  false [] [4, 2000, 2001, 2005, 2006, 2012, 2013] [22, 24]
                        ⟨[(4, .int .i64 ((v8 : Nat) : Int)), (2000, .data (.slice (.named 0)) (fds : List Dep)), (2001, .int .i64 width), (2005, .arr 22 1), (2006, .ref 24 1 0), (2012, .int .i64 ((1 : Int) * 2 ^ (Int.toNat width))), (2013, .int .i64 ((v13 : Nat) : Int))], [(22, .arr 1 (.int .i64) (keys : List Int)), (24, .box 1 [.int .i64 ((v13 : Nat) : Int)])]⟩
                        [] (by kernel_rfl) ?_ ?_
                      · exact trivial
                      refine AW.ret ?_
                      have e1017 := e982.trans (Go.Am.elim_r e1016)
                      refine ⟨((v8 : Nat) : Int), [.int .i64 ((v8 : Nat) : Int)], by kernel_rfl, by kernel_rfl, ?_, e1017⟩
                      show True
                      first | exact trivial | assumption | omega
                    · intro h1018
                      have h1018q : (contains ((v13 : Nat) : Int) (List.getD keys v8 0)) = false := h1018
                      have e1019 := e1014.trans (Go.Am.bif_f h1018)
                      refine AW.keep [0, 1, 7, 8, 2000, 2001, 2005, 2006, 2012, 2013] [22, 24] ⟨[(0, .arr 22 1), (1, .clo 51 [.ref 24 1 0]), (7, .int .i64 ((List.length keys : Nat) : Int)), (8, .int .i64 ((v8 : Nat) : Int)), (2000, .data (.slice (.named 0)) (fds : List Dep)), (2001, .int .i64 width), (2005, .arr 22 1), (2006, .ref 24 1 0), (2012, .int .i64 ((1 : Int) * 2 ^ (Int.toNat width))), (2013, .int .i64 ((v13 : Nat) : Int))], [(22, .arr 1 (.int .i64) (keys : List Int)), (24, .box 1 [.int .i64 ((v13 : Nat) : Int)])]⟩ (by kernel_rfl) ?_
                      refine AW.skip ?_
                      refine AW.reg hC2  false [] [0, 1, 7, 8, 2000, 2001, 2005, 2006, 2012, 2013] [22, 24]
                        ⟨[(0, .arr 22 1), (1, .clo 51 [.ref 24 1 0]), (7, .int .i64 ((List.length keys : Nat) : Int)), (8, .int .i64 ((v8 + 1 : Nat) : Int)), (2000, .data (.slice (.named 0)) (fds : List Dep)), (2001, .int .i64 width), (2005, .arr 22 1), (2006, .ref 24 1 0), (2012, .int .i64 ((1 : Int) * 2 ^ (Int.toNat width))), (2013, .int .i64 ((v13 : Nat) : Int))], [(22, .arr 1 (.int .i64) (keys : List Int)), (24, .box 1 [.int .i64 ((v13 : Nat) : Int)])]⟩
                        [(-9223372036854775808 ≤ ((v8 + 1 : Nat) : Int) ∧ ((v8 + 1 : Nat) : Int) ≤ 9223372036854775807)] (by kernel_rfl) ?_ ?_
                      · refine ⟨?_, trivial⟩
                        · -- f60.r6.0: -9223372036854775808 ≤ ((v8 + 1 : Nat) : Int) ∧ ((v8 + 1 : Nat) : Int) ≤ 9223372036854775807
                          first | omega | (have hw := (valid_deps (fds := fds) (w := width) (by assumption)).1; have := pow32 (w := width) hw.2 (by omega); (try simp only [List.length_cons, List.length_nil]); omega)
                      refine AW.back (x := v8) (v8 + 1) (by kernel_rfl) ⟨?_, k1012q, ?_, e1019⟩ ?_
                      · show True
                        first | assumption | exact trivial | (refine ⟨?_, ?_⟩ <;> first | omega | (simp only [List.length_set, List.length_append, List.length_replicate, List.length_cons, List.length_nil, List.length_take, List.length_drop] at *; omega)) | omega | (simp only [List.length_set, List.length_append, List.length_replicate, List.length_cons, List.length_nil, List.length_take, List.length_drop] at *; omega)
                      · show (List.length keys) - (v8 + 1) < k1012q
                        first | omega | (simp only [List.length_set, List.length_append, List.length_replicate, List.length_cons, List.length_nil, List.length_take, List.length_drop]; omega)
                      · show (List.length keys) - (v8 + 1) < (List.length keys) - v8
                        first | omega | (simp only [List.length_set, List.length_append, List.length_replicate, List.length_cons, List.length_nil, List.length_take, List.length_drop]; omega)
                  · intro h1020
                    have h1020q : ¬ (((v8 : Nat) : Int) < ((List.length keys : Nat) : Int)) := (of_decide_eq_false h1020)
                    have e1021 := e1011.trans (Go.Am.bif_f h1020)
                    refine AW.keep [2000, 2001, 2005, 2006, 2012, 2013] [22, 24] ⟨[(2000, .data (.slice (.named 0)) (fds : List Dep)), (2001, .int .i64 width), (2005, .arr 22 1), (2006, .ref 24 1 0), (2012, .int .i64 ((1 : Int) * 2 ^ (Int.toNat width))), (2013, .int .i64 ((v13 : Nat) : Int))], [(22, .arr 1 (.int .i64) (keys : List Int)), (24, .box 1 [.int .i64 ((v13 : Nat) : Int)])]⟩ (by kernel_rfl) ?_
                    refine AW.exit ?_
                    refine AW.meet () (by kernel_rfl) ⟨?_, e1021⟩
                    show True
                    first | assumption | exact trivial | omega
              · intro x hR
                obtain ⟨hJ1, e1022⟩ := hR
                replace hJ1 : True := hJ1
                have e1023 := e982.trans (Go.Am.elim_l e1022)
                refine AW.seq ?_
                refine AW.reg hC2  false [] [4, 2000, 2001, 2005, 2006, 2012, 2013] [22, 24]
                  ⟨[(4, .int .i64 (-1)), (2000, .data (.slice (.named 0)) (fds : List Dep)), (2001, .int .i64 width), (2005, .arr 22 1), (2006, .ref 24 1 0), (2012, .int .i64 ((1 : Int) * 2 ^ (Int.toNat width))), (2013, .int .i64 ((v13 : Nat) : Int))], [(22, .arr 1 (.int .i64) (keys : List Int)), (24, .box 1 [.int .i64 ((v13 : Nat) : Int)])]⟩
                  [] (by kernel_rfl) ?_ ?_
                · exact trivial
                refine AW.ret ?_
                refine ⟨(-1), [.int .i64 (-1)], by kernel_rfl, by kernel_rfl, ?_, e1023⟩
                show True
                first | exact trivial | assumption | omega
            · intro v7 hR
              obtain ⟨hK0, e1024⟩ := hR
              replace hK0 : True := hK0
              have e1025 := e781.trans (Go.Am.then_eq e1024)
              refine AWO.run hC1 false [] [3, 4] [] [4, 1000, 1001, 1005, 1006, 1012, 1013] [22, 24]
                ⟨[(4, .bool (decide (0 ≤ v7))), (1000, .data (.slice (.named 0)) (fds : List Dep)), (1001, .int .i64 width), (1005, .arr 22 1), (1006, .ref 24 1 0), (1012, .int .i64 ((1 : Int) * 2 ^ (Int.toNat width))), (1013, .int .i64 ((v13 : Nat) : Int))], [(22, .arr 1 (.int .i64) (keys : List Int)), (24, .box 1 [.int .i64 ((v13 : Nat) : Int)])]⟩
                [] (by rfl) (by kernel_rfl) ?_ ?_
              · exact trivial
              refine AWO.nil ?_
              refine AW.ret ?_
              refine ⟨[.bool (decide (0 ≤ v7))], by kernel_rfl, ?_⟩
              refine AWO.keep [0, 1, 5, 6, 12, 13, 23] [22, 24] ⟨[(0, .data (.slice (.named 0)) (fds : List Dep)), (1, .int .i64 width), (5, .arr 22 1), (6, .ref 24 1 0), (12, .int .i64 ((1 : Int) * 2 ^ (Int.toNat width))), (13, .int .i64 ((v13 : Nat) : Int)), (23, .bool (decide (0 ≤ v7)))], [(22, .arr 1 (.int .i64) (keys : List Int)), (24, .box 1 [.int .i64 ((v13 : Nat) : Int)])]⟩ (by kernel_rfl) ?_
              refine AWO.run hC false [] [3] [] [0, 1, 5, 6, 12, 13, 24] [22, 24]
                ⟨[(0, .data (.slice (.named 0)) (fds : List Dep)), (1, .int .i64 width), (5, .arr 22 1), (6, .ref 24 1 0), (12, .int .i64 ((1 : Int) * 2 ^ (Int.toNat width))), (13, .int .i64 ((v13 : Nat) : Int)), (24, .bool (!(decide (0 ≤ v7))))], [(22, .arr 1 (.int .i64) (keys : List Int)), (24, .box 1 [.int .i64 ((v13 : Nat) : Int)])]⟩
                [] (by rfl) (by kernel_rfl) ?_ ?_
              · exact trivial
              refine AWO.nil ?_
              refine AW.cond (b := (!(decide (0 ≤ v7)))) (by kernel_rfl) ?_ ?_
              · intro h1026
                have h1026q : ¬ (0 ≤ v7) := (of_decide_eq_false (Go.Am.not_pos h1026))
                have e1027 := e1025.trans (Go.Am.bif_t h1026)
                refine AW.reg hC  false [] [0, 1, 5, 12, 13] [22]
                  ⟨[(0, .data (.slice (.named 0)) (fds : List Dep)), (1, .int .i64 width), (5, .arr 22 1), (12, .int .i64 ((1 : Int) * 2 ^ (Int.toNat width))), (13, .int .i64 ((v13 : Nat) : Int))], [(22, .arr 1 (.int .i64) ((keys ++ ([((v13 : Nat) : Int)] : List Int)) : List Int))]⟩
                  [(((List.length keys : Nat) : Int) + ((List.length ([((v13 : Nat) : Int)] : List Int) : Nat) : Int) ≤ 4294967296)] (by kernel_rfl) ?_ ?_
                · refine ⟨?_, trivial⟩
                  · -- r9.0: ((List.length keys : Nat) : Int) + ((List.length ([((v13 : Nat) : Int)] : List Int) : Nat) : Int) ≤ 4294967296
                    first | omega | (have hw := (valid_deps (fds := fds) (w := width) (by assumption)).1; have := pow32 (w := width) hw.2 (by omega); (try simp only [List.length_cons, List.length_nil]); omega)
                refine AW.reg hC  false [] [0, 1, 5, 12, 13] [22]
                  ⟨[(0, .data (.slice (.named 0)) (fds : List Dep)), (1, .int .i64 width), (5, .arr 22 1), (12, .int .i64 ((1 : Int) * 2 ^ (Int.toNat width))), (13, .int .i64 ((v13 + 1 : Nat) : Int))], [(22, .arr 1 (.int .i64) ((keys ++ ([((v13 : Nat) : Int)] : List Int)) : List Int))]⟩
                  [(-9223372036854775808 ≤ ((v13 + 1 : Nat) : Int) ∧ ((v13 + 1 : Nat) : Int) ≤ 9223372036854775807)] (by kernel_rfl) ?_ ?_
                · refine ⟨?_, trivial⟩
                  · -- r10.0: -9223372036854775808 ≤ ((v13 + 1 : Nat) : Int) ∧ ((v13 + 1 : Nat) : Int) ≤ 9223372036854775807
                    first | omega | (have hw := (valid_deps (fds := fds) (w := width) (by assumption)).1; have := pow32 (w := width) hw.2 (by omega); (try simp only [List.length_cons, List.length_nil]); omega)
                refine AW.back (x := (v13, keys)) (v13 + 1, (keys ++ ([((v13 : Nat) : Int)] : List Int))) (by kernel_rfl) ⟨?_, k775q, ?_, e1027⟩ ?_
                · show (List.length (keys ++ ([((v13 : Nat) : Int)] : List Int)) : Int) ≤ (v13 + 1)
                  first | assumption | exact trivial | (refine ⟨?_, ?_⟩ <;> first | omega | (simp only [List.length_set, List.length_append, List.length_replicate, List.length_cons, List.length_nil, List.length_take, List.length_drop] at *; omega)) | omega | (simp only [List.length_set, List.length_append, List.length_replicate, List.length_cons, List.length_nil, List.length_take, List.length_drop] at *; omega)
                · show Int.toNat (((1 : Int) * 2 ^ (Int.toNat width)) - (((v13 + 1) : Nat) : Int)) < k775q
                  first | omega | (simp only [List.length_set, List.length_append, List.length_replicate, List.length_cons, List.length_nil, List.length_take, List.length_drop]; omega)
                · show Int.toNat (((1 : Int) * 2 ^ (Int.toNat width)) - (((v13 + 1) : Nat) : Int)) < Int.toNat (((1 : Int) * 2 ^ (Int.toNat width)) - ((v13 : Nat) : Int))
                  first | omega | (simp only [List.length_set, List.length_append, List.length_replicate, List.length_cons, List.length_nil, List.length_take, List.length_drop]; omega)
              · intro h1028
                have h1028q : 0 ≤ v7 := (of_decide_eq_true (Go.Am.not_neg h1028))
                have e1029 := e1025.trans (Go.Am.bif_f h1028)
                refine AW.keep [0, 1, 5, 12, 13] [22] ⟨[(0, .data (.slice (.named 0)) (fds : List Dep)), (1, .int .i64 width), (5, .arr 22 1), (12, .int .i64 ((1 : Int) * 2 ^ (Int.toNat width))), (13, .int .i64 ((v13 : Nat) : Int))], [(22, .arr 1 (.int .i64) (keys : List Int))]⟩ (by kernel_rfl) ?_
                refine AW.skip ?_
                refine AW.reg hC  false [] [0, 1, 5, 12, 13] [22]
                  ⟨[(0, .data (.slice (.named 0)) (fds : List Dep)), (1, .int .i64 width), (5, .arr 22 1), (12, .int .i64 ((1 : Int) * 2 ^ (Int.toNat width))), (13, .int .i64 ((v13 + 1 : Nat) : Int))], [(22, .arr 1 (.int .i64) (keys : List Int))]⟩
                  [(-9223372036854775808 ≤ ((v13 + 1 : Nat) : Int) ∧ ((v13 + 1 : Nat) : Int) ≤ 9223372036854775807)] (by kernel_rfl) ?_ ?_
                · refine ⟨?_, trivial⟩
                  · -- r10.0: -9223372036854775808 ≤ ((v13 + 1 : Nat) : Int) ∧ ((v13 + 1 : Nat) : Int) ≤ 9223372036854775807
                    first | omega | (have hw := (valid_deps (fds := fds) (w := width) (by assumption)).1; have := pow32 (w := width) hw.2 (by omega); (try simp only [List.length_cons, List.length_nil]); omega)
                refine AW.back (x := (v13, keys)) (v13 + 1, keys) (by kernel_rfl) ⟨?_, k775q, ?_, e1029⟩ ?_
                · show (List.length keys : Int) ≤ (v13 + 1)
                  first | assumption | exact trivial | (refine ⟨?_, ?_⟩ <;> first | omega | (simp only [List.length_set, List.length_append, List.length_replicate, List.length_cons, List.length_nil, List.length_take, List.length_drop] at *; omega)) | omega | (simp only [List.length_set, List.length_append, List.length_replicate, List.length_cons, List.length_nil, List.length_take, List.length_drop] at *; omega)
                · show Int.toNat (((1 : Int) * 2 ^ (Int.toNat width)) - (((v13 + 1) : Nat) : Int)) < k775q
                  first | omega | (simp only [List.length_set, List.length_append, List.length_replicate, List.length_cons, List.length_nil, List.length_take, List.length_drop]; omega)
                · show Int.toNat (((1 : Int) * 2 ^ (Int.toNat width)) - (((v13 + 1) : Nat) : Int)) < Int.toNat (((1 : Int) * 2 ^ (Int.toNat width)) - ((v13 : Nat) : Int))
                  first | omega | (simp only [List.length_set, List.length_append, List.length_replicate, List.length_cons, List.length_nil, List.length_take, List.length_drop]; omega)
        · intro h1030
          have h1030q : ¬ (((v13 : Nat) : Int) < ((1 : Int) * 2 ^ (Int.toNat width))) := (of_decide_eq_false h1030)
          have e1031 := e774.trans (Go.Am.bif_f h1030)
          refine AW.keep [5] [22] ⟨[(5, .arr 22 1)], [(22, .arr 1 (.int .i64) (keys : List Int))]⟩ (by kernel_rfl) ?_
          refine AW.exit ?_
          refine AW.meet keys (by kernel_rfl) ⟨?_, e1031⟩
          show True
          first | assumption | exact trivial | omega
    · intro keys hR
      obtain ⟨hJ0, e1032⟩ := hR
      replace hJ0 : True := hJ0
      have e1033 := e4.trans (Go.Am.then_eq e1032)
      refine AW.seq ?_
      refine AW.reg hC  false [] [4] [22]
        ⟨[(4, .arr 22 1)], [(22, .arr 1 (.int .i64) (keys : List Int))]⟩
        [] (by kernel_rfl) ?_ ?_
      · exact trivial
      refine AW.ret ?_
      exact AW.retE (β := (List Int)) (fun v => [⟨(.slice (.int .i64)), v⟩]) (fun v => []) (v := keys) e1033 (by kernel_rfl) rfl rfl

def candidateKeys_l1 (set_ : Nat) (out : List Int) : Nat → Bool → Nat → Bool
  | 0, is, i => is
  | k + 1, is, i => (bif (decide (((i : Nat) : Int) < ((List.length out : Nat) : Int))) then (candidateKeys_l1 set_ out k (bif is then ((bits .and .i64 (List.getD out i 0) ((set_ : Nat) : Int)) != (List.getD out i 0)) else false) (i + 1)) else is)

def candidateKeys_l0 (fds : List Dep) (width : Int) : Nat → Nat → (List Int) → (List Int)
  | 0, set_, out => out
  | k + 1, set_, out => (bif (decide (((set_ : Nat) : Int) < ((1 : Int) * 2 ^ (Int.toNat width)))) then (Go.Am.andThen (candidateKeys_l1 set_ out ((List.length out) - 0 + 1) ((closureOf fds ((set_ : Nat) : Int)) == (((1 : Int) * 2 ^ (Int.toNat width)) - 1)) 0) (fun z => (fun (is : Bool) => (bif is then (candidateKeys_l0 fds width k (set_ + 1) (out ++ ([((set_ : Nat) : Int)] : List Int))) else (candidateKeys_l0 fds width k (set_ + 1) out))) z)) else out)

def candidateKeys (fds : List Dep) (width : Int) : (List Int) := (Go.Am.andThen (candidateKeys_l0 fds width (Int.toNat (((1 : Int) * 2 ^ (Int.toNat width)) - ((0 : Nat) : Int)) + 1) 0 ([] : List Int)) (fun z => (fun (out : List Int) => out) z))

def candidateKeys_sp : FnSpec := mkSpec [.val (.slice (.named 0)), .val (.int .i64)] [.own (.int .i64)] (fun (fds : List Dep) (width : Int) => (1 ≤ width ∧ width ≤ 6) ∧ ∀ f ∈ fds, (0 ≤ f.From ∧ f.From < 64) ∧ (0 ≤ f.To ∧ f.To < 64)) (fun (fds : List Dep) (width : Int) => [⟨(.slice (.int .i64)), (candidateKeys fds width)⟩])

theorem candidateKeys_ok : FnOK Try.prog 52 candidateKeys_sp := by
  have hC : CtxOK Try.prog (mkCtx tyL [(38, closureOf_sp)]) := CtxOK.cons closureOf_ok (CtxOK.nil tyOK)
  have hM : Try.prog.follows .mixedOrders = true := Try.checked.mixed
  refine FnOK.of_body Try.func52 (by kernel_rfl) rfl (C := (mkCtx tyL [(38, closureOf_sp)])) hC.ty (by decide) ?_
  intro (fds : List Dep) (width : Int) hwf hpre E
  have hpre : (1 ≤ width ∧ width ≤ 6) ∧ ∀ f ∈ fds, (0 ≤ f.From ∧ f.From < 64) ∧ (0 ≤ f.To ∧ f.To < 64) := hpre
  have hw_fds : Wf ⟨(.slice (.named 0)), (fds : List Dep)⟩ := hwf _ (List.Mem.head _)
  have hl_fds : ((List.length fds : Nat) : Int) ≤ 9223372036854775807 := hw_fds.len
  have hw_width : Wf ⟨(.int .i64), (width : Int)⟩ := hwf _ (List.Mem.tail _ (List.Mem.head _))
  have hr_width : -9223372036854775808 ≤ width ∧ width ≤ 9223372036854775807 := hw_width.int_inv
  have hpw := pow32 (w := width) hpre.1.2 (by omega)
  have e0 : candidateKeys fds width = candidateKeys fds width := rfl
  refine AW.seq ?_
  refine AW.reg hC  false [] [0, 1] []
    ⟨[(0, .data (.slice (.named 0)) (fds : List Dep)), (1, .int .i64 width)], []⟩
    [] (by kernel_rfl) ?_ ?_
  · exact trivial
  refine AW.seq ?_
  refine AW.reg hC  false [] [0, 1, 5] [36]
    ⟨[(0, .data (.slice (.named 0)) (fds : List Dep)), (1, .int .i64 width), (5, .arr 36 1)], [(36, .arr 1 (.int .i64) (([] : List Int) : List Int))]⟩
    [] (by kernel_rfl) ?_ ?_
  · exact trivial
  refine AW.seq ?_
  refine AW.seq ?_
  refine AW.reg hC  false [] [0, 1, 5, 6] [36]
    ⟨[(0, .data (.slice (.named 0)) (fds : List Dep)), (1, .int .i64 width), (5, .arr 36 1), (6, .int .i64 0)], [(36, .arr 1 (.int .i64) (([] : List Int) : List Int))]⟩
    [] (by kernel_rfl) ?_ ?_
  · exact trivial
  refine AW.cutQ (α := (List Int)) (fun x => ⟨[(5, .arr 36 1)], [(36, .arr 1 (.int .i64) (x : List Int))]⟩) (fun x => (True) ∧ (candidateKeys_l0 fds width (Int.toNat (((1 : Int) * 2 ^ (Int.toNat width)) - ((0 : Nat) : Int)) + 1) 0 ([] : List Int)) = x) ?_ ?_
  · skip
    refine AW.block ?_
    refine AW.loop (α := Nat × (List Int)) (fun x => ⟨[(0, .data (.slice (.named 0)) (fds : List Dep)), (1, .int .i64 width), (5, .arr 36 1), (6, .int .i64 ((x.1 : Nat) : Int))], [(36, .arr 1 (.int .i64) (x.2 : List Int))]⟩) (fun x => ((List.length x.2 : Int) ≤ x.1) ∧ ∃ k, Int.toNat (((1 : Int) * 2 ^ (Int.toNat width)) - ((x.1 : Nat) : Int)) < k ∧ (candidateKeys_l0 fds width (Int.toNat (((1 : Int) * 2 ^ (Int.toNat width)) - ((0 : Nat) : Int)) + 1) 0 ([] : List Int)) = candidateKeys_l0 fds width k x.1 x.2) (fun x => Int.toNat (((1 : Int) * 2 ^ (Int.toNat width)) - ((x.1 : Nat) : Int))) (0, ([] : List Int)) (by kernel_rfl) ⟨?_, _, Nat.lt_succ_self _, rfl⟩ ?_
    · show (List.length ([] : List Int) : Int) ≤ 0
      first | exact trivial | (refine ⟨?_, ?_⟩ <;> first | omega | simp) | omega | simp
    · intro x hR
      obtain ⟨set_, out⟩ := x
      obtain ⟨hI0, k90, hk88, e89⟩ := hR
      replace hI0 : (List.length out : Int) ≤ set_ := hI0
      replace hk88 : Int.toNat (((1 : Int) * 2 ^ (Int.toNat width)) - ((set_ : Nat) : Int)) < k90 := hk88
      obtain ⟨k90q, rfl⟩ : ∃ k, k90 = k + 1 := ⟨k90 - 1, by omega⟩
      refine AW.seq ?_
      refine AW.seq ?_
      refine AW.reg hC  false [] [0, 1, 5, 6, 13] [36]
        ⟨[(0, .data (.slice (.named 0)) (fds : List Dep)), (1, .int .i64 width), (5, .arr 36 1), (6, .int .i64 ((set_ : Nat) : Int)), (13, .bool (decide (((set_ : Nat) : Int) < ((1 : Int) * 2 ^ (Int.toNat width)))))], [(36, .arr 1 (.int .i64) (out : List Int))]⟩
        [(0 ≤ width ∧ width ≤ 64), (-9223372036854775808 ≤ ((1 : Int) * 2 ^ (Int.toNat width)) ∧ ((1 : Int) * 2 ^ (Int.toNat width)) ≤ 9223372036854775807)] (by kernel_rfl) ?_ ?_
      · refine ⟨?_, ?_, trivial⟩
        · -- r3.0: 0 ≤ width ∧ width ≤ 64
          first | omega | (dsimp only; omega) | (simp only [List.length_set, List.length_append, List.length_replicate, List.length_cons, List.length_nil, List.length_take, List.length_drop] at *; omega)
        · -- r3.1: -9223372036854775808 ≤ ((1 : Int) * 2 ^ (Int.toNat width)) ∧ ((1 : Int) * 2 ^ (Int.toNat width)) ≤ 9223372036854775807
          first | omega | (dsimp only; omega) | (simp only [List.length_set, List.length_append, List.length_replicate, List.length_cons, List.length_nil, List.length_take, List.length_drop] at *; omega)
      refine AW.cond (b := (decide (((set_ : Nat) : Int) < ((1 : Int) * 2 ^ (Int.toNat width))))) (by kernel_rfl) ?_ ?_
      · intro h91
        have h91q : ((set_ : Nat) : Int) < ((1 : Int) * 2 ^ (Int.toNat width)) := (of_decide_eq_true h91)
        have e92 := e89.trans (Go.Am.bif_t h91)
        refine AW.keep [0, 1, 5, 6] [36] ⟨[(0, .data (.slice (.named 0)) (fds : List Dep)), (1, .int .i64 width), (5, .arr 36 1), (6, .int .i64 ((set_ : Nat) : Int))], [(36, .arr 1 (.int .i64) (out : List Int))]⟩ (by kernel_rfl) ?_
        refine AW.skip ?_
        refine AW.seq ?_
        refine AW.block ?_
        refine AW.seq ?_
        refine AW.regD hC hM  false [] [0, 1, 5, 6, 7] [36]
          ⟨[(0, .data (.slice (.named 0)) (fds : List Dep)), (1, .int .i64 width), (5, .arr 36 1), (6, .int .i64 ((set_ : Nat) : Int)), (7, .bool ((closureOf fds ((set_ : Nat) : Int)) == (((1 : Int) * 2 ^ (Int.toNat width)) - 1)))], [(36, .arr 1 (.int .i64) (out : List Int))]⟩
          [((0 ≤ ((set_ : Nat) : Int) ∧ ((set_ : Nat) : Int) < 64) ∧ ∀ f ∈ fds, (0 ≤ f.From ∧ f.From < 64) ∧ (0 ≤ f.To ∧ f.To < 64)), (0 ≤ width ∧ width ≤ 64), (-9223372036854775808 ≤ ((1 : Int) * 2 ^ (Int.toNat width)) ∧ ((1 : Int) * 2 ^ (Int.toNat width)) ≤ 9223372036854775807), (-9223372036854775808 ≤ (((1 : Int) * 2 ^ (Int.toNat width)) - 1) ∧ (((1 : Int) * 2 ^ (Int.toNat width)) - 1) ≤ 9223372036854775807)] (by kernel_rfl) ?_ ?_
        · refine ⟨?_, ?_, ?_, ?_, trivial⟩
          · -- r5.0: (0 ≤ ((set_ : Nat) : Int) ∧ ((set_ : Nat) : Int) < 64) ∧ ∀ f ∈ fds, (0 ≤ f.From ∧ f.From < 64) ∧ (0 ≤ f.To ∧ f.To < 64)
            exact ⟨by omega, hpre.2⟩
          · -- r5.1: 0 ≤ width ∧ width ≤ 64
            first | omega | (dsimp only; omega) | (simp only [List.length_set, List.length_append, List.length_replicate, List.length_cons, List.length_nil, List.length_take, List.length_drop] at *; omega)
          · -- r5.2: -9223372036854775808 ≤ ((1 : Int) * 2 ^ (Int.toNat width)) ∧ ((1 : Int) * 2 ^ (Int.toNat width)) ≤ 9223372036854775807
            first | omega | (dsimp only; omega) | (simp only [List.length_set, List.length_append, List.length_replicate, List.length_cons, List.length_nil, List.length_take, List.length_drop] at *; omega)
          · -- r5.3: -9223372036854775808 ≤ (((1 : Int) * 2 ^ (Int.toNat width)) - 1) ∧ (((1 : Int) * 2 ^ (Int.toNat width)) - 1) ≤ 9223372036854775807
            first | omega | (dsimp only; omega) | (simp only [List.length_set, List.length_append, List.length_replicate, List.length_cons, List.length_nil, List.length_take, List.length_drop] at *; omega)
        refine AW.seq ?_
        refine AW.seq ?_
        refine AW.reg hC  false [] [0, 1, 5, 6, 7, 8] [36]
          ⟨[(0, .data (.slice (.named 0)) (fds : List Dep)), (1, .int .i64 width), (5, .arr 36 1), (6, .int .i64 ((set_ : Nat) : Int)), (7, .bool ((closureOf fds ((set_ : Nat) : Int)) == (((1 : Int) * 2 ^ (Int.toNat width)) - 1))), (8, .int .i64 0)], [(36, .arr 1 (.int .i64) (out : List Int))]⟩
          [] (by kernel_rfl) ?_ ?_
        · exact trivial
        refine AW.cutQ (α := Bool) (fun x => ⟨[(0, .data (.slice (.named 0)) (fds : List Dep)), (1, .int .i64 width), (5, .arr 36 1), (6, .int .i64 ((set_ : Nat) : Int)), (7, .bool x)], [(36, .arr 1 (.int .i64) (out : List Int))]⟩) (fun x => (True) ∧ (candidateKeys_l1 set_ out ((List.length out) - 0 + 1) ((closureOf fds ((set_ : Nat) : Int)) == (((1 : Int) * 2 ^ (Int.toNat width)) - 1)) 0) = x) ?_ ?_
        · skip
          refine AW.block ?_
          refine AW.loop (α := Bool × Nat) (fun x => ⟨[(0, .data (.slice (.named 0)) (fds : List Dep)), (1, .int .i64 width), (5, .arr 36 1), (6, .int .i64 ((set_ : Nat) : Int)), (7, .bool x.1), (8, .int .i64 ((x.2 : Nat) : Int))], [(36, .arr 1 (.int .i64) (out : List Int))]⟩) (fun x => (True) ∧ ∃ k, (List.length out) - x.2 < k ∧ (candidateKeys_l1 set_ out ((List.length out) - 0 + 1) ((closureOf fds ((set_ : Nat) : Int)) == (((1 : Int) * 2 ^ (Int.toNat width)) - 1)) 0) = candidateKeys_l1 set_ out k x.1 x.2) (fun x => (List.length out) - x.2) (((closureOf fds ((set_ : Nat) : Int)) == (((1 : Int) * 2 ^ (Int.toNat width)) - 1)), 0) (by kernel_rfl) ⟨?_, _, Nat.lt_succ_self _, rfl⟩ ?_
          · show True
            first | exact trivial | (refine ⟨?_, ?_⟩ <;> first | omega | simp) | omega | simp
          · intro x hR
            obtain ⟨is, i⟩ := x
            obtain ⟨hI1, k107, hk105, e106⟩ := hR
            replace hI1 : True := hI1
            replace hk105 : (List.length out) - i < k107 := hk105
            obtain ⟨k107q, rfl⟩ : ∃ k, k107 = k + 1 := ⟨k107 - 1, by omega⟩
            refine AW.seq ?_
            refine AW.seq ?_
            refine AW.reg hC  false [] [0, 1, 5, 6, 7, 8, 26] [36]
              ⟨[(0, .data (.slice (.named 0)) (fds : List Dep)), (1, .int .i64 width), (5, .arr 36 1), (6, .int .i64 ((set_ : Nat) : Int)), (7, .bool is), (8, .int .i64 ((i : Nat) : Int)), (26, .bool (decide (((i : Nat) : Int) < ((List.length out : Nat) : Int))))], [(36, .arr 1 (.int .i64) (out : List Int))]⟩
              [] (by kernel_rfl) ?_ ?_
            · exact trivial
            refine AW.cond (b := (decide (((i : Nat) : Int) < ((List.length out : Nat) : Int)))) (by kernel_rfl) ?_ ?_
            · intro h108
              have h108q : ((i : Nat) : Int) < ((List.length out : Nat) : Int) := (of_decide_eq_true h108)
              have e109 := e106.trans (Go.Am.bif_t h108)
              refine AW.keep [0, 1, 5, 6, 7, 8] [36] ⟨[(0, .data (.slice (.named 0)) (fds : List Dep)), (1, .int .i64 width), (5, .arr 36 1), (6, .int .i64 ((set_ : Nat) : Int)), (7, .bool is), (8, .int .i64 ((i : Nat) : Int))], [(36, .arr 1 (.int .i64) (out : List Int))]⟩ (by kernel_rfl) ?_
              refine AW.skip ?_
              refine AW.seq ?_
              refine AW.block ?_
              refine AW.regD hC hM  false [] [0, 1, 5, 6, 7, 8] [36]
                ⟨[(0, .data (.slice (.named 0)) (fds : List Dep)), (1, .int .i64 width), (5, .arr 36 1), (6, .int .i64 ((set_ : Nat) : Int)), (7, .bool (bif is then ((bits .and .i64 (List.getD out i 0) ((set_ : Nat) : Int)) != (List.getD out i 0)) else false)), (8, .int .i64 ((i : Nat) : Int))], [(36, .arr 1 (.int .i64) (out : List Int))]⟩
                [((is = true) → ((is = true))), ((is = true) → ((is = true))), ((is = true) → (0 ≤ ((i : Nat) : Int) ∧ ((i : Nat) : Int) < ((List.length out : Nat) : Int))), ((is = true) → ((is = true))), ((is = true) → ((is = true))), ((is = true) → ((is = true))), ((is = true) → ((is = true))), ((is = true) → ((is = true))), ((is = true) → (0 ≤ ((i : Nat) : Int) ∧ ((i : Nat) : Int) < ((List.length out : Nat) : Int))), ((is = true) → ((is = true))), ((is = true) → ((is = true))), ((is = true) → ((is = true))), ((is = true) → ((is = true)))] (by kernel_rfl) ?_ ?_
              · refine ⟨?_, ?_, ?_, ?_, ?_, ?_, ?_, ?_, ?_, ?_, ?_, ?_, ?_, trivial⟩
                · intro g110
                  have g110p0 : is = true := g110
                  first | assumption | exact ⟨by assumption, by assumption⟩
                · intro g111
                  have g111p0 : is = true := g111
                  first | assumption | exact ⟨by assumption, by assumption⟩
                · intro g112
                  have g112p0 : is = true := g112
                  -- r9.2: 0 ≤ ((i : Nat) : Int) ∧ ((i : Nat) : Int) < ((List.length out : Nat) : Int)
                  first | omega | (dsimp only; omega) | (simp only [List.length_set, List.length_append, List.length_replicate, List.length_cons, List.length_nil, List.length_take, List.length_drop] at *; omega)
                · intro g113
                  have g113p0 : is = true := g113
                  first | assumption | exact ⟨by assumption, by assumption⟩
                · intro g114
                  have g114p0 : is = true := g114
                  first | assumption | exact ⟨by assumption, by assumption⟩
                · intro g115
                  have g115p0 : is = true := g115
                  first | assumption | exact ⟨by assumption, by assumption⟩
                · intro g116
                  have g116p0 : is = true := g116
                  first | assumption | exact ⟨by assumption, by assumption⟩
                · intro g117
                  have g117p0 : is = true := g117
                  first | assumption | exact ⟨by assumption, by assumption⟩
                · intro g118
                  have g118p0 : is = true := g118
                  -- r9.8: 0 ≤ ((i : Nat) : Int) ∧ ((i : Nat) : Int) < ((List.length out : Nat) : Int)
                  first | omega | (dsimp only; omega) | (simp only [List.length_set, List.length_append, List.length_replicate, List.length_cons, List.length_nil, List.length_take, List.length_drop] at *; omega)
                · intro g119
                  have g119p0 : is = true := g119
                  first | assumption | exact ⟨by assumption, by assumption⟩
                · intro g120
                  have g120p0 : is = true := g120
                  first | assumption | exact ⟨by assumption, by assumption⟩
                · intro g121
                  have g121p0 : is = true := g121
                  first | assumption | exact ⟨by assumption, by assumption⟩
                · intro g122
                  have g122p0 : is = true := g122
                  first | assumption | exact ⟨by assumption, by assumption⟩
              refine AW.reg hC  false [] [0, 1, 5, 6, 7, 8] [36]
                ⟨[(0, .data (.slice (.named 0)) (fds : List Dep)), (1, .int .i64 width), (5, .arr 36 1), (6, .int .i64 ((set_ : Nat) : Int)), (7, .bool (bif is then ((bits .and .i64 (List.getD out i 0) ((set_ : Nat) : Int)) != (List.getD out i 0)) else false)), (8, .int .i64 ((i + 1 : Nat) : Int))], [(36, .arr 1 (.int .i64) (out : List Int))]⟩
                [(-9223372036854775808 ≤ ((i + 1 : Nat) : Int) ∧ ((i + 1 : Nat) : Int) ≤ 9223372036854775807)] (by kernel_rfl) ?_ ?_
              · refine ⟨?_, trivial⟩
                · -- r8.0: -9223372036854775808 ≤ ((i + 1 : Nat) : Int) ∧ ((i + 1 : Nat) : Int) ≤ 9223372036854775807
                  first | omega | (dsimp only; omega) | (simp only [List.length_set, List.length_append, List.length_replicate, List.length_cons, List.length_nil, List.length_take, List.length_drop] at *; omega)
              refine AW.back (x := (is, i)) ((bif is then ((bits .and .i64 (List.getD out i 0) ((set_ : Nat) : Int)) != (List.getD out i 0)) else false), i + 1) (by kernel_rfl) ⟨?_, k107q, ?_, e109⟩ ?_
              · show True
                first | assumption | exact trivial | (refine ⟨?_, ?_⟩ <;> first | omega | (simp only [List.length_set, List.length_append, List.length_replicate, List.length_cons, List.length_nil, List.length_take, List.length_drop] at *; omega)) | omega | (simp only [List.length_set, List.length_append, List.length_replicate, List.length_cons, List.length_nil, List.length_take, List.length_drop] at *; omega)
              · show (List.length out) - (i + 1) < k107q
                first | omega | (simp only [List.length_set, List.length_append, List.length_replicate, List.length_cons, List.length_nil, List.length_take, List.length_drop]; omega)
              · show (List.length out) - (i + 1) < (List.length out) - i
                first | omega | (simp only [List.length_set, List.length_append, List.length_replicate, List.length_cons, List.length_nil, List.length_take, List.length_drop]; omega)
            · intro h123
              have h123q : ¬ (((i : Nat) : Int) < ((List.length out : Nat) : Int)) := (of_decide_eq_false h123)
              have e124 := e106.trans (Go.Am.bif_f h123)
              refine AW.keep [0, 1, 5, 6, 7] [36] ⟨[(0, .data (.slice (.named 0)) (fds : List Dep)), (1, .int .i64 width), (5, .arr 36 1), (6, .int .i64 ((set_ : Nat) : Int)), (7, .bool is)], [(36, .arr 1 (.int .i64) (out : List Int))]⟩ (by kernel_rfl) ?_
              refine AW.exit ?_
              refine AW.meet is (by kernel_rfl) ⟨?_, e124⟩
              show True
              first | assumption | exact trivial | omega
        · intro is hR
          obtain ⟨hJ1, e125⟩ := hR
          replace hJ1 : True := hJ1
          have e126 := e92.trans (Go.Am.then_eq e125)
          refine AW.seq ?_
          refine AW.reg hC  false [] [0, 1, 5, 6, 43] [36]
            ⟨[(0, .data (.slice (.named 0)) (fds : List Dep)), (1, .int .i64 width), (5, .arr 36 1), (6, .int .i64 ((set_ : Nat) : Int)), (43, .bool is)], [(36, .arr 1 (.int .i64) (out : List Int))]⟩
            [] (by kernel_rfl) ?_ ?_
          · exact trivial
          refine AW.cond (b := is) (by kernel_rfl) ?_ ?_
          · intro h127
            have h127q : is = true := h127
            have e128 := e126.trans (Go.Am.bif_t h127)
            refine AW.reg hC  false [] [0, 1, 5, 6] [36]
              ⟨[(0, .data (.slice (.named 0)) (fds : List Dep)), (1, .int .i64 width), (5, .arr 36 1), (6, .int .i64 ((set_ : Nat) : Int))], [(36, .arr 1 (.int .i64) ((out ++ ([((set_ : Nat) : Int)] : List Int)) : List Int))]⟩
              [(((List.length out : Nat) : Int) + ((List.length ([((set_ : Nat) : Int)] : List Int) : Nat) : Int) ≤ 4294967296)] (by kernel_rfl) ?_ ?_
            · refine ⟨?_, trivial⟩
              · -- r11.0: ((List.length out : Nat) : Int) + ((List.length ([((set_ : Nat) : Int)] : List Int) : Nat) : Int) ≤ 4294967296
                first | omega | (dsimp only; omega) | (simp only [List.length_set, List.length_append, List.length_replicate, List.length_cons, List.length_nil, List.length_take, List.length_drop] at *; omega)
            refine AW.reg hC  false [] [0, 1, 5, 6] [36]
              ⟨[(0, .data (.slice (.named 0)) (fds : List Dep)), (1, .int .i64 width), (5, .arr 36 1), (6, .int .i64 ((set_ + 1 : Nat) : Int))], [(36, .arr 1 (.int .i64) ((out ++ ([((set_ : Nat) : Int)] : List Int)) : List Int))]⟩
              [(-9223372036854775808 ≤ ((set_ + 1 : Nat) : Int) ∧ ((set_ + 1 : Nat) : Int) ≤ 9223372036854775807)] (by kernel_rfl) ?_ ?_
            · refine ⟨?_, trivial⟩
              · -- r4.0: -9223372036854775808 ≤ ((set_ + 1 : Nat) : Int) ∧ ((set_ + 1 : Nat) : Int) ≤ 9223372036854775807
                first | omega | (dsimp only; omega) | (simp only [List.length_set, List.length_append, List.length_replicate, List.length_cons, List.length_nil, List.length_take, List.length_drop] at *; omega)
            refine AW.back (x := (set_, out)) (set_ + 1, (out ++ ([((set_ : Nat) : Int)] : List Int))) (by kernel_rfl) ⟨?_, k90q, ?_, e128⟩ ?_
            · show (List.length (out ++ ([((set_ : Nat) : Int)] : List Int)) : Int) ≤ (set_ + 1)
              first | assumption | exact trivial | (refine ⟨?_, ?_⟩ <;> first | omega | (simp only [List.length_set, List.length_append, List.length_replicate, List.length_cons, List.length_nil, List.length_take, List.length_drop] at *; omega)) | omega | (simp only [List.length_set, List.length_append, List.length_replicate, List.length_cons, List.length_nil, List.length_take, List.length_drop] at *; omega)
            · show Int.toNat (((1 : Int) * 2 ^ (Int.toNat width)) - (((set_ + 1) : Nat) : Int)) < k90q
              first | omega | (simp only [List.length_set, List.length_append, List.length_replicate, List.length_cons, List.length_nil, List.length_take, List.length_drop]; omega)
            · show Int.toNat (((1 : Int) * 2 ^ (Int.toNat width)) - (((set_ + 1) : Nat) : Int)) < Int.toNat (((1 : Int) * 2 ^ (Int.toNat width)) - ((set_ : Nat) : Int))
              first | omega | (simp only [List.length_set, List.length_append, List.length_replicate, List.length_cons, List.length_nil, List.length_take, List.length_drop]; omega)
          · intro h129
            have h129q : is = false := h129
            have e130 := e126.trans (Go.Am.bif_f h129)
            refine AW.keep [0, 1, 5, 6] [36] ⟨[(0, .data (.slice (.named 0)) (fds : List Dep)), (1, .int .i64 width), (5, .arr 36 1), (6, .int .i64 ((set_ : Nat) : Int))], [(36, .arr 1 (.int .i64) (out : List Int))]⟩ (by kernel_rfl) ?_
            refine AW.skip ?_
            refine AW.reg hC  false [] [0, 1, 5, 6] [36]
              ⟨[(0, .data (.slice (.named 0)) (fds : List Dep)), (1, .int .i64 width), (5, .arr 36 1), (6, .int .i64 ((set_ + 1 : Nat) : Int))], [(36, .arr 1 (.int .i64) (out : List Int))]⟩
              [(-9223372036854775808 ≤ ((set_ + 1 : Nat) : Int) ∧ ((set_ + 1 : Nat) : Int) ≤ 9223372036854775807)] (by kernel_rfl) ?_ ?_
            · refine ⟨?_, trivial⟩
              · -- r4.0: -9223372036854775808 ≤ ((set_ + 1 : Nat) : Int) ∧ ((set_ + 1 : Nat) : Int) ≤ 9223372036854775807
                first | omega | (dsimp only; omega) | (simp only [List.length_set, List.length_append, List.length_replicate, List.length_cons, List.length_nil, List.length_take, List.length_drop] at *; omega)
            refine AW.back (x := (set_, out)) (set_ + 1, out) (by kernel_rfl) ⟨?_, k90q, ?_, e130⟩ ?_
            · show (List.length out : Int) ≤ (set_ + 1)
              first | assumption | exact trivial | (refine ⟨?_, ?_⟩ <;> first | omega | (simp only [List.length_set, List.length_append, List.length_replicate, List.length_cons, List.length_nil, List.length_take, List.length_drop] at *; omega)) | omega | (simp only [List.length_set, List.length_append, List.length_replicate, List.length_cons, List.length_nil, List.length_take, List.length_drop] at *; omega)
            · show Int.toNat (((1 : Int) * 2 ^ (Int.toNat width)) - (((set_ + 1) : Nat) : Int)) < k90q
              first | omega | (simp only [List.length_set, List.length_append, List.length_replicate, List.length_cons, List.length_nil, List.length_take, List.length_drop]; omega)
            · show Int.toNat (((1 : Int) * 2 ^ (Int.toNat width)) - (((set_ + 1) : Nat) : Int)) < Int.toNat (((1 : Int) * 2 ^ (Int.toNat width)) - ((set_ : Nat) : Int))
              first | omega | (simp only [List.length_set, List.length_append, List.length_replicate, List.length_cons, List.length_nil, List.length_take, List.length_drop]; omega)
      · intro h131
        have h131q : ¬ (((set_ : Nat) : Int) < ((1 : Int) * 2 ^ (Int.toNat width))) := (of_decide_eq_false h131)
        have e132 := e89.trans (Go.Am.bif_f h131)
        refine AW.keep [5] [36] ⟨[(5, .arr 36 1)], [(36, .arr 1 (.int .i64) (out : List Int))]⟩ (by kernel_rfl) ?_
        refine AW.exit ?_
        refine AW.meet out (by kernel_rfl) ⟨?_, e132⟩
        show True
        first | assumption | exact trivial | omega
  · intro out hR
    obtain ⟨hJ0, e133⟩ := hR
    replace hJ0 : True := hJ0
    have e134 := e0.trans (Go.Am.then_eq e133)
    refine AW.seq ?_
    refine AW.reg hC  false [] [4] [36]
      ⟨[(4, .arr 36 1)], [(36, .arr 1 (.int .i64) (out : List Int))]⟩
      [] (by kernel_rfl) ?_ ?_
    · exact trivial
    refine AW.ret ?_
    exact AW.retE (β := (List Int)) (fun v => [⟨(.slice (.int .i64)), v⟩]) (fun v => []) (v := out) e134 (by kernel_rfl) rfl rfl

def CandidateKeys (fds : List Dep) (width : Int) : (List Int) := (bif (!(validDependencies fds width)) then ([] : List Int) else (candidateKeys fds width))

def CandidateKeys_sp : FnSpec := mkSpec [.val (.slice (.named 0)), .val (.int .i64)] [.own (.int .i64)] (fun (fds : List Dep) (width : Int) => True) (fun (fds : List Dep) (width : Int) => [⟨(.slice (.int .i64)), (CandidateKeys fds width)⟩])

theorem CandidateKeys_ok : FnOK Try.prog 25 CandidateKeys_sp := by
  have hC : CtxOK Try.prog (mkCtx tyL [(36, validDependencies_sp), (52, candidateKeys_sp)]) := CtxOK.cons validDependencies_ok (CtxOK.cons candidateKeys_ok (CtxOK.nil tyOK))
  refine FnOK.of_body Try.func25 (by kernel_rfl) rfl (C := (mkCtx tyL [(36, validDependencies_sp), (52, candidateKeys_sp)])) hC.ty (by decide) ?_
  intro (fds : List Dep) (width : Int) hwf hpre E
  have hpre : True := hpre
  have hw_fds : Wf ⟨(.slice (.named 0)), (fds : List Dep)⟩ := hwf _ (List.Mem.head _)
  have hl_fds : ((List.length fds : Nat) : Int) ≤ 9223372036854775807 := hw_fds.len
  have hw_width : Wf ⟨(.int .i64), (width : Int)⟩ := hwf _ (List.Mem.tail _ (List.Mem.head _))
  have hr_width : -9223372036854775808 ≤ width ∧ width ≤ 9223372036854775807 := hw_width.int_inv
  have e0 : CandidateKeys fds width = CandidateKeys fds width := rfl
  refine AW.seq ?_
  refine AW.reg hC  false [] [0, 1] []
    ⟨[(0, .data (.slice (.named 0)) (fds : List Dep)), (1, .int .i64 width)], []⟩
    [] (by kernel_rfl) ?_ ?_
  · exact trivial
  refine AW.seq ?_
  refine AW.seq ?_
  refine AW.reg hC  false [] [0, 1, 8] []
    ⟨[(0, .data (.slice (.named 0)) (fds : List Dep)), (1, .int .i64 width), (8, .bool (!(validDependencies fds width)))], []⟩
    [(True)] (by kernel_rfl) ?_ ?_
  · refine ⟨?_, trivial⟩
    · trivial
  refine AW.cond (b := (!(validDependencies fds width))) (by kernel_rfl) ?_ ?_
  · intro h1
    have h1q : (validDependencies fds width) = false := (Go.Am.not_pos h1)
    have e2 := e0.trans (Go.Am.bif_t h1)
    refine AW.seq ?_
    refine AW.reg hC  false [] [4] []
      ⟨[(4, .nilsl)], []⟩
      [] (by kernel_rfl) ?_ ?_
    · exact trivial
    refine AW.ret ?_
    exact AW.retE (β := (List Int)) (fun v => [⟨(.slice (.int .i64)), v⟩]) (fun v => []) (v := ([] : List Int)) e2 (by kernel_rfl) rfl rfl
  · intro h3
    have h3q : (validDependencies fds width) = true := (Go.Am.not_neg h3)
    have e4 := e0.trans (Go.Am.bif_f h3)
    refine AW.keep [0, 1] [] ⟨[(0, .data (.slice (.named 0)) (fds : List Dep)), (1, .int .i64 width)], []⟩ (by kernel_rfl) ?_
    refine AW.skip ?_
    refine AW.seq ?_
    refine AW.reg hC  false [] [4] [44]
      ⟨[(4, .arr 44 1)], [(44, .arr 1 (.int .i64) ((candidateKeys fds width) : List Int))]⟩
      [((1 ≤ width ∧ width ≤ 6) ∧ ∀ f ∈ fds, (0 ≤ f.From ∧ f.From < 64) ∧ (0 ≤ f.To ∧ f.To < 64))] (by kernel_rfl) ?_ ?_
    · refine ⟨?_, trivial⟩
      · -- r3.0: (1 ≤ width ∧ width ≤ 6) ∧ ∀ f ∈ fds, (0 ≤ f.From ∧ f.From < 64) ∧ (0 ≤ f.To ∧ f.To < 64)
        have := valid_deps (valid_eq fds width ▸ h3q)
        exact ⟨this.1, this.2.2.1⟩
    refine AW.ret ?_
    exact AW.retE (β := (List Int)) (fun v => [⟨(.slice (.int .i64)), v⟩]) (fun v => []) (v := (candidateKeys fds width)) e4 (by kernel_rfl) rfl rfl

def FnExactCandidateKeys_l0 : Nat → Nat → Nat → (List Dep) → Nat
  | 0, cnd, i, a => cnd
  | k + 1, cnd, i, a => (bif (decide (((i : Nat) : Int) < ((List.length a : Nat) : Int))) then (FnExactCandidateKeys_l0 k ((cnd + 1) + 1) (i + 1) (List.set (List.set a i (Dep.mk ((cnd : Nat) : Int) (Dep.To (List.getD a i Dep.zero)))) i (Dep.mk (Dep.From (List.getD (List.set a i (Dep.mk ((cnd : Nat) : Int) (Dep.To (List.getD a i Dep.zero)))) i Dep.zero)) ((cnd + 1 : Nat) : Int)))) else cnd)

def FnExactCandidateKeys_l1 : Nat → Nat → Nat → (List Int) → Nat × (List Int)
  | 0, cni, i, a => (cni, a)
  | k + 1, cni, i, a => (bif (decide (((i : Nat) : Int) < ((List.length a : Nat) : Int))) then (FnExactCandidateKeys_l1 k (cni + 1) (i + 1) (List.set a i ((cni : Nat) : Int))) else (cni, a))

def FnExactCandidateKeys (aFds : List Dep) (aWidth : Int) : Bool := (bif (decide ((szDependencyS aFds 1048576) < 0)) then true else (bif (!(eqIntS (iCandidateKeys (toDependencyS aFds) aWidth) (CandidateKeys (toDependencyS aFds) aWidth))) then false else (bif (!(eqDependencyS (toDependencyS aFds) (toDependencyS aFds))) then false else (Go.Am.andThen (FnExactCandidateKeys_l0 ((List.length (toDependencyS aFds)) - 0 + 1) 1 0 (toDependencyS aFds)) (fun z => (fun (cnd : Nat) => (bif (bif (decide (((cnd : Nat) : Int) < 0)) then true else (!(eqIntS (iCandidateKeys (toDependencyS aFds) aWidth) (CandidateKeys (toDependencyS aFds) aWidth)))) then false else (Go.Am.andThen (FnExactCandidateKeys_l1 ((List.length (iCandidateKeys (toDependencyS aFds) aWidth)) - 0 + 1) 1 0 (iCandidateKeys (toDependencyS aFds) aWidth)) (fun z => (fun (cni : Nat) (a : List Int) => (bif (decide ((heldIntS a 1) < 0)) then false else (bif ((heldIntS a 1) != ((cni : Nat) : Int)) then false else (bif (!(eqIntS (iCandidateKeys (toDependencyS aFds) aWidth) (CandidateKeys (toDependencyS aFds) aWidth))) then false else (bif (decide ((heldIntS a 1) < 0)) then false else (bif ((heldIntS a 1) != ((cni : Nat) : Int)) then false else true)))))) z.1 z.2)))) z)))))

def FnExactCandidateKeys_sp : FnSpec := mkSpec [.val (.slice (.named 0)), .val (.int .i64)] [.val .bool] (fun (aFds : List Dep) (aWidth : Int) => True) (fun (aFds : List Dep) (aWidth : Int) => [⟨.bool, (FnExactCandidateKeys aFds aWidth)⟩])

theorem FnExactCandidateKeys_ok : FnOK Try.prog 8 FnExactCandidateKeys_sp := by
  have hC : CtxOK Try.prog (mkCtx tyL [(12, szDependencyS_sp), (14, toDependencyS_sp), (16, eqDependencyS_sp), (23, iCandidateKeys_sp), (25, CandidateKeys_sp), (26, eqIntS_sp), (29, heldIntS_sp)]) := CtxOK.cons szDependencyS_ok (CtxOK.cons toDependencyS_ok (CtxOK.cons eqDependencyS_ok (CtxOK.cons iCandidateKeys_ok (CtxOK.cons CandidateKeys_ok (CtxOK.cons eqIntS_ok (CtxOK.cons heldIntS_ok (CtxOK.nil tyOK)))))))
  have hC1 := hC.rebase 1000
  refine FnOK.of_body Try.func8 (by kernel_rfl) rfl (C := (mkCtx tyL [(12, szDependencyS_sp), (14, toDependencyS_sp), (16, eqDependencyS_sp), (23, iCandidateKeys_sp), (25, CandidateKeys_sp), (26, eqIntS_sp), (29, heldIntS_sp)])) hC.ty (by decide) ?_
  intro (aFds : List Dep) (aWidth : Int) hwf hpre E
  have hpre : True := hpre
  have hw_aFds : Wf ⟨(.slice (.named 0)), (aFds : List Dep)⟩ := hwf _ (List.Mem.head _)
  have hl_aFds : ((List.length aFds : Nat) : Int) ≤ 9223372036854775807 := hw_aFds.len
  have hw_aWidth : Wf ⟨(.int .i64), (aWidth : Int)⟩ := hwf _ (List.Mem.tail _ (List.Mem.head _))
  have hr_aWidth : -9223372036854775808 ≤ aWidth ∧ aWidth ≤ 9223372036854775807 := hw_aWidth.int_inv
  have e0 : FnExactCandidateKeys aFds aWidth = FnExactCandidateKeys aFds aWidth := rfl
  refine AW.seq ?_
  refine AW.reg hC  false [] [0, 1] []
    ⟨[(0, .data (.slice (.named 0)) (aFds : List Dep)), (1, .int .i64 aWidth)], []⟩
    [] (by kernel_rfl) ?_ ?_
  · exact trivial
  refine AW.seq ?_
  refine AW.reg hC  false [] [0, 1, 5] []
    ⟨[(0, .data (.slice (.named 0)) (aFds : List Dep)), (1, .int .i64 aWidth), (5, .int .i64 1048576)], []⟩
    [] (by kernel_rfl) ?_ ?_
  · exact trivial
  refine AW.seq ?_
  refine AW.reg hC  false [] [0, 1, 5] []
    ⟨[(0, .data (.slice (.named 0)) (aFds : List Dep)), (1, .int .i64 aWidth), (5, .int .i64 (szDependencyS aFds 1048576))], []⟩
    [(0 ≤ (1048576 : Int))] (by kernel_rfl) ?_ ?_
  · refine ⟨?_, trivial⟩
    · -- r2.0: 0 ≤ (1048576 : Int)
      first | omega | exact szDep_le (by assumption)
  refine AW.seq ?_
  refine AW.seq ?_
  refine AW.reg hC  false [] [0, 1, 17] []
    ⟨[(0, .data (.slice (.named 0)) (aFds : List Dep)), (1, .int .i64 aWidth), (17, .bool (decide ((szDependencyS aFds 1048576) < 0)))], []⟩
    [] (by kernel_rfl) ?_ ?_
  · exact trivial
  refine AW.cond (b := (decide ((szDependencyS aFds 1048576) < 0))) (by kernel_rfl) ?_ ?_
  · intro h1
    have h1q : (szDependencyS aFds 1048576) < 0 := (of_decide_eq_true h1)
    have e2 := e0.trans (Go.Am.bif_t h1)
    refine AW.seq ?_
    refine AW.reg hC  false [] [4] []
      ⟨[(4, .bool true)], []⟩
      [] (by kernel_rfl) ?_ ?_
    · exact trivial
    refine AW.ret ?_
    exact AW.retE (β := Bool) (fun v => [⟨.bool, v⟩]) (fun v => []) (v := true) e2 (by kernel_rfl) rfl rfl
  · intro h3
    have h3q : ¬ ((szDependencyS aFds 1048576) < 0) := (of_decide_eq_false h3)
    have e4 := e0.trans (Go.Am.bif_f h3)
    refine AW.keep [0, 1] [] ⟨[(0, .data (.slice (.named 0)) (aFds : List Dep)), (1, .int .i64 aWidth)], []⟩ (by kernel_rfl) ?_
    refine AW.skip ?_
    refine AW.seq ?_
    refine AW.reg hC  false [] [0, 1, 6] [84]
      ⟨[(0, .data (.slice (.named 0)) (aFds : List Dep)), (1, .int .i64 aWidth), (6, .arr 84 1)], [(84, .arr 1 (.int .i64) ((CandidateKeys (toDependencyS aFds) aWidth) : List Int))]⟩
      [((List.length aFds : Int) ≤ 1048576), (True)] (by kernel_rfl) ?_ ?_
    · refine ⟨?_, ?_, trivial⟩
      · -- r5.0: (List.length aFds : Int) ≤ 1048576
        first | omega | exact szDep_le (by assumption)
      · trivial
    refine AW.seq ?_
    refine AW.wf_arr (id := 84) (ep := 1) (t := (.int .i64)) (xs := ((CandidateKeys (toDependencyS aFds) aWidth) : List Int)) (by kernel_rfl) fun ha5 _ => ?_
    replace ha5 : ((List.length (CandidateKeys (toDependencyS aFds) aWidth) : Nat) : Int) ≤ 4294967296 := ha5
    refine AW.reg hC  false [] [0, 1, 6, 7] [84, 92]
      ⟨[(0, .data (.slice (.named 0)) (aFds : List Dep)), (1, .int .i64 aWidth), (6, .arr 84 1), (7, .arr 92 1)], [(84, .arr 1 (.int .i64) ((CandidateKeys (toDependencyS aFds) aWidth) : List Int)), (92, .arr 1 (.named 0) ((toDependencyS aFds) : List Dep))]⟩
      [((List.length aFds : Int) ≤ 1048576)] (by kernel_rfl) ?_ ?_
    · refine ⟨?_, trivial⟩
      · -- r6.0: (List.length aFds : Int) ≤ 1048576
        first | omega | exact szDep_le (by assumption)
    refine AW.seq ?_
    refine AW.wf_arr (id := 84) (ep := 1) (t := (.int .i64)) (xs := ((CandidateKeys (toDependencyS aFds) aWidth) : List Int)) (by kernel_rfl) fun ha6 _ => ?_
    replace ha6 : ((List.length (CandidateKeys (toDependencyS aFds) aWidth) : Nat) : Int) ≤ 4294967296 := ha6
    refine AW.wf_arr (id := 92) (ep := 1) (t := (.named 0)) (xs := ((toDependencyS aFds) : List Dep)) (by kernel_rfl) fun ha7 _ => ?_
    replace ha7 : ((List.length (toDependencyS aFds) : Nat) : Int) ≤ 4294967296 := ha7
    refine AW.reg hC  false [] [0, 1, 6, 7, 8] [84, 92, 104]
      ⟨[(0, .data (.slice (.named 0)) (aFds : List Dep)), (1, .int .i64 aWidth), (6, .arr 84 1), (7, .arr 92 1), (8, .arr 104 1)], [(84, .arr 1 (.int .i64) ((CandidateKeys (toDependencyS aFds) aWidth) : List Int)), (92, .arr 1 (.named 0) ((toDependencyS aFds) : List Dep)), (104, .arr 1 (.int .i64) ((iCandidateKeys (toDependencyS aFds) aWidth) : List Int))]⟩
      [(True)] (by kernel_rfl) ?_ ?_
    · refine ⟨?_, trivial⟩
      · trivial
    refine AW.seq ?_
    refine AW.seq ?_
    refine AW.wf_arr (id := 84) (ep := 1) (t := (.int .i64)) (xs := ((CandidateKeys (toDependencyS aFds) aWidth) : List Int)) (by kernel_rfl) fun ha8 _ => ?_
    replace ha8 : ((List.length (CandidateKeys (toDependencyS aFds) aWidth) : Nat) : Int) ≤ 4294967296 := ha8
    refine AW.wf_arr (id := 92) (ep := 1) (t := (.named 0)) (xs := ((toDependencyS aFds) : List Dep)) (by kernel_rfl) fun ha9 _ => ?_
    replace ha9 : ((List.length (toDependencyS aFds) : Nat) : Int) ≤ 4294967296 := ha9
    refine AW.wf_arr (id := 104) (ep := 1) (t := (.int .i64)) (xs := ((iCandidateKeys (toDependencyS aFds) aWidth) : List Int)) (by kernel_rfl) fun ha10 _ => ?_
    replace ha10 : ((List.length (iCandidateKeys (toDependencyS aFds) aWidth) : Nat) : Int) ≤ 4294967296 := ha10
    refine AW.reg hC  false [] [0, 1, 6, 7, 8, 30] [84, 92, 104]
      ⟨[(0, .data (.slice (.named 0)) (aFds : List Dep)), (1, .int .i64 aWidth), (6, .arr 84 1), (7, .arr 92 1), (8, .arr 104 1), (30, .bool (!(eqIntS (iCandidateKeys (toDependencyS aFds) aWidth) (CandidateKeys (toDependencyS aFds) aWidth))))], [(84, .arr 1 (.int .i64) ((CandidateKeys (toDependencyS aFds) aWidth) : List Int)), (92, .arr 1 (.named 0) ((toDependencyS aFds) : List Dep)), (104, .arr 1 (.int .i64) ((iCandidateKeys (toDependencyS aFds) aWidth) : List Int))]⟩
      [(True)] (by kernel_rfl) ?_ ?_
    · refine ⟨?_, trivial⟩
      · trivial
    refine AW.cond (b := (!(eqIntS (iCandidateKeys (toDependencyS aFds) aWidth) (CandidateKeys (toDependencyS aFds) aWidth)))) (by kernel_rfl) ?_ ?_
    · intro h11
      have h11q : (eqIntS (iCandidateKeys (toDependencyS aFds) aWidth) (CandidateKeys (toDependencyS aFds) aWidth)) = false := (Go.Am.not_pos h11)
      have e12 := e4.trans (Go.Am.bif_t h11)
      refine AW.seq ?_
      refine AW.wf_arr (id := 84) (ep := 1) (t := (.int .i64)) (xs := ((CandidateKeys (toDependencyS aFds) aWidth) : List Int)) (by kernel_rfl) fun ha13 _ => ?_
      replace ha13 : ((List.length (CandidateKeys (toDependencyS aFds) aWidth) : Nat) : Int) ≤ 4294967296 := ha13
      refine AW.wf_arr (id := 92) (ep := 1) (t := (.named 0)) (xs := ((toDependencyS aFds) : List Dep)) (by kernel_rfl) fun ha14 _ => ?_
      replace ha14 : ((List.length (toDependencyS aFds) : Nat) : Int) ≤ 4294967296 := ha14
      refine AW.wf_arr (id := 104) (ep := 1) (t := (.int .i64)) (xs := ((iCandidateKeys (toDependencyS aFds) aWidth) : List Int)) (by kernel_rfl) fun ha15 _ => ?_
      replace ha15 : ((List.length (iCandidateKeys (toDependencyS aFds) aWidth) : Nat) : Int) ≤ 4294967296 := ha15
      refine AW.reg hC  false [] [4] []
        ⟨[(4, .bool false)], []⟩
        [] (by kernel_rfl) ?_ ?_
      · exact trivial
      refine AW.ret ?_
      exact AW.retE (β := Bool) (fun v => [⟨.bool, v⟩]) (fun v => []) (v := false) e12 (by kernel_rfl) rfl rfl
    · intro h16
      have h16q : (eqIntS (iCandidateKeys (toDependencyS aFds) aWidth) (CandidateKeys (toDependencyS aFds) aWidth)) = true := (Go.Am.not_neg h16)
      have e17 := e4.trans (Go.Am.bif_f h16)
      refine AW.keep [0, 1, 6, 7, 8] [84, 92, 104] ⟨[(0, .data (.slice (.named 0)) (aFds : List Dep)), (1, .int .i64 aWidth), (6, .arr 84 1), (7, .arr 92 1), (8, .arr 104 1)], [(84, .arr 1 (.int .i64) ((CandidateKeys (toDependencyS aFds) aWidth) : List Int)), (92, .arr 1 (.named 0) ((toDependencyS aFds) : List Dep)), (104, .arr 1 (.int .i64) ((iCandidateKeys (toDependencyS aFds) aWidth) : List Int))]⟩ (by kernel_rfl) ?_
      refine AW.skip ?_
      refine AW.seq ?_
      refine AW.seq ?_
      refine AW.wf_arr (id := 84) (ep := 1) (t := (.int .i64)) (xs := ((CandidateKeys (toDependencyS aFds) aWidth) : List Int)) (by kernel_rfl) fun ha18 _ => ?_
      replace ha18 : ((List.length (CandidateKeys (toDependencyS aFds) aWidth) : Nat) : Int) ≤ 4294967296 := ha18
      refine AW.wf_arr (id := 92) (ep := 1) (t := (.named 0)) (xs := ((toDependencyS aFds) : List Dep)) (by kernel_rfl) fun ha19 _ => ?_
      replace ha19 : ((List.length (toDependencyS aFds) : Nat) : Int) ≤ 4294967296 := ha19
      refine AW.wf_arr (id := 104) (ep := 1) (t := (.int .i64)) (xs := ((iCandidateKeys (toDependencyS aFds) aWidth) : List Int)) (by kernel_rfl) fun ha20 _ => ?_
      replace ha20 : ((List.length (iCandidateKeys (toDependencyS aFds) aWidth) : Nat) : Int) ≤ 4294967296 := ha20
      refine AW.reg hC  false [] [0, 1, 6, 7, 8, 35] [84, 92, 104]
        ⟨[(0, .data (.slice (.named 0)) (aFds : List Dep)), (1, .int .i64 aWidth), (6, .arr 84 1), (7, .arr 92 1), (8, .arr 104 1), (35, .bool (!(eqDependencyS (toDependencyS aFds) (toDependencyS aFds))))], [(84, .arr 1 (.int .i64) ((CandidateKeys (toDependencyS aFds) aWidth) : List Int)), (92, .arr 1 (.named 0) ((toDependencyS aFds) : List Dep)), (104, .arr 1 (.int .i64) ((iCandidateKeys (toDependencyS aFds) aWidth) : List Int))]⟩
        [((List.length aFds : Int) ≤ 1048576), (True)] (by kernel_rfl) ?_ ?_
      · refine ⟨?_, ?_, trivial⟩
        · -- r10.0: (List.length aFds : Int) ≤ 1048576
          first | omega | exact szDep_le (by assumption)
        · trivial
      refine AW.cond (b := (!(eqDependencyS (toDependencyS aFds) (toDependencyS aFds)))) (by kernel_rfl) ?_ ?_
      · intro h21
        have h21q : (eqDependencyS (toDependencyS aFds) (toDependencyS aFds)) = false := (Go.Am.not_pos h21)
        have e22 := e17.trans (Go.Am.bif_t h21)
        refine AW.seq ?_
        refine AW.wf_arr (id := 84) (ep := 1) (t := (.int .i64)) (xs := ((CandidateKeys (toDependencyS aFds) aWidth) : List Int)) (by kernel_rfl) fun ha23 _ => ?_
        replace ha23 : ((List.length (CandidateKeys (toDependencyS aFds) aWidth) : Nat) : Int) ≤ 4294967296 := ha23
        refine AW.wf_arr (id := 92) (ep := 1) (t := (.named 0)) (xs := ((toDependencyS aFds) : List Dep)) (by kernel_rfl) fun ha24 _ => ?_
        replace ha24 : ((List.length (toDependencyS aFds) : Nat) : Int) ≤ 4294967296 := ha24
        refine AW.wf_arr (id := 104) (ep := 1) (t := (.int .i64)) (xs := ((iCandidateKeys (toDependencyS aFds) aWidth) : List Int)) (by kernel_rfl) fun ha25 _ => ?_
        replace ha25 : ((List.length (iCandidateKeys (toDependencyS aFds) aWidth) : Nat) : Int) ≤ 4294967296 := ha25
        refine AW.reg hC  false [] [4] []
          ⟨[(4, .bool false)], []⟩
          [] (by kernel_rfl) ?_ ?_
        · exact trivial
        refine AW.ret ?_
        exact AW.retE (β := Bool) (fun v => [⟨.bool, v⟩]) (fun v => []) (v := false) e22 (by kernel_rfl) rfl rfl
      · intro h26
        have h26q : (eqDependencyS (toDependencyS aFds) (toDependencyS aFds)) = true := (Go.Am.not_neg h26)
        have e27 := e17.trans (Go.Am.bif_f h26)
        refine AW.keep [0, 1, 6, 7, 8] [84, 92, 104] ⟨[(0, .data (.slice (.named 0)) (aFds : List Dep)), (1, .int .i64 aWidth), (6, .arr 84 1), (7, .arr 92 1), (8, .arr 104 1)], [(84, .arr 1 (.int .i64) ((CandidateKeys (toDependencyS aFds) aWidth) : List Int)), (92, .arr 1 (.named 0) ((toDependencyS aFds) : List Dep)), (104, .arr 1 (.int .i64) ((iCandidateKeys (toDependencyS aFds) aWidth) : List Int))]⟩ (by kernel_rfl) ?_
        refine AW.skip ?_
        refine AW.seq ?_
        refine AW.wf_arr (id := 84) (ep := 1) (t := (.int .i64)) (xs := ((CandidateKeys (toDependencyS aFds) aWidth) : List Int)) (by kernel_rfl) fun ha28 _ => ?_
        replace ha28 : ((List.length (CandidateKeys (toDependencyS aFds) aWidth) : Nat) : Int) ≤ 4294967296 := ha28
        refine AW.wf_arr (id := 92) (ep := 1) (t := (.named 0)) (xs := ((toDependencyS aFds) : List Dep)) (by kernel_rfl) fun ha29 _ => ?_
        replace ha29 : ((List.length (toDependencyS aFds) : Nat) : Int) ≤ 4294967296 := ha29
        refine AW.wf_arr (id := 104) (ep := 1) (t := (.int .i64)) (xs := ((iCandidateKeys (toDependencyS aFds) aWidth) : List Int)) (by kernel_rfl) fun ha30 _ => ?_
        replace ha30 : ((List.length (iCandidateKeys (toDependencyS aFds) aWidth) : Nat) : Int) ≤ 4294967296 := ha30
        refine AW.reg hC  false [] [0, 1, 6, 7, 8, 9] [84, 92, 104]
          ⟨[(0, .data (.slice (.named 0)) (aFds : List Dep)), (1, .int .i64 aWidth), (6, .arr 84 1), (7, .arr 92 1), (8, .arr 104 1), (9, .int .i64 1)], [(84, .arr 1 (.int .i64) ((CandidateKeys (toDependencyS aFds) aWidth) : List Int)), (92, .arr 1 (.named 0) ((toDependencyS aFds) : List Dep)), (104, .arr 1 (.int .i64) ((iCandidateKeys (toDependencyS aFds) aWidth) : List Int))]⟩
          [] (by kernel_rfl) ?_ ?_
        · exact trivial
        refine AW.seq ?_
        refine AW.wf_arr (id := 84) (ep := 1) (t := (.int .i64)) (xs := ((CandidateKeys (toDependencyS aFds) aWidth) : List Int)) (by kernel_rfl) fun ha31 _ => ?_
        replace ha31 : ((List.length (CandidateKeys (toDependencyS aFds) aWidth) : Nat) : Int) ≤ 4294967296 := ha31
        refine AW.wf_arr (id := 92) (ep := 1) (t := (.named 0)) (xs := ((toDependencyS aFds) : List Dep)) (by kernel_rfl) fun ha32 _ => ?_
        replace ha32 : ((List.length (toDependencyS aFds) : Nat) : Int) ≤ 4294967296 := ha32
        refine AW.wf_arr (id := 104) (ep := 1) (t := (.int .i64)) (xs := ((iCandidateKeys (toDependencyS aFds) aWidth) : List Int)) (by kernel_rfl) fun ha33 _ => ?_
        replace ha33 : ((List.length (iCandidateKeys (toDependencyS aFds) aWidth) : Nat) : Int) ≤ 4294967296 := ha33
        refine AW.regionO [0, 1, 2, 3] (by rfl) ?_
        refine AWO.run hC false [] [0, 1] [2, 3] [0, 1, 6, 8, 9, 36, 37] [84, 92, 104]
          ⟨[(0, .data (.slice (.named 0)) (aFds : List Dep)), (1, .int .i64 aWidth), (6, .arr 84 1), (8, .arr 104 1), (9, .int .i64 1), (36, .arr 92 1), (37, .int .i64 1)], [(84, .arr 1 (.int .i64) ((CandidateKeys (toDependencyS aFds) aWidth) : List Int)), (92, .arr 1 (.named 0) ((toDependencyS aFds) : List Dep)), (104, .arr 1 (.int .i64) ((iCandidateKeys (toDependencyS aFds) aWidth) : List Int))]⟩
          [] (by rfl) (by kernel_rfl) ?_ ?_
        · exact trivial
        refine AWO.call hC.ty (vs := [.arr 92 1, .int .i64 1]) (caps := []) (by rfl) rfl (.inl rfl) (by decide) (by kernel_rfl) (by kernel_rfl) Try.func27 (by kernel_rfl) rfl (by kernel_rfl) ?_
        intro o1
        refine AW.keep [0, 1, 1000, 1001, 1006, 1008, 1009] [84, 92, 104] ⟨[(0, .arr 92 1), (1, .int .i64 1), (1000, .data (.slice (.named 0)) (aFds : List Dep)), (1001, .int .i64 aWidth), (1006, .arr 84 1), (1008, .arr 104 1), (1009, .int .i64 1)], [(84, .arr 1 (.int .i64) ((CandidateKeys (toDependencyS aFds) aWidth) : List Int)), (92, .arr 1 (.named 0) ((toDependencyS aFds) : List Dep)), (104, .arr 1 (.int .i64) ((iCandidateKeys (toDependencyS aFds) aWidth) : List Int))]⟩ (by kernel_rfl) ?_
        refine AW.seq ?_
        refine AW.wf_arr (id := 84) (ep := 1) (t := (.int .i64)) (xs := ((CandidateKeys (toDependencyS aFds) aWidth) : List Int)) (by kernel_rfl) fun ha135 _ => ?_
        replace ha135 : ((List.length (CandidateKeys (toDependencyS aFds) aWidth) : Nat) : Int) ≤ 4294967296 := ha135
        refine AW.wf_arr (id := 92) (ep := 1) (t := (.named 0)) (xs := ((toDependencyS aFds) : List Dep)) (by kernel_rfl) fun ha136 _ => ?_
        replace ha136 : ((List.length (toDependencyS aFds) : Nat) : Int) ≤ 4294967296 := ha136
        refine AW.wf_arr (id := 104) (ep := 1) (t := (.int .i64)) (xs := ((iCandidateKeys (toDependencyS aFds) aWidth) : List Int)) (by kernel_rfl) fun ha137 _ => ?_
        replace ha137 : ((List.length (iCandidateKeys (toDependencyS aFds) aWidth) : Nat) : Int) ≤ 4294967296 := ha137
        refine AW.reg hC1  false [] [0, 1, 1000, 1001, 1006, 1008, 1009] [84, 92, 104]
          ⟨[(0, .arr 92 1), (1, .int .i64 1), (1000, .data (.slice (.named 0)) (aFds : List Dep)), (1001, .int .i64 aWidth), (1006, .arr 84 1), (1008, .arr 104 1), (1009, .int .i64 1)], [(84, .arr 1 (.int .i64) ((CandidateKeys (toDependencyS aFds) aWidth) : List Int)), (92, .arr 1 (.named 0) ((toDependencyS aFds) : List Dep)), (104, .arr 1 (.int .i64) ((iCandidateKeys (toDependencyS aFds) aWidth) : List Int))]⟩
          [] (by kernel_rfl) ?_ ?_
        · exact trivial
        refine AW.seq ?_
        refine AW.seq ?_
        refine AW.wf_arr (id := 84) (ep := 1) (t := (.int .i64)) (xs := ((CandidateKeys (toDependencyS aFds) aWidth) : List Int)) (by kernel_rfl) fun ha138 _ => ?_
        replace ha138 : ((List.length (CandidateKeys (toDependencyS aFds) aWidth) : Nat) : Int) ≤ 4294967296 := ha138
        refine AW.wf_arr (id := 92) (ep := 1) (t := (.named 0)) (xs := ((toDependencyS aFds) : List Dep)) (by kernel_rfl) fun ha139 _ => ?_
        replace ha139 : ((List.length (toDependencyS aFds) : Nat) : Int) ≤ 4294967296 := ha139
        refine AW.wf_arr (id := 104) (ep := 1) (t := (.int .i64)) (xs := ((iCandidateKeys (toDependencyS aFds) aWidth) : List Int)) (by kernel_rfl) fun ha140 _ => ?_
        replace ha140 : ((List.length (iCandidateKeys (toDependencyS aFds) aWidth) : Nat) : Int) ≤ 4294967296 := ha140
        refine AW.reg hC1  false [] [0, 1, 5, 1000, 1001, 1006, 1008, 1009] [84, 92, 104]
          ⟨[(0, .arr 92 1), (1, .int .i64 1), (5, .int .i64 0), (1000, .data (.slice (.named 0)) (aFds : List Dep)), (1001, .int .i64 aWidth), (1006, .arr 84 1), (1008, .arr 104 1), (1009, .int .i64 1)], [(84, .arr 1 (.int .i64) ((CandidateKeys (toDependencyS aFds) aWidth) : List Int)), (92, .arr 1 (.named 0) ((toDependencyS aFds) : List Dep)), (104, .arr 1 (.int .i64) ((iCandidateKeys (toDependencyS aFds) aWidth) : List Int))]⟩
          [] (by kernel_rfl) ?_ ?_
        · exact trivial
        refine AW.cutQ (α := Nat) (fun x => ⟨[(1, .int .i64 ((x : Nat) : Int)), (1000, .data (.slice (.named 0)) (aFds : List Dep)), (1001, .int .i64 aWidth), (1006, .arr 84 1), (1008, .arr 104 1), (1009, .int .i64 1)], [(84, .arr 1 (.int .i64) ((CandidateKeys (toDependencyS aFds) aWidth) : List Int)), (104, .arr 1 (.int .i64) ((iCandidateKeys (toDependencyS aFds) aWidth) : List Int))]⟩) (fun x => (1 ≤ x ∧ x ≤ 8589934600) ∧ (FnExactCandidateKeys_l0 ((List.length (toDependencyS aFds)) - 0 + 1) 1 0 (toDependencyS aFds)) = x) ?_ ?_
        · skip
          refine AW.block ?_
          refine AW.loop (α := Nat × Nat × (List Dep)) (fun x => ⟨[(0, .arr 92 1), (1, .int .i64 ((x.1 : Nat) : Int)), (5, .int .i64 ((x.2.1 : Nat) : Int)), (1000, .data (.slice (.named 0)) (aFds : List Dep)), (1001, .int .i64 aWidth), (1006, .arr 84 1), (1008, .arr 104 1), (1009, .int .i64 1)], [(84, .arr 1 (.int .i64) ((CandidateKeys (toDependencyS aFds) aWidth) : List Int)), (92, .arr 1 (.named 0) (x.2.2 : List Dep)), (104, .arr 1 (.int .i64) ((iCandidateKeys (toDependencyS aFds) aWidth) : List Int))]⟩) (fun x => ((1 ≤ x.1 ∧ x.1 ≤ 1 + 2 * x.2.1) ∧ (x.2.1 ≤ List.length x.2.2 ∧ List.length x.2.2 ≤ 4294967296)) ∧ ∃ k, (List.length x.2.2) - x.2.1 < k ∧ (FnExactCandidateKeys_l0 ((List.length (toDependencyS aFds)) - 0 + 1) 1 0 (toDependencyS aFds)) = FnExactCandidateKeys_l0 k x.1 x.2.1 x.2.2) (fun x => (List.length x.2.2) - x.2.1) (1, 0, (toDependencyS aFds)) (by kernel_rfl) ⟨?_, _, Nat.lt_succ_self _, rfl⟩ ?_
          · show (1 ≤ 1 ∧ 1 ≤ 1 + 2 * 0) ∧ (0 ≤ List.length (toDependencyS aFds) ∧ List.length (toDependencyS aFds) ≤ 4294967296)
            exact ⟨⟨by omega, by omega⟩, by omega, by omega⟩
          · intro x hR
            obtain ⟨cnd, i, a⟩ := x
            obtain ⟨hI0, k209, hk207, e208⟩ := hR
            replace hI0 : (1 ≤ cnd ∧ cnd ≤ 1 + 2 * i) ∧ (i ≤ List.length a ∧ List.length a ≤ 4294967296) := hI0
            replace hk207 : (List.length a) - i < k209 := hk207
            obtain ⟨k209q, rfl⟩ : ∃ k, k209 = k + 1 := ⟨k209 - 1, by omega⟩
            refine AW.seq ?_
            refine AW.seq ?_
            refine AW.wf_arr (id := 84) (ep := 1) (t := (.int .i64)) (xs := ((CandidateKeys (toDependencyS aFds) aWidth) : List Int)) (by kernel_rfl) fun ha210 _ => ?_
            replace ha210 : ((List.length (CandidateKeys (toDependencyS aFds) aWidth) : Nat) : Int) ≤ 4294967296 := ha210
            refine AW.wf_arr (id := 92) (ep := 1) (t := (.named 0)) (xs := (a : List Dep)) (by kernel_rfl) fun ha211 _ => ?_
            replace ha211 : ((List.length a : Nat) : Int) ≤ 4294967296 := ha211
            refine AW.wf_arr (id := 104) (ep := 1) (t := (.int .i64)) (xs := ((iCandidateKeys (toDependencyS aFds) aWidth) : List Int)) (by kernel_rfl) fun ha212 _ => ?_
            replace ha212 : ((List.length (iCandidateKeys (toDependencyS aFds) aWidth) : Nat) : Int) ≤ 4294967296 := ha212
            refine AW.reg hC1  false [] [0, 1, 5, 9, 1000, 1001, 1006, 1008, 1009] [84, 92, 104]
              ⟨[(0, .arr 92 1), (1, .int .i64 ((cnd : Nat) : Int)), (5, .int .i64 ((i : Nat) : Int)), (9, .bool (decide (((i : Nat) : Int) < ((List.length a : Nat) : Int)))), (1000, .data (.slice (.named 0)) (aFds : List Dep)), (1001, .int .i64 aWidth), (1006, .arr 84 1), (1008, .arr 104 1), (1009, .int .i64 1)], [(84, .arr 1 (.int .i64) ((CandidateKeys (toDependencyS aFds) aWidth) : List Int)), (92, .arr 1 (.named 0) (a : List Dep)), (104, .arr 1 (.int .i64) ((iCandidateKeys (toDependencyS aFds) aWidth) : List Int))]⟩
              [] (by kernel_rfl) ?_ ?_
            · exact trivial
            refine AW.cond (b := (decide (((i : Nat) : Int) < ((List.length a : Nat) : Int)))) (by kernel_rfl) ?_ ?_
            · intro h213
              have h213q : ((i : Nat) : Int) < ((List.length a : Nat) : Int) := (of_decide_eq_true h213)
              have e214 := e208.trans (Go.Am.bif_t h213)
              refine AW.keep [0, 1, 5, 1000, 1001, 1006, 1008, 1009] [84, 92, 104] ⟨[(0, .arr 92 1), (1, .int .i64 ((cnd : Nat) : Int)), (5, .int .i64 ((i : Nat) : Int)), (1000, .data (.slice (.named 0)) (aFds : List Dep)), (1001, .int .i64 aWidth), (1006, .arr 84 1), (1008, .arr 104 1), (1009, .int .i64 1)], [(84, .arr 1 (.int .i64) ((CandidateKeys (toDependencyS aFds) aWidth) : List Int)), (92, .arr 1 (.named 0) (a : List Dep)), (104, .arr 1 (.int .i64) ((iCandidateKeys (toDependencyS aFds) aWidth) : List Int))]⟩ (by kernel_rfl) ?_
              refine AW.skip ?_
              refine AW.seq ?_
              refine AW.block ?_
              refine AW.seq ?_
              refine AW.wf_arr (id := 84) (ep := 1) (t := (.int .i64)) (xs := ((CandidateKeys (toDependencyS aFds) aWidth) : List Int)) (by kernel_rfl) fun ha215 _ => ?_
              replace ha215 : ((List.length (CandidateKeys (toDependencyS aFds) aWidth) : Nat) : Int) ≤ 4294967296 := ha215
              refine AW.wf_arr (id := 92) (ep := 1) (t := (.named 0)) (xs := (a : List Dep)) (by kernel_rfl) fun ha216 _ => ?_
              replace ha216 : ((List.length a : Nat) : Int) ≤ 4294967296 := ha216
              refine AW.wf_arr (id := 104) (ep := 1) (t := (.int .i64)) (xs := ((iCandidateKeys (toDependencyS aFds) aWidth) : List Int)) (by kernel_rfl) fun ha217 _ => ?_
              replace ha217 : ((List.length (iCandidateKeys (toDependencyS aFds) aWidth) : Nat) : Int) ≤ 4294967296 := ha217
              refine AW.reg hC1  false [] [0, 1, 5, 1000, 1001, 1006, 1008, 1009] [84, 92, 104]
                ⟨[(0, .arr 92 1), (1, .int .i64 ((cnd : Nat) : Int)), (5, .int .i64 ((i : Nat) : Int)), (1000, .data (.slice (.named 0)) (aFds : List Dep)), (1001, .int .i64 aWidth), (1006, .arr 84 1), (1008, .arr 104 1), (1009, .int .i64 1)], [(84, .arr 1 (.int .i64) ((CandidateKeys (toDependencyS aFds) aWidth) : List Int)), (92, .arr 1 (.named 0) ((List.set a i (Dep.mk ((cnd : Nat) : Int) (Dep.To (List.getD a i Dep.zero)))) : List Dep)), (104, .arr 1 (.int .i64) ((iCandidateKeys (toDependencyS aFds) aWidth) : List Int))]⟩
                [(0 ≤ ((i : Nat) : Int) ∧ ((i : Nat) : Int) < ((List.length a : Nat) : Int))] (by kernel_rfl) ?_ ?_
              · refine ⟨?_, trivial⟩
                · -- f27.r4.0: 0 ≤ ((i : Nat) : Int) ∧ ((i : Nat) : Int) < ((List.length a : Nat) : Int)
                  first | omega | (dsimp only; omega) | (simp only [List.length_set, List.length_append, List.length_replicate, List.length_cons, List.length_nil, List.length_take, List.length_drop] at *; omega)
              refine AW.seq ?_
              refine AW.wf_arr (id := 84) (ep := 1) (t := (.int .i64)) (xs := ((CandidateKeys (toDependencyS aFds) aWidth) : List Int)) (by kernel_rfl) fun ha218 _ => ?_
              replace ha218 : ((List.length (CandidateKeys (toDependencyS aFds) aWidth) : Nat) : Int) ≤ 4294967296 := ha218
              refine AW.wf_arr (id := 92) (ep := 1) (t := (.named 0)) (xs := ((List.set a i (Dep.mk ((cnd : Nat) : Int) (Dep.To (List.getD a i Dep.zero)))) : List Dep)) (by kernel_rfl) fun ha219 _ => ?_
              replace ha219 : ((List.length (List.set a i (Dep.mk ((cnd : Nat) : Int) (Dep.To (List.getD a i Dep.zero)))) : Nat) : Int) ≤ 4294967296 := ha219
              refine AW.wf_arr (id := 104) (ep := 1) (t := (.int .i64)) (xs := ((iCandidateKeys (toDependencyS aFds) aWidth) : List Int)) (by kernel_rfl) fun ha220 _ => ?_
              replace ha220 : ((List.length (iCandidateKeys (toDependencyS aFds) aWidth) : Nat) : Int) ≤ 4294967296 := ha220
              refine AW.reg hC1  false [] [0, 1, 5, 1000, 1001, 1006, 1008, 1009] [84, 92, 104]
                ⟨[(0, .arr 92 1), (1, .int .i64 ((cnd + 1 : Nat) : Int)), (5, .int .i64 ((i : Nat) : Int)), (1000, .data (.slice (.named 0)) (aFds : List Dep)), (1001, .int .i64 aWidth), (1006, .arr 84 1), (1008, .arr 104 1), (1009, .int .i64 1)], [(84, .arr 1 (.int .i64) ((CandidateKeys (toDependencyS aFds) aWidth) : List Int)), (92, .arr 1 (.named 0) ((List.set a i (Dep.mk ((cnd : Nat) : Int) (Dep.To (List.getD a i Dep.zero)))) : List Dep)), (104, .arr 1 (.int .i64) ((iCandidateKeys (toDependencyS aFds) aWidth) : List Int))]⟩
                [(-9223372036854775808 ≤ ((cnd + 1 : Nat) : Int) ∧ ((cnd + 1 : Nat) : Int) ≤ 9223372036854775807)] (by kernel_rfl) ?_ ?_
              · refine ⟨?_, trivial⟩
                · -- f27.r5.0: -9223372036854775808 ≤ ((cnd + 1 : Nat) : Int) ∧ ((cnd + 1 : Nat) : Int) ≤ 9223372036854775807
                  first | omega | (dsimp only; omega) | (simp only [List.length_set, List.length_append, List.length_replicate, List.length_cons, List.length_nil, List.length_take, List.length_drop] at *; omega)
              refine AW.seq ?_
              refine AW.wf_arr (id := 84) (ep := 1) (t := (.int .i64)) (xs := ((CandidateKeys (toDependencyS aFds) aWidth) : List Int)) (by kernel_rfl) fun ha221 _ => ?_
              replace ha221 : ((List.length (CandidateKeys (toDependencyS aFds) aWidth) : Nat) : Int) ≤ 4294967296 := ha221
              refine AW.wf_arr (id := 92) (ep := 1) (t := (.named 0)) (xs := ((List.set a i (Dep.mk ((cnd : Nat) : Int) (Dep.To (List.getD a i Dep.zero)))) : List Dep)) (by kernel_rfl) fun ha222 _ => ?_
              replace ha222 : ((List.length (List.set a i (Dep.mk ((cnd : Nat) : Int) (Dep.To (List.getD a i Dep.zero)))) : Nat) : Int) ≤ 4294967296 := ha222
              refine AW.wf_arr (id := 104) (ep := 1) (t := (.int .i64)) (xs := ((iCandidateKeys (toDependencyS aFds) aWidth) : List Int)) (by kernel_rfl) fun ha223 _ => ?_
              replace ha223 : ((List.length (iCandidateKeys (toDependencyS aFds) aWidth) : Nat) : Int) ≤ 4294967296 := ha223
              refine AW.reg hC1  false [] [0, 1, 5, 1000, 1001, 1006, 1008, 1009] [84, 92, 104]
                ⟨[(0, .arr 92 1), (1, .int .i64 ((cnd + 1 : Nat) : Int)), (5, .int .i64 ((i : Nat) : Int)), (1000, .data (.slice (.named 0)) (aFds : List Dep)), (1001, .int .i64 aWidth), (1006, .arr 84 1), (1008, .arr 104 1), (1009, .int .i64 1)], [(84, .arr 1 (.int .i64) ((CandidateKeys (toDependencyS aFds) aWidth) : List Int)), (92, .arr 1 (.named 0) ((List.set (List.set a i (Dep.mk ((cnd : Nat) : Int) (Dep.To (List.getD a i Dep.zero)))) i (Dep.mk (Dep.From (List.getD (List.set a i (Dep.mk ((cnd : Nat) : Int) (Dep.To (List.getD a i Dep.zero)))) i Dep.zero)) ((cnd + 1 : Nat) : Int))) : List Dep)), (104, .arr 1 (.int .i64) ((iCandidateKeys (toDependencyS aFds) aWidth) : List Int))]⟩
                [(0 ≤ ((i : Nat) : Int) ∧ ((i : Nat) : Int) < ((List.length (List.set a i (Dep.mk ((cnd : Nat) : Int) (Dep.To (List.getD a i Dep.zero)))) : Nat) : Int))] (by kernel_rfl) ?_ ?_
              · refine ⟨?_, trivial⟩
                · -- f27.r6.0: 0 ≤ ((i : Nat) : Int) ∧ ((i : Nat) : Int) < ((List.length (List.set a i (Dep.mk ((cnd : Nat) : Int) (Dep.To (List.getD a i Dep.zero)))) : Nat) : Int)
                  first | omega | (dsimp only; omega) | (simp only [List.length_set, List.length_append, List.length_replicate, List.length_cons, List.length_nil, List.length_take, List.length_drop] at *; omega)
              refine AW.wf_arr (id := 84) (ep := 1) (t := (.int .i64)) (xs := ((CandidateKeys (toDependencyS aFds) aWidth) : List Int)) (by kernel_rfl) fun ha224 _ => ?_
              replace ha224 : ((List.length (CandidateKeys (toDependencyS aFds) aWidth) : Nat) : Int) ≤ 4294967296 := ha224
              refine AW.wf_arr (id := 92) (ep := 1) (t := (.named 0)) (xs := ((List.set (List.set a i (Dep.mk ((cnd : Nat) : Int) (Dep.To (List.getD a i Dep.zero)))) i (Dep.mk (Dep.From (List.getD (List.set a i (Dep.mk ((cnd : Nat) : Int) (Dep.To (List.getD a i Dep.zero)))) i Dep.zero)) ((cnd + 1 : Nat) : Int))) : List Dep)) (by kernel_rfl) fun ha225 _ => ?_
              replace ha225 : ((List.length (List.set (List.set a i (Dep.mk ((cnd : Nat) : Int) (Dep.To (List.getD a i Dep.zero)))) i (Dep.mk (Dep.From (List.getD (List.set a i (Dep.mk ((cnd : Nat) : Int) (Dep.To (List.getD a i Dep.zero)))) i Dep.zero)) ((cnd + 1 : Nat) : Int))) : Nat) : Int) ≤ 4294967296 := ha225
              refine AW.wf_arr (id := 104) (ep := 1) (t := (.int .i64)) (xs := ((iCandidateKeys (toDependencyS aFds) aWidth) : List Int)) (by kernel_rfl) fun ha226 _ => ?_
              replace ha226 : ((List.length (iCandidateKeys (toDependencyS aFds) aWidth) : Nat) : Int) ≤ 4294967296 := ha226
              refine AW.reg hC1  false [] [0, 1, 5, 1000, 1001, 1006, 1008, 1009] [84, 92, 104]
                ⟨[(0, .arr 92 1), (1, .int .i64 (((cnd + 1) + 1 : Nat) : Int)), (5, .int .i64 ((i : Nat) : Int)), (1000, .data (.slice (.named 0)) (aFds : List Dep)), (1001, .int .i64 aWidth), (1006, .arr 84 1), (1008, .arr 104 1), (1009, .int .i64 1)], [(84, .arr 1 (.int .i64) ((CandidateKeys (toDependencyS aFds) aWidth) : List Int)), (92, .arr 1 (.named 0) ((List.set (List.set a i (Dep.mk ((cnd : Nat) : Int) (Dep.To (List.getD a i Dep.zero)))) i (Dep.mk (Dep.From (List.getD (List.set a i (Dep.mk ((cnd : Nat) : Int) (Dep.To (List.getD a i Dep.zero)))) i Dep.zero)) ((cnd + 1 : Nat) : Int))) : List Dep)), (104, .arr 1 (.int .i64) ((iCandidateKeys (toDependencyS aFds) aWidth) : List Int))]⟩
                [(-9223372036854775808 ≤ (((cnd + 1) + 1 : Nat) : Int) ∧ (((cnd + 1) + 1 : Nat) : Int) ≤ 9223372036854775807)] (by kernel_rfl) ?_ ?_
              · refine ⟨?_, trivial⟩
                · -- f27.r7.0: -9223372036854775808 ≤ (((cnd + 1) + 1 : Nat) : Int) ∧ (((cnd + 1) + 1 : Nat) : Int) ≤ 9223372036854775807
                  first | omega | (dsimp only; omega) | (simp only [List.length_set, List.length_append, List.length_replicate, List.length_cons, List.length_nil, List.length_take, List.length_drop] at *; omega)
              refine AW.wf_arr (id := 84) (ep := 1) (t := (.int .i64)) (xs := ((CandidateKeys (toDependencyS aFds) aWidth) : List Int)) (by kernel_rfl) fun ha227 _ => ?_
              replace ha227 : ((List.length (CandidateKeys (toDependencyS aFds) aWidth) : Nat) : Int) ≤ 4294967296 := ha227
              refine AW.wf_arr (id := 92) (ep := 1) (t := (.named 0)) (xs := ((List.set (List.set a i (Dep.mk ((cnd : Nat) : Int) (Dep.To (List.getD a i Dep.zero)))) i (Dep.mk (Dep.From (List.getD (List.set a i (Dep.mk ((cnd : Nat) : Int) (Dep.To (List.getD a i Dep.zero)))) i Dep.zero)) ((cnd + 1 : Nat) : Int))) : List Dep)) (by kernel_rfl) fun ha228 _ => ?_
              replace ha228 : ((List.length (List.set (List.set a i (Dep.mk ((cnd : Nat) : Int) (Dep.To (List.getD a i Dep.zero)))) i (Dep.mk (Dep.From (List.getD (List.set a i (Dep.mk ((cnd : Nat) : Int) (Dep.To (List.getD a i Dep.zero)))) i Dep.zero)) ((cnd + 1 : Nat) : Int))) : Nat) : Int) ≤ 4294967296 := ha228
              refine AW.wf_arr (id := 104) (ep := 1) (t := (.int .i64)) (xs := ((iCandidateKeys (toDependencyS aFds) aWidth) : List Int)) (by kernel_rfl) fun ha229 _ => ?_
              replace ha229 : ((List.length (iCandidateKeys (toDependencyS aFds) aWidth) : Nat) : Int) ≤ 4294967296 := ha229
              refine AW.reg hC1  false [] [0, 1, 5, 1000, 1001, 1006, 1008, 1009] [84, 92, 104]
                ⟨[(0, .arr 92 1), (1, .int .i64 (((cnd + 1) + 1 : Nat) : Int)), (5, .int .i64 ((i + 1 : Nat) : Int)), (1000, .data (.slice (.named 0)) (aFds : List Dep)), (1001, .int .i64 aWidth), (1006, .arr 84 1), (1008, .arr 104 1), (1009, .int .i64 1)], [(84, .arr 1 (.int .i64) ((CandidateKeys (toDependencyS aFds) aWidth) : List Int)), (92, .arr 1 (.named 0) ((List.set (List.set a i (Dep.mk ((cnd : Nat) : Int) (Dep.To (List.getD a i Dep.zero)))) i (Dep.mk (Dep.From (List.getD (List.set a i (Dep.mk ((cnd : Nat) : Int) (Dep.To (List.getD a i Dep.zero)))) i Dep.zero)) ((cnd + 1 : Nat) : Int))) : List Dep)), (104, .arr 1 (.int .i64) ((iCandidateKeys (toDependencyS aFds) aWidth) : List Int))]⟩
                [(-9223372036854775808 ≤ ((i + 1 : Nat) : Int) ∧ ((i + 1 : Nat) : Int) ≤ 9223372036854775807)] (by kernel_rfl) ?_ ?_
              · refine ⟨?_, trivial⟩
                · -- f27.r3.0: -9223372036854775808 ≤ ((i + 1 : Nat) : Int) ∧ ((i + 1 : Nat) : Int) ≤ 9223372036854775807
                  first | omega | (dsimp only; omega) | (simp only [List.length_set, List.length_append, List.length_replicate, List.length_cons, List.length_nil, List.length_take, List.length_drop] at *; omega)
              refine AW.back (x := (cnd, i, a)) ((cnd + 1) + 1, i + 1, (List.set (List.set a i (Dep.mk ((cnd : Nat) : Int) (Dep.To (List.getD a i Dep.zero)))) i (Dep.mk (Dep.From (List.getD (List.set a i (Dep.mk ((cnd : Nat) : Int) (Dep.To (List.getD a i Dep.zero)))) i Dep.zero)) ((cnd + 1 : Nat) : Int)))) (by kernel_rfl) ⟨?_, k209q, ?_, e214⟩ ?_
              · show (1 ≤ ((cnd + 1) + 1) ∧ ((cnd + 1) + 1) ≤ 1 + 2 * (i + 1)) ∧ ((i + 1) ≤ List.length (List.set (List.set a i (Dep.mk ((cnd : Nat) : Int) (Dep.To (List.getD a i Dep.zero)))) i (Dep.mk (Dep.From (List.getD (List.set a i (Dep.mk ((cnd : Nat) : Int) (Dep.To (List.getD a i Dep.zero)))) i Dep.zero)) ((cnd + 1 : Nat) : Int))) ∧ List.length (List.set (List.set a i (Dep.mk ((cnd : Nat) : Int) (Dep.To (List.getD a i Dep.zero)))) i (Dep.mk (Dep.From (List.getD (List.set a i (Dep.mk ((cnd : Nat) : Int) (Dep.To (List.getD a i Dep.zero)))) i Dep.zero)) ((cnd + 1 : Nat) : Int))) ≤ 4294967296)
                simp only [List.length_set] at *
                omega
              · show (List.length (List.set (List.set a i (Dep.mk ((cnd : Nat) : Int) (Dep.To (List.getD a i Dep.zero)))) i (Dep.mk (Dep.From (List.getD (List.set a i (Dep.mk ((cnd : Nat) : Int) (Dep.To (List.getD a i Dep.zero)))) i Dep.zero)) ((cnd + 1 : Nat) : Int)))) - (i + 1) < k209q
                first | omega | (simp only [List.length_set, List.length_append, List.length_replicate, List.length_cons, List.length_nil, List.length_take, List.length_drop]; omega)
              · show (List.length (List.set (List.set a i (Dep.mk ((cnd : Nat) : Int) (Dep.To (List.getD a i Dep.zero)))) i (Dep.mk (Dep.From (List.getD (List.set a i (Dep.mk ((cnd : Nat) : Int) (Dep.To (List.getD a i Dep.zero)))) i Dep.zero)) ((cnd + 1 : Nat) : Int)))) - (i + 1) < (List.length a) - i
                first | omega | (simp only [List.length_set, List.length_append, List.length_replicate, List.length_cons, List.length_nil, List.length_take, List.length_drop]; omega)
            · intro h230
              have h230q : ¬ (((i : Nat) : Int) < ((List.length a : Nat) : Int)) := (of_decide_eq_false h230)
              have e231 := e208.trans (Go.Am.bif_f h230)
              refine AW.keep [1, 1000, 1001, 1006, 1008, 1009] [84, 104] ⟨[(1, .int .i64 ((cnd : Nat) : Int)), (1000, .data (.slice (.named 0)) (aFds : List Dep)), (1001, .int .i64 aWidth), (1006, .arr 84 1), (1008, .arr 104 1), (1009, .int .i64 1)], [(84, .arr 1 (.int .i64) ((CandidateKeys (toDependencyS aFds) aWidth) : List Int)), (104, .arr 1 (.int .i64) ((iCandidateKeys (toDependencyS aFds) aWidth) : List Int))]⟩ (by kernel_rfl) ?_
              refine AW.exit ?_
              refine AW.meet cnd (by kernel_rfl) ⟨?_, e231⟩
              show 1 ≤ cnd ∧ cnd ≤ 8589934600
              omega
        · intro cnd hR
          obtain ⟨hJ0, e232⟩ := hR
          replace hJ0 : 1 ≤ cnd ∧ cnd ≤ 8589934600 := hJ0
          have e233 := e27.trans (Go.Am.then_eq e232)
          refine AW.seq ?_
          refine AW.wf_arr (id := 84) (ep := 1) (t := (.int .i64)) (xs := ((CandidateKeys (toDependencyS aFds) aWidth) : List Int)) (by kernel_rfl) fun ha234 _ => ?_
          replace ha234 : ((List.length (CandidateKeys (toDependencyS aFds) aWidth) : Nat) : Int) ≤ 4294967296 := ha234
          refine AW.wf_arr (id := 104) (ep := 1) (t := (.int .i64)) (xs := ((iCandidateKeys (toDependencyS aFds) aWidth) : List Int)) (by kernel_rfl) fun ha235 _ => ?_
          replace ha235 : ((List.length (iCandidateKeys (toDependencyS aFds) aWidth) : Nat) : Int) ≤ 4294967296 := ha235
          refine AW.reg hC1  false [] [4, 1000, 1001, 1006, 1008, 1009] [84, 104]
            ⟨[(4, .int .i64 ((cnd : Nat) : Int)), (1000, .data (.slice (.named 0)) (aFds : List Dep)), (1001, .int .i64 aWidth), (1006, .arr 84 1), (1008, .arr 104 1), (1009, .int .i64 1)], [(84, .arr 1 (.int .i64) ((CandidateKeys (toDependencyS aFds) aWidth) : List Int)), (104, .arr 1 (.int .i64) ((iCandidateKeys (toDependencyS aFds) aWidth) : List Int))]⟩
            [] (by kernel_rfl) ?_ ?_
          · exact trivial
          refine AW.ret ?_
          refine ⟨[.int .i64 ((cnd : Nat) : Int)], by kernel_rfl, ?_⟩
          refine AWO.keep [0, 1, 6, 8, 9, 38] [84, 104] ⟨[(0, .data (.slice (.named 0)) (aFds : List Dep)), (1, .int .i64 aWidth), (6, .arr 84 1), (8, .arr 104 1), (9, .int .i64 1), (38, .int .i64 ((cnd : Nat) : Int))], [(84, .arr 1 (.int .i64) ((CandidateKeys (toDependencyS aFds) aWidth) : List Int)), (104, .arr 1 (.int .i64) ((iCandidateKeys (toDependencyS aFds) aWidth) : List Int))]⟩ (by kernel_rfl) ?_
          refine AWO.run hC false [] [3] [] [0, 1, 6, 8, 9] [84, 104]
            ⟨[(0, .data (.slice (.named 0)) (aFds : List Dep)), (1, .int .i64 aWidth), (6, .arr 84 1), (8, .arr 104 1), (9, .int .i64 ((cnd : Nat) : Int))], [(84, .arr 1 (.int .i64) ((CandidateKeys (toDependencyS aFds) aWidth) : List Int)), (104, .arr 1 (.int .i64) ((iCandidateKeys (toDependencyS aFds) aWidth) : List Int))]⟩
            [] (by rfl) (by kernel_rfl) ?_ ?_
          · exact trivial
          refine AWO.nil ?_
          refine AW.seq ?_
          refine AW.seq ?_
          refine AW.wf_arr (id := 84) (ep := 1) (t := (.int .i64)) (xs := ((CandidateKeys (toDependencyS aFds) aWidth) : List Int)) (by kernel_rfl) fun ha236 _ => ?_
          replace ha236 : ((List.length (CandidateKeys (toDependencyS aFds) aWidth) : Nat) : Int) ≤ 4294967296 := ha236
          refine AW.wf_arr (id := 104) (ep := 1) (t := (.int .i64)) (xs := ((iCandidateKeys (toDependencyS aFds) aWidth) : List Int)) (by kernel_rfl) fun ha237 _ => ?_
          replace ha237 : ((List.length (iCandidateKeys (toDependencyS aFds) aWidth) : Nat) : Int) ≤ 4294967296 := ha237
          refine AW.reg hC  false [] [0, 1, 6, 8, 46] [84, 104]
            ⟨[(0, .data (.slice (.named 0)) (aFds : List Dep)), (1, .int .i64 aWidth), (6, .arr 84 1), (8, .arr 104 1), (46, .bool (bif (decide (((cnd : Nat) : Int) < 0)) then true else (!(eqIntS (iCandidateKeys (toDependencyS aFds) aWidth) (CandidateKeys (toDependencyS aFds) aWidth)))))], [(84, .arr 1 (.int .i64) ((CandidateKeys (toDependencyS aFds) aWidth) : List Int)), (104, .arr 1 (.int .i64) ((iCandidateKeys (toDependencyS aFds) aWidth) : List Int))]⟩
            [(((decide (((cnd : Nat) : Int) < 0)) = false) → (((decide (((cnd : Nat) : Int) < 0)) = false))), (((decide (((cnd : Nat) : Int) < 0)) = false) → (((decide (((cnd : Nat) : Int) < 0)) = false))), (((decide (((cnd : Nat) : Int) < 0)) = false) → (True)), (((decide (((cnd : Nat) : Int) < 0)) = false) → (((decide (((cnd : Nat) : Int) < 0)) = false))), (((decide (((cnd : Nat) : Int) < 0)) = false) → (((decide (((cnd : Nat) : Int) < 0)) = false)))] (by kernel_rfl) ?_ ?_
          · refine ⟨?_, ?_, ?_, ?_, ?_, trivial⟩
            · intro g238
              have g238p0 : ¬ (((cnd : Nat) : Int) < 0) := (of_decide_eq_false g238)
              first | assumption | exact ⟨by assumption, by assumption⟩
            · intro g239
              have g239p0 : ¬ (((cnd : Nat) : Int) < 0) := (of_decide_eq_false g239)
              first | assumption | exact ⟨by assumption, by assumption⟩
            · intro g240
              have g240p0 : ¬ (((cnd : Nat) : Int) < 0) := (of_decide_eq_false g240)
              trivial
            · intro g241
              have g241p0 : ¬ (((cnd : Nat) : Int) < 0) := (of_decide_eq_false g241)
              first | assumption | exact ⟨by assumption, by assumption⟩
            · intro g242
              have g242p0 : ¬ (((cnd : Nat) : Int) < 0) := (of_decide_eq_false g242)
              first | assumption | exact ⟨by assumption, by assumption⟩
          refine AW.cond (b := (bif (decide (((cnd : Nat) : Int) < 0)) then true else (!(eqIntS (iCandidateKeys (toDependencyS aFds) aWidth) (CandidateKeys (toDependencyS aFds) aWidth))))) (by kernel_rfl) ?_ ?_
          · intro h243
            have h243q : (((cnd : Nat) : Int) < 0) ∨ ((eqIntS (iCandidateKeys (toDependencyS aFds) aWidth) (CandidateKeys (toDependencyS aFds) aWidth)) = false) := (Or.imp (fun h => (of_decide_eq_true h)) (fun h => (Go.Am.not_pos h)) (Go.Am.or_pos h243))
            have e244 := e233.trans (Go.Am.bif_t h243)
            refine AW.seq ?_
            refine AW.wf_arr (id := 84) (ep := 1) (t := (.int .i64)) (xs := ((CandidateKeys (toDependencyS aFds) aWidth) : List Int)) (by kernel_rfl) fun ha245 _ => ?_
            replace ha245 : ((List.length (CandidateKeys (toDependencyS aFds) aWidth) : Nat) : Int) ≤ 4294967296 := ha245
            refine AW.wf_arr (id := 104) (ep := 1) (t := (.int .i64)) (xs := ((iCandidateKeys (toDependencyS aFds) aWidth) : List Int)) (by kernel_rfl) fun ha246 _ => ?_
            replace ha246 : ((List.length (iCandidateKeys (toDependencyS aFds) aWidth) : Nat) : Int) ≤ 4294967296 := ha246
            refine AW.reg hC  false [] [4] []
              ⟨[(4, .bool false)], []⟩
              [] (by kernel_rfl) ?_ ?_
            · exact trivial
            refine AW.ret ?_
            exact AW.retE (β := Bool) (fun v => [⟨.bool, v⟩]) (fun v => []) (v := false) e244 (by kernel_rfl) rfl rfl
          · intro h247
            have h247q : (¬ (((cnd : Nat) : Int) < 0)) ∧ ((eqIntS (iCandidateKeys (toDependencyS aFds) aWidth) (CandidateKeys (toDependencyS aFds) aWidth)) = true) := (And.imp (fun h => (of_decide_eq_false h)) (fun h => (Go.Am.not_neg h)) (Go.Am.or_neg h247))
            have e248 := e233.trans (Go.Am.bif_f h247)
            refine AW.keep [0, 1, 6, 8] [84, 104] ⟨[(0, .data (.slice (.named 0)) (aFds : List Dep)), (1, .int .i64 aWidth), (6, .arr 84 1), (8, .arr 104 1)], [(84, .arr 1 (.int .i64) ((CandidateKeys (toDependencyS aFds) aWidth) : List Int)), (104, .arr 1 (.int .i64) ((iCandidateKeys (toDependencyS aFds) aWidth) : List Int))]⟩ (by kernel_rfl) ?_
            refine AW.skip ?_
            refine AW.seq ?_
            refine AW.wf_arr (id := 84) (ep := 1) (t := (.int .i64)) (xs := ((CandidateKeys (toDependencyS aFds) aWidth) : List Int)) (by kernel_rfl) fun ha249 _ => ?_
            replace ha249 : ((List.length (CandidateKeys (toDependencyS aFds) aWidth) : Nat) : Int) ≤ 4294967296 := ha249
            refine AW.wf_arr (id := 104) (ep := 1) (t := (.int .i64)) (xs := ((iCandidateKeys (toDependencyS aFds) aWidth) : List Int)) (by kernel_rfl) fun ha250 _ => ?_
            replace ha250 : ((List.length (iCandidateKeys (toDependencyS aFds) aWidth) : Nat) : Int) ≤ 4294967296 := ha250
            refine AW.reg hC  false [] [0, 1, 6, 8, 10] [84, 104]
              ⟨[(0, .data (.slice (.named 0)) (aFds : List Dep)), (1, .int .i64 aWidth), (6, .arr 84 1), (8, .arr 104 1), (10, .int .i64 1)], [(84, .arr 1 (.int .i64) ((CandidateKeys (toDependencyS aFds) aWidth) : List Int)), (104, .arr 1 (.int .i64) ((iCandidateKeys (toDependencyS aFds) aWidth) : List Int))]⟩
              [] (by kernel_rfl) ?_ ?_
            · exact trivial
            refine AW.seq ?_
            refine AW.wf_arr (id := 84) (ep := 1) (t := (.int .i64)) (xs := ((CandidateKeys (toDependencyS aFds) aWidth) : List Int)) (by kernel_rfl) fun ha251 _ => ?_
            replace ha251 : ((List.length (CandidateKeys (toDependencyS aFds) aWidth) : Nat) : Int) ≤ 4294967296 := ha251
            refine AW.wf_arr (id := 104) (ep := 1) (t := (.int .i64)) (xs := ((iCandidateKeys (toDependencyS aFds) aWidth) : List Int)) (by kernel_rfl) fun ha252 _ => ?_
            replace ha252 : ((List.length (iCandidateKeys (toDependencyS aFds) aWidth) : Nat) : Int) ≤ 4294967296 := ha252
            refine AW.regionO [0, 1, 2, 3] (by rfl) ?_
            refine AWO.run hC false [] [0, 1] [2, 3] [0, 1, 6, 8, 10, 47, 48] [84, 104]
              ⟨[(0, .data (.slice (.named 0)) (aFds : List Dep)), (1, .int .i64 aWidth), (6, .arr 84 1), (8, .arr 104 1), (10, .int .i64 1), (47, .arr 104 1), (48, .int .i64 1)], [(84, .arr 1 (.int .i64) ((CandidateKeys (toDependencyS aFds) aWidth) : List Int)), (104, .arr 1 (.int .i64) ((iCandidateKeys (toDependencyS aFds) aWidth) : List Int))]⟩
              [] (by rfl) (by kernel_rfl) ?_ ?_
            · exact trivial
            refine AWO.call hC.ty (vs := [.arr 104 1, .int .i64 1]) (caps := []) (by rfl) rfl (.inl rfl) (by decide) (by kernel_rfl) (by kernel_rfl) Try.func28 (by kernel_rfl) rfl (by kernel_rfl) ?_
            intro o1
            refine AW.keep [0, 1, 1000, 1001, 1006, 1008, 1010] [84, 104] ⟨[(0, .arr 104 1), (1, .int .i64 1), (1000, .data (.slice (.named 0)) (aFds : List Dep)), (1001, .int .i64 aWidth), (1006, .arr 84 1), (1008, .arr 104 1), (1010, .int .i64 1)], [(84, .arr 1 (.int .i64) ((CandidateKeys (toDependencyS aFds) aWidth) : List Int)), (104, .arr 1 (.int .i64) ((iCandidateKeys (toDependencyS aFds) aWidth) : List Int))]⟩ (by kernel_rfl) ?_
            refine AW.seq ?_
            refine AW.wf_arr (id := 84) (ep := 1) (t := (.int .i64)) (xs := ((CandidateKeys (toDependencyS aFds) aWidth) : List Int)) (by kernel_rfl) fun ha312 _ => ?_
            replace ha312 : ((List.length (CandidateKeys (toDependencyS aFds) aWidth) : Nat) : Int) ≤ 4294967296 := ha312
            refine AW.wf_arr (id := 104) (ep := 1) (t := (.int .i64)) (xs := ((iCandidateKeys (toDependencyS aFds) aWidth) : List Int)) (by kernel_rfl) fun ha313 _ => ?_
            replace ha313 : ((List.length (iCandidateKeys (toDependencyS aFds) aWidth) : Nat) : Int) ≤ 4294967296 := ha313
            refine AW.reg hC1  false [] [0, 1, 1000, 1001, 1006, 1008, 1010] [84, 104]
              ⟨[(0, .arr 104 1), (1, .int .i64 1), (1000, .data (.slice (.named 0)) (aFds : List Dep)), (1001, .int .i64 aWidth), (1006, .arr 84 1), (1008, .arr 104 1), (1010, .int .i64 1)], [(84, .arr 1 (.int .i64) ((CandidateKeys (toDependencyS aFds) aWidth) : List Int)), (104, .arr 1 (.int .i64) ((iCandidateKeys (toDependencyS aFds) aWidth) : List Int))]⟩
              [] (by kernel_rfl) ?_ ?_
            · exact trivial
            refine AW.seq ?_
            refine AW.seq ?_
            refine AW.wf_arr (id := 84) (ep := 1) (t := (.int .i64)) (xs := ((CandidateKeys (toDependencyS aFds) aWidth) : List Int)) (by kernel_rfl) fun ha314 _ => ?_
            replace ha314 : ((List.length (CandidateKeys (toDependencyS aFds) aWidth) : Nat) : Int) ≤ 4294967296 := ha314
            refine AW.wf_arr (id := 104) (ep := 1) (t := (.int .i64)) (xs := ((iCandidateKeys (toDependencyS aFds) aWidth) : List Int)) (by kernel_rfl) fun ha315 _ => ?_
            replace ha315 : ((List.length (iCandidateKeys (toDependencyS aFds) aWidth) : Nat) : Int) ≤ 4294967296 := ha315
            refine AW.reg hC1  false [] [0, 1, 5, 1000, 1001, 1006, 1008, 1010] [84, 104]
              ⟨[(0, .arr 104 1), (1, .int .i64 1), (5, .int .i64 0), (1000, .data (.slice (.named 0)) (aFds : List Dep)), (1001, .int .i64 aWidth), (1006, .arr 84 1), (1008, .arr 104 1), (1010, .int .i64 1)], [(84, .arr 1 (.int .i64) ((CandidateKeys (toDependencyS aFds) aWidth) : List Int)), (104, .arr 1 (.int .i64) ((iCandidateKeys (toDependencyS aFds) aWidth) : List Int))]⟩
              [] (by kernel_rfl) ?_ ?_
            · exact trivial
            refine AW.cutQ (α := Nat × (List Int)) (fun x => ⟨[(1, .int .i64 ((x.1 : Nat) : Int)), (1000, .data (.slice (.named 0)) (aFds : List Dep)), (1001, .int .i64 aWidth), (1006, .arr 84 1), (1008, .arr 104 1), (1010, .int .i64 1)], [(84, .arr 1 (.int .i64) ((CandidateKeys (toDependencyS aFds) aWidth) : List Int)), (104, .arr 1 (.int .i64) (x.2 : List Int))]⟩) (fun x => ((1 ≤ x.1 ∧ x.1 ≤ 8589934600) ∧ List.length x.2 ≤ 4294967296) ∧ (FnExactCandidateKeys_l1 ((List.length (iCandidateKeys (toDependencyS aFds) aWidth)) - 0 + 1) 1 0 (iCandidateKeys (toDependencyS aFds) aWidth)) = x) ?_ ?_
            · skip
              refine AW.block ?_
              refine AW.loop (α := Nat × Nat × (List Int)) (fun x => ⟨[(0, .arr 104 1), (1, .int .i64 ((x.1 : Nat) : Int)), (5, .int .i64 ((x.2.1 : Nat) : Int)), (1000, .data (.slice (.named 0)) (aFds : List Dep)), (1001, .int .i64 aWidth), (1006, .arr 84 1), (1008, .arr 104 1), (1010, .int .i64 1)], [(84, .arr 1 (.int .i64) ((CandidateKeys (toDependencyS aFds) aWidth) : List Int)), (104, .arr 1 (.int .i64) (x.2.2 : List Int))]⟩) (fun x => ((1 ≤ x.1 ∧ x.1 ≤ 1 + 1 * x.2.1) ∧ (x.2.1 ≤ List.length x.2.2 ∧ List.length x.2.2 ≤ 4294967296)) ∧ ∃ k, (List.length x.2.2) - x.2.1 < k ∧ (FnExactCandidateKeys_l1 ((List.length (iCandidateKeys (toDependencyS aFds) aWidth)) - 0 + 1) 1 0 (iCandidateKeys (toDependencyS aFds) aWidth)) = FnExactCandidateKeys_l1 k x.1 x.2.1 x.2.2) (fun x => (List.length x.2.2) - x.2.1) (1, 0, (iCandidateKeys (toDependencyS aFds) aWidth)) (by kernel_rfl) ⟨?_, _, Nat.lt_succ_self _, rfl⟩ ?_
              · show (1 ≤ 1 ∧ 1 ≤ 1 + 1 * 0) ∧ (0 ≤ List.length (iCandidateKeys (toDependencyS aFds) aWidth) ∧ List.length (iCandidateKeys (toDependencyS aFds) aWidth) ≤ 4294967296)
                exact ⟨⟨by omega, by omega⟩, by omega, by omega⟩
              · intro x hR
                obtain ⟨cni, i, a⟩ := x
                obtain ⟨hI1, k354, hk352, e353⟩ := hR
                replace hI1 : (1 ≤ cni ∧ cni ≤ 1 + 1 * i) ∧ (i ≤ List.length a ∧ List.length a ≤ 4294967296) := hI1
                replace hk352 : (List.length a) - i < k354 := hk352
                obtain ⟨k354q, rfl⟩ : ∃ k, k354 = k + 1 := ⟨k354 - 1, by omega⟩
                refine AW.seq ?_
                refine AW.seq ?_
                refine AW.wf_arr (id := 84) (ep := 1) (t := (.int .i64)) (xs := ((CandidateKeys (toDependencyS aFds) aWidth) : List Int)) (by kernel_rfl) fun ha355 _ => ?_
                replace ha355 : ((List.length (CandidateKeys (toDependencyS aFds) aWidth) : Nat) : Int) ≤ 4294967296 := ha355
                refine AW.wf_arr (id := 104) (ep := 1) (t := (.int .i64)) (xs := (a : List Int)) (by kernel_rfl) fun ha356 _ => ?_
                replace ha356 : ((List.length a : Nat) : Int) ≤ 4294967296 := ha356
                refine AW.reg hC1  false [] [0, 1, 5, 9, 1000, 1001, 1006, 1008, 1010] [84, 104]
                  ⟨[(0, .arr 104 1), (1, .int .i64 ((cni : Nat) : Int)), (5, .int .i64 ((i : Nat) : Int)), (9, .bool (decide (((i : Nat) : Int) < ((List.length a : Nat) : Int)))), (1000, .data (.slice (.named 0)) (aFds : List Dep)), (1001, .int .i64 aWidth), (1006, .arr 84 1), (1008, .arr 104 1), (1010, .int .i64 1)], [(84, .arr 1 (.int .i64) ((CandidateKeys (toDependencyS aFds) aWidth) : List Int)), (104, .arr 1 (.int .i64) (a : List Int))]⟩
                  [] (by kernel_rfl) ?_ ?_
                · exact trivial
                refine AW.cond (b := (decide (((i : Nat) : Int) < ((List.length a : Nat) : Int)))) (by kernel_rfl) ?_ ?_
                · intro h357
                  have h357q : ((i : Nat) : Int) < ((List.length a : Nat) : Int) := (of_decide_eq_true h357)
                  have e358 := e353.trans (Go.Am.bif_t h357)
                  refine AW.keep [0, 1, 5, 1000, 1001, 1006, 1008, 1010] [84, 104] ⟨[(0, .arr 104 1), (1, .int .i64 ((cni : Nat) : Int)), (5, .int .i64 ((i : Nat) : Int)), (1000, .data (.slice (.named 0)) (aFds : List Dep)), (1001, .int .i64 aWidth), (1006, .arr 84 1), (1008, .arr 104 1), (1010, .int .i64 1)], [(84, .arr 1 (.int .i64) ((CandidateKeys (toDependencyS aFds) aWidth) : List Int)), (104, .arr 1 (.int .i64) (a : List Int))]⟩ (by kernel_rfl) ?_
                  refine AW.skip ?_
                  refine AW.seq ?_
                  refine AW.block ?_
                  refine AW.seq ?_
                  refine AW.wf_arr (id := 84) (ep := 1) (t := (.int .i64)) (xs := ((CandidateKeys (toDependencyS aFds) aWidth) : List Int)) (by kernel_rfl) fun ha359 _ => ?_
                  replace ha359 : ((List.length (CandidateKeys (toDependencyS aFds) aWidth) : Nat) : Int) ≤ 4294967296 := ha359
                  refine AW.wf_arr (id := 104) (ep := 1) (t := (.int .i64)) (xs := (a : List Int)) (by kernel_rfl) fun ha360 _ => ?_
                  replace ha360 : ((List.length a : Nat) : Int) ≤ 4294967296 := ha360
                  refine AW.reg hC1  false [] [0, 1, 5, 1000, 1001, 1006, 1008, 1010] [84, 104]
                    ⟨[(0, .arr 104 1), (1, .int .i64 ((cni : Nat) : Int)), (5, .int .i64 ((i : Nat) : Int)), (1000, .data (.slice (.named 0)) (aFds : List Dep)), (1001, .int .i64 aWidth), (1006, .arr 84 1), (1008, .arr 104 1), (1010, .int .i64 1)], [(84, .arr 1 (.int .i64) ((CandidateKeys (toDependencyS aFds) aWidth) : List Int)), (104, .arr 1 (.int .i64) ((List.set a i ((cni : Nat) : Int)) : List Int))]⟩
                    [(0 ≤ ((i : Nat) : Int) ∧ ((i : Nat) : Int) < ((List.length a : Nat) : Int))] (by kernel_rfl) ?_ ?_
                  · refine ⟨?_, trivial⟩
                    · -- f28.r4.0: 0 ≤ ((i : Nat) : Int) ∧ ((i : Nat) : Int) < ((List.length a : Nat) : Int)
                      first | omega | (dsimp only; omega) | (simp only [List.length_set, List.length_append, List.length_replicate, List.length_cons, List.length_nil, List.length_take, List.length_drop] at *; omega)
                  refine AW.wf_arr (id := 84) (ep := 1) (t := (.int .i64)) (xs := ((CandidateKeys (toDependencyS aFds) aWidth) : List Int)) (by kernel_rfl) fun ha361 _ => ?_
                  replace ha361 : ((List.length (CandidateKeys (toDependencyS aFds) aWidth) : Nat) : Int) ≤ 4294967296 := ha361
                  refine AW.wf_arr (id := 104) (ep := 1) (t := (.int .i64)) (xs := ((List.set a i ((cni : Nat) : Int)) : List Int)) (by kernel_rfl) fun ha362 _ => ?_
                  replace ha362 : ((List.length (List.set a i ((cni : Nat) : Int)) : Nat) : Int) ≤ 4294967296 := ha362
                  refine AW.reg hC1  false [] [0, 1, 5, 1000, 1001, 1006, 1008, 1010] [84, 104]
                    ⟨[(0, .arr 104 1), (1, .int .i64 ((cni + 1 : Nat) : Int)), (5, .int .i64 ((i : Nat) : Int)), (1000, .data (.slice (.named 0)) (aFds : List Dep)), (1001, .int .i64 aWidth), (1006, .arr 84 1), (1008, .arr 104 1), (1010, .int .i64 1)], [(84, .arr 1 (.int .i64) ((CandidateKeys (toDependencyS aFds) aWidth) : List Int)), (104, .arr 1 (.int .i64) ((List.set a i ((cni : Nat) : Int)) : List Int))]⟩
                    [(-9223372036854775808 ≤ ((cni + 1 : Nat) : Int) ∧ ((cni + 1 : Nat) : Int) ≤ 9223372036854775807)] (by kernel_rfl) ?_ ?_
                  · refine ⟨?_, trivial⟩
                    · -- f28.r5.0: -9223372036854775808 ≤ ((cni + 1 : Nat) : Int) ∧ ((cni + 1 : Nat) : Int) ≤ 9223372036854775807
                      first | omega | (dsimp only; omega) | (simp only [List.length_set, List.length_append, List.length_replicate, List.length_cons, List.length_nil, List.length_take, List.length_drop] at *; omega)
                  refine AW.wf_arr (id := 84) (ep := 1) (t := (.int .i64)) (xs := ((CandidateKeys (toDependencyS aFds) aWidth) : List Int)) (by kernel_rfl) fun ha363 _ => ?_
                  replace ha363 : ((List.length (CandidateKeys (toDependencyS aFds) aWidth) : Nat) : Int) ≤ 4294967296 := ha363
                  refine AW.wf_arr (id := 104) (ep := 1) (t := (.int .i64)) (xs := ((List.set a i ((cni : Nat) : Int)) : List Int)) (by kernel_rfl) fun ha364 _ => ?_
                  replace ha364 : ((List.length (List.set a i ((cni : Nat) : Int)) : Nat) : Int) ≤ 4294967296 := ha364
                  refine AW.reg hC1  false [] [0, 1, 5, 1000, 1001, 1006, 1008, 1010] [84, 104]
                    ⟨[(0, .arr 104 1), (1, .int .i64 ((cni + 1 : Nat) : Int)), (5, .int .i64 ((i + 1 : Nat) : Int)), (1000, .data (.slice (.named 0)) (aFds : List Dep)), (1001, .int .i64 aWidth), (1006, .arr 84 1), (1008, .arr 104 1), (1010, .int .i64 1)], [(84, .arr 1 (.int .i64) ((CandidateKeys (toDependencyS aFds) aWidth) : List Int)), (104, .arr 1 (.int .i64) ((List.set a i ((cni : Nat) : Int)) : List Int))]⟩
                    [(-9223372036854775808 ≤ ((i + 1 : Nat) : Int) ∧ ((i + 1 : Nat) : Int) ≤ 9223372036854775807)] (by kernel_rfl) ?_ ?_
                  · refine ⟨?_, trivial⟩
                    · -- f28.r3.0: -9223372036854775808 ≤ ((i + 1 : Nat) : Int) ∧ ((i + 1 : Nat) : Int) ≤ 9223372036854775807
                      first | omega | (dsimp only; omega) | (simp only [List.length_set, List.length_append, List.length_replicate, List.length_cons, List.length_nil, List.length_take, List.length_drop] at *; omega)
                  refine AW.back (x := (cni, i, a)) (cni + 1, i + 1, (List.set a i ((cni : Nat) : Int))) (by kernel_rfl) ⟨?_, k354q, ?_, e358⟩ ?_
                  · show (1 ≤ (cni + 1) ∧ (cni + 1) ≤ 1 + 1 * (i + 1)) ∧ ((i + 1) ≤ List.length (List.set a i ((cni : Nat) : Int)) ∧ List.length (List.set a i ((cni : Nat) : Int)) ≤ 4294967296)
                    simp only [List.length_set] at *
                    omega
                  · show (List.length (List.set a i ((cni : Nat) : Int))) - (i + 1) < k354q
                    first | omega | (simp only [List.length_set, List.length_append, List.length_replicate, List.length_cons, List.length_nil, List.length_take, List.length_drop]; omega)
                  · show (List.length (List.set a i ((cni : Nat) : Int))) - (i + 1) < (List.length a) - i
                    first | omega | (simp only [List.length_set, List.length_append, List.length_replicate, List.length_cons, List.length_nil, List.length_take, List.length_drop]; omega)
                · intro h365
                  have h365q : ¬ (((i : Nat) : Int) < ((List.length a : Nat) : Int)) := (of_decide_eq_false h365)
                  have e366 := e353.trans (Go.Am.bif_f h365)
                  refine AW.keep [1, 1000, 1001, 1006, 1008, 1010] [84, 104] ⟨[(1, .int .i64 ((cni : Nat) : Int)), (1000, .data (.slice (.named 0)) (aFds : List Dep)), (1001, .int .i64 aWidth), (1006, .arr 84 1), (1008, .arr 104 1), (1010, .int .i64 1)], [(84, .arr 1 (.int .i64) ((CandidateKeys (toDependencyS aFds) aWidth) : List Int)), (104, .arr 1 (.int .i64) (a : List Int))]⟩ (by kernel_rfl) ?_
                  refine AW.exit ?_
                  refine AW.meet (cni, a) (by kernel_rfl) ⟨?_, e366⟩
                  show (1 ≤ cni ∧ cni ≤ 8589934600) ∧ List.length a ≤ 4294967296
                  omega
            · intro x hR
              obtain ⟨cni, a⟩ := x
              obtain ⟨hJ1, e367⟩ := hR
              replace hJ1 : (1 ≤ cni ∧ cni ≤ 8589934600) ∧ List.length a ≤ 4294967296 := hJ1
              have e368 := e248.trans (Go.Am.then_eq e367)
              refine AW.seq ?_
              refine AW.wf_arr (id := 84) (ep := 1) (t := (.int .i64)) (xs := ((CandidateKeys (toDependencyS aFds) aWidth) : List Int)) (by kernel_rfl) fun ha369 _ => ?_
              replace ha369 : ((List.length (CandidateKeys (toDependencyS aFds) aWidth) : Nat) : Int) ≤ 4294967296 := ha369
              refine AW.wf_arr (id := 104) (ep := 1) (t := (.int .i64)) (xs := (a : List Int)) (by kernel_rfl) fun ha370 _ => ?_
              replace ha370 : ((List.length a : Nat) : Int) ≤ 4294967296 := ha370
              refine AW.reg hC1  false [] [4, 1000, 1001, 1006, 1008, 1010] [84, 104]
                ⟨[(4, .int .i64 ((cni : Nat) : Int)), (1000, .data (.slice (.named 0)) (aFds : List Dep)), (1001, .int .i64 aWidth), (1006, .arr 84 1), (1008, .arr 104 1), (1010, .int .i64 1)], [(84, .arr 1 (.int .i64) ((CandidateKeys (toDependencyS aFds) aWidth) : List Int)), (104, .arr 1 (.int .i64) (a : List Int))]⟩
                [] (by kernel_rfl) ?_ ?_
              · exact trivial
              refine AW.ret ?_
              refine ⟨[.int .i64 ((cni : Nat) : Int)], by kernel_rfl, ?_⟩
              refine AWO.keep [0, 1, 6, 8, 10, 49] [84, 104] ⟨[(0, .data (.slice (.named 0)) (aFds : List Dep)), (1, .int .i64 aWidth), (6, .arr 84 1), (8, .arr 104 1), (10, .int .i64 1), (49, .int .i64 ((cni : Nat) : Int))], [(84, .arr 1 (.int .i64) ((CandidateKeys (toDependencyS aFds) aWidth) : List Int)), (104, .arr 1 (.int .i64) (a : List Int))]⟩ (by kernel_rfl) ?_
              refine AWO.run hC false [] [3] [] [0, 1, 6, 8, 10] [84, 104]
                ⟨[(0, .data (.slice (.named 0)) (aFds : List Dep)), (1, .int .i64 aWidth), (6, .arr 84 1), (8, .arr 104 1), (10, .int .i64 ((cni : Nat) : Int))], [(84, .arr 1 (.int .i64) ((CandidateKeys (toDependencyS aFds) aWidth) : List Int)), (104, .arr 1 (.int .i64) (a : List Int))]⟩
                [] (by rfl) (by kernel_rfl) ?_ ?_
              · exact trivial
              refine AWO.nil ?_
              refine AW.seq ?_
              refine AW.wf_arr (id := 84) (ep := 1) (t := (.int .i64)) (xs := ((CandidateKeys (toDependencyS aFds) aWidth) : List Int)) (by kernel_rfl) fun ha371 _ => ?_
              replace ha371 : ((List.length (CandidateKeys (toDependencyS aFds) aWidth) : Nat) : Int) ≤ 4294967296 := ha371
              refine AW.wf_arr (id := 104) (ep := 1) (t := (.int .i64)) (xs := (a : List Int)) (by kernel_rfl) fun ha372 _ => ?_
              replace ha372 : ((List.length a : Nat) : Int) ≤ 4294967296 := ha372
              refine AW.reg hC  false [] [0, 1, 6, 8, 10, 11] [84, 104]
                ⟨[(0, .data (.slice (.named 0)) (aFds : List Dep)), (1, .int .i64 aWidth), (6, .arr 84 1), (8, .arr 104 1), (10, .int .i64 ((cni : Nat) : Int)), (11, .int .i64 1)], [(84, .arr 1 (.int .i64) ((CandidateKeys (toDependencyS aFds) aWidth) : List Int)), (104, .arr 1 (.int .i64) (a : List Int))]⟩
                [] (by kernel_rfl) ?_ ?_
              · exact trivial
              refine AW.seq ?_
              refine AW.wf_arr (id := 84) (ep := 1) (t := (.int .i64)) (xs := ((CandidateKeys (toDependencyS aFds) aWidth) : List Int)) (by kernel_rfl) fun ha373 _ => ?_
              replace ha373 : ((List.length (CandidateKeys (toDependencyS aFds) aWidth) : Nat) : Int) ≤ 4294967296 := ha373
              refine AW.wf_arr (id := 104) (ep := 1) (t := (.int .i64)) (xs := (a : List Int)) (by kernel_rfl) fun ha374 _ => ?_
              replace ha374 : ((List.length a : Nat) : Int) ≤ 4294967296 := ha374
              refine AW.reg hC  false [] [0, 1, 6, 8, 10, 11] [84, 104]
                ⟨[(0, .data (.slice (.named 0)) (aFds : List Dep)), (1, .int .i64 aWidth), (6, .arr 84 1), (8, .arr 104 1), (10, .int .i64 ((cni : Nat) : Int)), (11, .int .i64 (heldIntS a 1))], [(84, .arr 1 (.int .i64) ((CandidateKeys (toDependencyS aFds) aWidth) : List Int)), (104, .arr 1 (.int .i64) (a : List Int))]⟩
                [((0 ≤ (1 : Int) ∧ (1 : Int) ≤ 1099511627776) ∧ (List.length a : Int) ≤ 4294967296)] (by kernel_rfl) ?_ ?_
              · refine ⟨?_, trivial⟩
                · -- r19.0: (0 ≤ (1 : Int) ∧ (1 : Int) ≤ 1099511627776) ∧ (List.length a : Int) ≤ 4294967296
                  first | omega | (dsimp only; omega) | (simp only [List.length_set, List.length_append, List.length_replicate, List.length_cons, List.length_nil, List.length_take, List.length_drop] at *; omega)
              refine AW.seq ?_
              refine AW.seq ?_
              refine AW.wf_arr (id := 84) (ep := 1) (t := (.int .i64)) (xs := ((CandidateKeys (toDependencyS aFds) aWidth) : List Int)) (by kernel_rfl) fun ha375 _ => ?_
              replace ha375 : ((List.length (CandidateKeys (toDependencyS aFds) aWidth) : Nat) : Int) ≤ 4294967296 := ha375
              refine AW.wf_arr (id := 104) (ep := 1) (t := (.int .i64)) (xs := (a : List Int)) (by kernel_rfl) fun ha376 _ => ?_
              replace ha376 : ((List.length a : Nat) : Int) ≤ 4294967296 := ha376
              refine AW.reg hC  false [] [0, 1, 6, 8, 10, 11, 54] [84, 104]
                ⟨[(0, .data (.slice (.named 0)) (aFds : List Dep)), (1, .int .i64 aWidth), (6, .arr 84 1), (8, .arr 104 1), (10, .int .i64 ((cni : Nat) : Int)), (11, .int .i64 (heldIntS a 1)), (54, .bool (decide ((heldIntS a 1) < 0)))], [(84, .arr 1 (.int .i64) ((CandidateKeys (toDependencyS aFds) aWidth) : List Int)), (104, .arr 1 (.int .i64) (a : List Int))]⟩
                [] (by kernel_rfl) ?_ ?_
              · exact trivial
              refine AW.cond (b := (decide ((heldIntS a 1) < 0))) (by kernel_rfl) ?_ ?_
              · intro h377
                have h377q : (heldIntS a 1) < 0 := (of_decide_eq_true h377)
                have e378 := e368.trans (Go.Am.bif_t h377)
                refine AW.seq ?_
                refine AW.wf_arr (id := 84) (ep := 1) (t := (.int .i64)) (xs := ((CandidateKeys (toDependencyS aFds) aWidth) : List Int)) (by kernel_rfl) fun ha379 _ => ?_
                replace ha379 : ((List.length (CandidateKeys (toDependencyS aFds) aWidth) : Nat) : Int) ≤ 4294967296 := ha379
                refine AW.wf_arr (id := 104) (ep := 1) (t := (.int .i64)) (xs := (a : List Int)) (by kernel_rfl) fun ha380 _ => ?_
                replace ha380 : ((List.length a : Nat) : Int) ≤ 4294967296 := ha380
                refine AW.reg hC  false [] [4] []
                  ⟨[(4, .bool false)], []⟩
                  [] (by kernel_rfl) ?_ ?_
                · exact trivial
                refine AW.ret ?_
                exact AW.retE (β := Bool) (fun v => [⟨.bool, v⟩]) (fun v => []) (v := false) e378 (by kernel_rfl) rfl rfl
              · intro h381
                have h381q : ¬ ((heldIntS a 1) < 0) := (of_decide_eq_false h381)
                have e382 := e368.trans (Go.Am.bif_f h381)
                refine AW.keep [0, 1, 6, 8, 10, 11] [84, 104] ⟨[(0, .data (.slice (.named 0)) (aFds : List Dep)), (1, .int .i64 aWidth), (6, .arr 84 1), (8, .arr 104 1), (10, .int .i64 ((cni : Nat) : Int)), (11, .int .i64 (heldIntS a 1))], [(84, .arr 1 (.int .i64) ((CandidateKeys (toDependencyS aFds) aWidth) : List Int)), (104, .arr 1 (.int .i64) (a : List Int))]⟩ (by kernel_rfl) ?_
                refine AW.skip ?_
                refine AW.seq ?_
                refine AW.seq ?_
                refine AW.wf_arr (id := 84) (ep := 1) (t := (.int .i64)) (xs := ((CandidateKeys (toDependencyS aFds) aWidth) : List Int)) (by kernel_rfl) fun ha383 _ => ?_
                replace ha383 : ((List.length (CandidateKeys (toDependencyS aFds) aWidth) : Nat) : Int) ≤ 4294967296 := ha383
                refine AW.wf_arr (id := 104) (ep := 1) (t := (.int .i64)) (xs := (a : List Int)) (by kernel_rfl) fun ha384 _ => ?_
                replace ha384 : ((List.length a : Nat) : Int) ≤ 4294967296 := ha384
                refine AW.reg hC  false [] [0, 1, 6, 8, 10, 57] [84, 104]
                  ⟨[(0, .data (.slice (.named 0)) (aFds : List Dep)), (1, .int .i64 aWidth), (6, .arr 84 1), (8, .arr 104 1), (10, .int .i64 ((cni : Nat) : Int)), (57, .bool ((heldIntS a 1) != ((cni : Nat) : Int)))], [(84, .arr 1 (.int .i64) ((CandidateKeys (toDependencyS aFds) aWidth) : List Int)), (104, .arr 1 (.int .i64) (a : List Int))]⟩
                  [] (by kernel_rfl) ?_ ?_
                · exact trivial
                refine AW.cond (b := ((heldIntS a 1) != ((cni : Nat) : Int))) (by kernel_rfl) ?_ ?_
                · intro h385
                  have h385q : (heldIntS a 1) ≠ ((cni : Nat) : Int) := (Go.Am.bne_pos h385)
                  have e386 := e382.trans (Go.Am.bif_t h385)
                  refine AW.seq ?_
                  refine AW.wf_arr (id := 84) (ep := 1) (t := (.int .i64)) (xs := ((CandidateKeys (toDependencyS aFds) aWidth) : List Int)) (by kernel_rfl) fun ha387 _ => ?_
                  replace ha387 : ((List.length (CandidateKeys (toDependencyS aFds) aWidth) : Nat) : Int) ≤ 4294967296 := ha387
                  refine AW.wf_arr (id := 104) (ep := 1) (t := (.int .i64)) (xs := (a : List Int)) (by kernel_rfl) fun ha388 _ => ?_
                  replace ha388 : ((List.length a : Nat) : Int) ≤ 4294967296 := ha388
                  refine AW.reg hC  false [] [4] []
                    ⟨[(4, .bool false)], []⟩
                    [] (by kernel_rfl) ?_ ?_
                  · exact trivial
                  refine AW.ret ?_
                  exact AW.retE (β := Bool) (fun v => [⟨.bool, v⟩]) (fun v => []) (v := false) e386 (by kernel_rfl) rfl rfl
                · intro h389
                  have h389q : (heldIntS a 1) = ((cni : Nat) : Int) := (Go.Am.bne_neg h389)
                  have e390 := e382.trans (Go.Am.bif_f h389)
                  refine AW.keep [0, 1, 6, 8, 10] [84, 104] ⟨[(0, .data (.slice (.named 0)) (aFds : List Dep)), (1, .int .i64 aWidth), (6, .arr 84 1), (8, .arr 104 1), (10, .int .i64 ((cni : Nat) : Int))], [(84, .arr 1 (.int .i64) ((CandidateKeys (toDependencyS aFds) aWidth) : List Int)), (104, .arr 1 (.int .i64) (a : List Int))]⟩ (by kernel_rfl) ?_
                  refine AW.skip ?_
                  refine AW.seq ?_
                  refine AW.wf_arr (id := 84) (ep := 1) (t := (.int .i64)) (xs := ((CandidateKeys (toDependencyS aFds) aWidth) : List Int)) (by kernel_rfl) fun ha391 _ => ?_
                  replace ha391 : ((List.length (CandidateKeys (toDependencyS aFds) aWidth) : Nat) : Int) ≤ 4294967296 := ha391
                  refine AW.wf_arr (id := 104) (ep := 1) (t := (.int .i64)) (xs := (a : List Int)) (by kernel_rfl) fun ha392 _ => ?_
                  replace ha392 : ((List.length a : Nat) : Int) ≤ 4294967296 := ha392
                  refine AW.reg hC  false [] [6, 8, 10, 12] [84, 104, 244]
                    ⟨[(6, .arr 84 1), (8, .arr 104 1), (10, .int .i64 ((cni : Nat) : Int)), (12, .arr 244 1)], [(84, .arr 1 (.int .i64) ((CandidateKeys (toDependencyS aFds) aWidth) : List Int)), (104, .arr 1 (.int .i64) (a : List Int)), (244, .arr 1 (.int .i64) ((iCandidateKeys (toDependencyS aFds) aWidth) : List Int))]⟩
                    [((List.length aFds : Int) ≤ 1048576), (True)] (by kernel_rfl) ?_ ?_
                  · refine ⟨?_, ?_, trivial⟩
                    · -- r24.0: (List.length aFds : Int) ≤ 1048576
                      first | omega | exact szDep_le (by assumption)
                    · trivial
                  refine AW.seq ?_
                  refine AW.seq ?_
                  refine AW.wf_arr (id := 84) (ep := 1) (t := (.int .i64)) (xs := ((CandidateKeys (toDependencyS aFds) aWidth) : List Int)) (by kernel_rfl) fun ha393 _ => ?_
                  replace ha393 : ((List.length (CandidateKeys (toDependencyS aFds) aWidth) : Nat) : Int) ≤ 4294967296 := ha393
                  refine AW.wf_arr (id := 104) (ep := 1) (t := (.int .i64)) (xs := (a : List Int)) (by kernel_rfl) fun ha394 _ => ?_
                  replace ha394 : ((List.length a : Nat) : Int) ≤ 4294967296 := ha394
                  refine AW.wf_arr (id := 244) (ep := 1) (t := (.int .i64)) (xs := ((iCandidateKeys (toDependencyS aFds) aWidth) : List Int)) (by kernel_rfl) fun ha395 _ => ?_
                  replace ha395 : ((List.length (iCandidateKeys (toDependencyS aFds) aWidth) : Nat) : Int) ≤ 4294967296 := ha395
                  refine AW.reg hC  false [] [8, 10, 65] [104]
                    ⟨[(8, .arr 104 1), (10, .int .i64 ((cni : Nat) : Int)), (65, .bool (!(eqIntS (iCandidateKeys (toDependencyS aFds) aWidth) (CandidateKeys (toDependencyS aFds) aWidth))))], [(104, .arr 1 (.int .i64) (a : List Int))]⟩
                    [(True)] (by kernel_rfl) ?_ ?_
                  · refine ⟨?_, trivial⟩
                    · trivial
                  refine AW.cond (b := (!(eqIntS (iCandidateKeys (toDependencyS aFds) aWidth) (CandidateKeys (toDependencyS aFds) aWidth)))) (by kernel_rfl) ?_ ?_
                  · intro h396
                    have h396q : (eqIntS (iCandidateKeys (toDependencyS aFds) aWidth) (CandidateKeys (toDependencyS aFds) aWidth)) = false := (Go.Am.not_pos h396)
                    have e397 := e390.trans (Go.Am.bif_t h396)
                    refine AW.seq ?_
                    refine AW.wf_arr (id := 104) (ep := 1) (t := (.int .i64)) (xs := (a : List Int)) (by kernel_rfl) fun ha398 _ => ?_
                    replace ha398 : ((List.length a : Nat) : Int) ≤ 4294967296 := ha398
                    refine AW.reg hC  false [] [4] []
                      ⟨[(4, .bool false)], []⟩
                      [] (by kernel_rfl) ?_ ?_
                    · exact trivial
                    refine AW.ret ?_
                    exact AW.retE (β := Bool) (fun v => [⟨.bool, v⟩]) (fun v => []) (v := false) e397 (by kernel_rfl) rfl rfl
                  · intro h399
                    have h399q : (eqIntS (iCandidateKeys (toDependencyS aFds) aWidth) (CandidateKeys (toDependencyS aFds) aWidth)) = true := (Go.Am.not_neg h399)
                    have e400 := e390.trans (Go.Am.bif_f h399)
                    refine AW.keep [8, 10] [104] ⟨[(8, .arr 104 1), (10, .int .i64 ((cni : Nat) : Int))], [(104, .arr 1 (.int .i64) (a : List Int))]⟩ (by kernel_rfl) ?_
                    refine AW.skip ?_
                    refine AW.seq ?_
                    refine AW.wf_arr (id := 104) (ep := 1) (t := (.int .i64)) (xs := (a : List Int)) (by kernel_rfl) fun ha401 _ => ?_
                    replace ha401 : ((List.length a : Nat) : Int) ≤ 4294967296 := ha401
                    refine AW.reg hC  false [] [8, 10, 11] [104]
                      ⟨[(8, .arr 104 1), (10, .int .i64 ((cni : Nat) : Int)), (11, .int .i64 1)], [(104, .arr 1 (.int .i64) (a : List Int))]⟩
                      [] (by kernel_rfl) ?_ ?_
                    · exact trivial
                    refine AW.seq ?_
                    refine AW.wf_arr (id := 104) (ep := 1) (t := (.int .i64)) (xs := (a : List Int)) (by kernel_rfl) fun ha402 _ => ?_
                    replace ha402 : ((List.length a : Nat) : Int) ≤ 4294967296 := ha402
                    refine AW.reg hC  false [] [10, 11] []
                      ⟨[(10, .int .i64 ((cni : Nat) : Int)), (11, .int .i64 (heldIntS a 1))], []⟩
                      [((0 ≤ (1 : Int) ∧ (1 : Int) ≤ 1099511627776) ∧ (List.length a : Int) ≤ 4294967296)] (by kernel_rfl) ?_ ?_
                    · refine ⟨?_, trivial⟩
                      · -- r28.0: (0 ≤ (1 : Int) ∧ (1 : Int) ≤ 1099511627776) ∧ (List.length a : Int) ≤ 4294967296
                        first | omega | (dsimp only; omega) | (simp only [List.length_set, List.length_append, List.length_replicate, List.length_cons, List.length_nil, List.length_take, List.length_drop] at *; omega)
                    refine AW.seq ?_
                    refine AW.seq ?_
                    refine AW.reg hC  false [] [10, 11, 70] []
                      ⟨[(10, .int .i64 ((cni : Nat) : Int)), (11, .int .i64 (heldIntS a 1)), (70, .bool (decide ((heldIntS a 1) < 0)))], []⟩
                      [] (by kernel_rfl) ?_ ?_
                    · exact trivial
                    refine AW.cond (b := (decide ((heldIntS a 1) < 0))) (by kernel_rfl) ?_ ?_
                    · intro h403
                      have h403q : (heldIntS a 1) < 0 := (of_decide_eq_true h403)
                      have e404 := e400.trans (Go.Am.bif_t h403)
                      refine AW.seq ?_
                      refine AW.reg hC  false [] [4] []
                        ⟨[(4, .bool false)], []⟩
                        [] (by kernel_rfl) ?_ ?_
                      · exact trivial
                      refine AW.ret ?_
                      exact AW.retE (β := Bool) (fun v => [⟨.bool, v⟩]) (fun v => []) (v := false) e404 (by kernel_rfl) rfl rfl
                    · intro h405
                      have h405q : ¬ ((heldIntS a 1) < 0) := (of_decide_eq_false h405)
                      have e406 := e400.trans (Go.Am.bif_f h405)
                      refine AW.keep [10, 11] [] ⟨[(10, .int .i64 ((cni : Nat) : Int)), (11, .int .i64 (heldIntS a 1))], []⟩ (by kernel_rfl) ?_
                      refine AW.skip ?_
                      refine AW.seq ?_
                      refine AW.seq ?_
                      refine AW.reg hC  false [] [73] []
                        ⟨[(73, .bool ((heldIntS a 1) != ((cni : Nat) : Int)))], []⟩
                        [] (by kernel_rfl) ?_ ?_
                      · exact trivial
                      refine AW.cond (b := ((heldIntS a 1) != ((cni : Nat) : Int))) (by kernel_rfl) ?_ ?_
                      · intro h407
                        have h407q : (heldIntS a 1) ≠ ((cni : Nat) : Int) := (Go.Am.bne_pos h407)
                        have e408 := e406.trans (Go.Am.bif_t h407)
                        refine AW.seq ?_
                        refine AW.reg hC  false [] [4] []
                          ⟨[(4, .bool false)], []⟩
                          [] (by kernel_rfl) ?_ ?_
                        · exact trivial
                        refine AW.ret ?_
                        exact AW.retE (β := Bool) (fun v => [⟨.bool, v⟩]) (fun v => []) (v := false) e408 (by kernel_rfl) rfl rfl
                      · intro h409
                        have h409q : (heldIntS a 1) = ((cni : Nat) : Int) := (Go.Am.bne_neg h409)
                        have e410 := e406.trans (Go.Am.bif_f h409)
                        refine AW.keep [] [] ⟨[], []⟩ (by kernel_rfl) ?_
                        refine AW.skip ?_
                        refine AW.seq ?_
                        refine AW.reg hC  false [] [4] []
                          ⟨[(4, .bool true)], []⟩
                          [] (by kernel_rfl) ?_ ?_
                        · exact trivial
                        refine AW.ret ?_
                        exact AW.retE (β := Bool) (fun v => [⟨.bool, v⟩]) (fun v => []) (v := true) e410 (by kernel_rfl) rfl rfl

end Go.Proofs.Ytmijmkbnmcmgcaa
