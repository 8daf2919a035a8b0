/-
  A part of the proof of this claim (Ah5): what functions of the program compute, and plain facts of that. No conditions.
-/
import Derived.Test.YtgbmdnnojgbagaaAh4
set_option linter.all false
namespace Go.Proofs.Ytgbmdnnojgbagaa
open Go Go.Am
noncomputable section

def szValueS (a : List Val) (left : Int) : Int := (bif (decide ((left - ((List.length a : Nat) : Int)) < 0)) then (-1) else (left - ((List.length a : Nat) : Int)))

def szValueS_sp : FnSpec := mkSpec [.val (.slice (.named 1)), .val (.int .i64)] [.val (.int .i64)] (fun (a : List Val) (left : Int) => 0 ≤ left) (fun (a : List Val) (left : Int) => [⟨(.int .i64), (szValueS a left)⟩])

theorem szValueS_ok : FnOK Try.prog 27 szValueS_sp := by
  have hC : CtxOK Try.prog (mkCtx tyL []) := CtxOK.nil tyOK
  refine FnOK.of_body Try.func27 (by kernel_rfl) rfl (C := (mkCtx tyL [])) hC.ty (by kernel_rfl) ?_
  intro (a : List Val) (left : Int) hwf hpre E
  have hpre : 0 ≤ left := hpre
  have hw_a : Wf ⟨(.slice (.named 1)), (a : List Val)⟩ := hwf _ (List.Mem.head _)
  have hl_a : ((List.length a : Nat) : Int) ≤ 9223372036854775807 := hw_a.len
  have hw_left : Wf ⟨(.int .i64), (left : Int)⟩ := hwf _ (List.Mem.tail _ (List.Mem.head _))
  have hr_left : -9223372036854775808 ≤ left ∧ left ≤ 9223372036854775807 := hw_left.int_inv
  have e0 : szValueS a left = szValueS a left := rfl
  refine AW.seq ?_
  refine AW.reg hC  false [] [0, 1] []
    ⟨[(0, .data (.slice (.named 1)) (a : List Val)), (1, .int .i64 left)], []⟩
    [] (by kernel_rfl) ?_ ?_
  · exact trivial
  refine AW.seq ?_
  refine AW.reg hC  false [] [1] []
    ⟨[(1, .int .i64 (left - ((List.length a : Nat) : Int)))], []⟩
    [(-9223372036854775808 ≤ (left - ((List.length a : Nat) : Int)) ∧ (left - ((List.length a : Nat) : Int)) ≤ 9223372036854775807)] (by kernel_rfl) ?_ ?_
  · refine ⟨?_, trivial⟩
    ·
      first | omega | (dsimp only; omega) | (simp only [lens] at *; omega)
  refine AW.seq ?_
  refine AW.seq ?_
  refine AW.reg hC  false [] [1, 10] []
    ⟨[(1, .int .i64 (left - ((List.length a : Nat) : Int))), (10, .bool (decide ((left - ((List.length a : Nat) : Int)) < 0)))], []⟩
    [] (by kernel_rfl) ?_ ?_
  · exact trivial
  refine AW.cond (b := (decide ((left - ((List.length a : Nat) : Int)) < 0))) (by kernel_rfl) ?_ ?_
  · intro h1
    have h1q : (left - ((List.length a : Nat) : Int)) < 0 := (of_decide_eq_true h1)
    have e2 := e0.trans (Go.Am.bif_t h1)
    refine AW.seq ?_
    refine AW.reg hC  false [] [4] []
      ⟨[(4, .int .i64 (-1))], []⟩
      [] (by kernel_rfl) ?_ ?_
    · exact trivial
    refine AW.ret ?_
    exact AW.retE (β := Int) (fun v => [⟨(.int .i64), v⟩]) (fun v => []) (v := (-1)) e2 (by kernel_rfl) rfl rfl
  · intro h3
    have h3q : ¬ ((left - ((List.length a : Nat) : Int)) < 0) := (of_decide_eq_false h3)
    have e4 := e0.trans (Go.Am.bif_f h3)
    refine AW.keep [1] [] ⟨[(1, .int .i64 (left - ((List.length a : Nat) : Int)))], []⟩ (by kernel_rfl) ?_
    refine AW.skip ?_
    refine AW.seq ?_
    refine AW.reg hC  false [] [4] []
      ⟨[(4, .int .i64 (left - ((List.length a : Nat) : Int)))], []⟩
      [] (by kernel_rfl) ?_ ?_
    · exact trivial
    refine AW.ret ?_
    exact AW.retE (β := Int) (fun v => [⟨(.int .i64), v⟩]) (fun v => []) (v := (left - ((List.length a : Nat) : Int))) e4 (by kernel_rfl) rfl rfl

theorem szValueS_ge {a : List Val} {l : Int} (hl : 0 ≤ l) : -1 ≤ szValueS a l ∧ szValueS a l ≤ l := by
  unfold szValueS
  by_cases e : l - ((List.length a : Nat) : Int) < 0
  · rw [decide_eq_true e, cond_true]
    omega
  · rw [decide_eq_false e, cond_false]
    omega

def szValueSS_l0 (a : List (List Val)) : Nat → Int → Nat → Int ⊕ Int
  | 0, left1, i => .inl left1
  | k + 1, left1, i => (bif (decide (((i : Nat) : Int) < ((List.length a : Nat) : Int))) then (bif (decide ((szValueS (List.getD a i []) left1) < 0)) then (.inr (-1)) else (szValueSS_l0 a k (szValueS (List.getD a i []) left1) (i + 1))) else (.inl left1))

def szValueSS (a : List (List Val)) (left : Int) : Int := (bif (decide ((left - ((List.length a : Nat) : Int)) < 0)) then (-1) else (Sum.elim (fun z => (fun (left1 : Int) => left1) z) (fun r => r) (szValueSS_l0 a ((List.length a) - 0 + 1) (left - ((List.length a : Nat) : Int)) 0)))

def szValueSS_sp : FnSpec := mkSpec [.val (.slice (.slice (.named 1))), .val (.int .i64)] [.val (.int .i64)] (fun (a : List (List Val)) (left : Int) => 0 ≤ left) (fun (a : List (List Val)) (left : Int) => [⟨(.int .i64), (szValueSS a left)⟩])

theorem szValueSS_ok : FnOK Try.prog 13 szValueSS_sp := by
  have hC : CtxOK Try.prog (mkCtx tyL [(27, szValueS_sp)]) := CtxOK.cons szValueS_ok (CtxOK.nil tyOK)
  refine FnOK.of_body Try.func13 (by kernel_rfl) rfl (C := (mkCtx tyL [(27, szValueS_sp)])) hC.ty (by kernel_rfl) ?_
  intro (a : List (List Val)) (left : Int) hwf hpre E
  have hpre : 0 ≤ left := hpre
  have hw_a : Wf ⟨(.slice (.slice (.named 1))), (a : List (List Val))⟩ := hwf _ (List.Mem.head _)
  have hl_a : ((List.length a : Nat) : Int) ≤ 9223372036854775807 := hw_a.len
  have hw_left : Wf ⟨(.int .i64), (left : Int)⟩ := hwf _ (List.Mem.tail _ (List.Mem.head _))
  have hr_left : -9223372036854775808 ≤ left ∧ left ≤ 9223372036854775807 := hw_left.int_inv
  have e0 : szValueSS a left = szValueSS a left := rfl
  refine AW.seq ?_
  refine AW.reg hC  false [] [0, 1] []
    ⟨[(0, .data (.slice (.slice (.named 1))) (a : List (List Val))), (1, .int .i64 left)], []⟩
    [] (by kernel_rfl) ?_ ?_
  · exact trivial
  refine AW.seq ?_
  refine AW.reg hC  false [] [0, 1] []
    ⟨[(0, .data (.slice (.slice (.named 1))) (a : List (List Val))), (1, .int .i64 (left - ((List.length a : Nat) : Int)))], []⟩
    [(-9223372036854775808 ≤ (left - ((List.length a : Nat) : Int)) ∧ (left - ((List.length a : Nat) : Int)) ≤ 9223372036854775807)] (by kernel_rfl) ?_ ?_
  · refine ⟨?_, trivial⟩
    ·
      first | omega | (dsimp only; omega) | (simp only [lens] at *; omega)
  refine AW.seq ?_
  refine AW.seq ?_
  refine AW.reg hC  false [] [0, 1, 11] []
    ⟨[(0, .data (.slice (.slice (.named 1))) (a : List (List Val))), (1, .int .i64 (left - ((List.length a : Nat) : Int))), (11, .bool (decide ((left - ((List.length a : Nat) : Int)) < 0)))], []⟩
    [] (by kernel_rfl) ?_ ?_
  · exact trivial
  refine AW.cond (b := (decide ((left - ((List.length a : Nat) : Int)) < 0))) (by kernel_rfl) ?_ ?_
  · intro h1
    have h1q : (left - ((List.length a : Nat) : Int)) < 0 := (of_decide_eq_true h1)
    have e2 := e0.trans (Go.Am.bif_t h1)
    refine AW.seq ?_
    refine AW.reg hC  false [] [4] []
      ⟨[(4, .int .i64 (-1))], []⟩
      [] (by kernel_rfl) ?_ ?_
    · exact trivial
    refine AW.ret ?_
    exact AW.retE (β := Int) (fun v => [⟨(.int .i64), v⟩]) (fun v => []) (v := (-1)) e2 (by kernel_rfl) rfl rfl
  · intro h3
    have h3q : ¬ ((left - ((List.length a : Nat) : Int)) < 0) := (of_decide_eq_false h3)
    have e4 := e0.trans (Go.Am.bif_f h3)
    refine AW.keep [0, 1] [] ⟨[(0, .data (.slice (.slice (.named 1))) (a : List (List Val))), (1, .int .i64 (left - ((List.length a : Nat) : Int)))], []⟩ (by kernel_rfl) ?_
    refine AW.skip ?_
    refine AW.seq ?_
    refine AW.seq ?_
    refine AW.reg hC  false [] [0, 1, 5] []
      ⟨[(0, .data (.slice (.slice (.named 1))) (a : List (List Val))), (1, .int .i64 (left - ((List.length a : Nat) : Int))), (5, .int .i64 0)], []⟩
      [] (by kernel_rfl) ?_ ?_
    · exact trivial
    refine AW.cutQ (α := Int) (fun x => ⟨[(1, .int .i64 x)], []⟩) (fun x => (0 ≤ x) ∧ (szValueSS_l0 a ((List.length a) - 0 + 1) (left - ((List.length a : Nat) : Int)) 0) = (.inl x)) ?_ ?_
    · skip
      refine AW.block ?_
      refine AW.loop (α := Int × Nat) (fun x => ⟨[(0, .data (.slice (.slice (.named 1))) (a : List (List Val))), (1, .int .i64 x.1), (5, .int .i64 ((x.2 : Nat) : Int))], []⟩) (fun x => (0 ≤ x.1) ∧ ∃ k, (List.length a) - x.2 < k ∧ (szValueSS_l0 a ((List.length a) - 0 + 1) (left - ((List.length a : Nat) : Int)) 0) = szValueSS_l0 a k x.1 x.2) (fun x => (List.length a) - x.2) ((left - ((List.length a : Nat) : Int)), 0) (by kernel_rfl) ⟨?_, _, Nat.lt_succ_self _, rfl⟩ ?_
      · show 0 ≤ (left - ((List.length a : Nat) : Int))
        first | exact trivial | (refine ⟨?_, ?_⟩ <;> first | omega | simp) | omega | simp
      · intro x hR
        obtain ⟨left1, i⟩ := x
        obtain ⟨hI0, k34, hk32, e33⟩ := hR
        replace hI0 : 0 ≤ left1 := hI0
        replace hk32 : (List.length a) - i < k34 := hk32
        obtain ⟨k34q, rfl⟩ : ∃ k, k34 = k + 1 := ⟨k34 - 1, by omega⟩
        refine AW.seq ?_
        refine AW.seq ?_
        refine AW.reg hC  false [] [0, 1, 5, 15] []
          ⟨[(0, .data (.slice (.slice (.named 1))) (a : List (List Val))), (1, .int .i64 left1), (5, .int .i64 ((i : Nat) : Int)), (15, .bool (decide (((i : Nat) : Int) < ((List.length a : Nat) : Int))))], []⟩
          [] (by kernel_rfl) ?_ ?_
        · exact trivial
        refine AW.cond (b := (decide (((i : Nat) : Int) < ((List.length a : Nat) : Int)))) (by kernel_rfl) ?_ ?_
        · intro h35
          have h35q : ((i : Nat) : Int) < ((List.length a : Nat) : Int) := (of_decide_eq_true h35)
          have e36 := e33.trans (Go.Am.bif_t h35)
          refine AW.keep [0, 1, 5] [] ⟨[(0, .data (.slice (.slice (.named 1))) (a : List (List Val))), (1, .int .i64 left1), (5, .int .i64 ((i : Nat) : Int))], []⟩ (by kernel_rfl) ?_
          refine AW.skip ?_
          refine AW.seq ?_
          refine AW.block ?_
          refine AW.seq ?_
          refine AW.reg hC  false [] [0, 1, 5] []
            ⟨[(0, .data (.slice (.slice (.named 1))) (a : List (List Val))), (1, .int .i64 (szValueS (List.getD a i []) left1)), (5, .int .i64 ((i : Nat) : Int))], []⟩
            [(0 ≤ ((i : Nat) : Int) ∧ ((i : Nat) : Int) < ((List.length a : Nat) : Int)), (0 ≤ left1)] (by kernel_rfl) ?_ ?_
          · refine ⟨?_, ?_, trivial⟩
            ·
              first | omega | (dsimp only; omega) | (simp only [lens] at *; omega)
            ·
              first | omega | (dsimp only; omega) | (simp only [lens] at *; omega)
          refine AW.seq ?_
          refine AW.reg hC  false [] [0, 1, 5, 25] []
            ⟨[(0, .data (.slice (.slice (.named 1))) (a : List (List Val))), (1, .int .i64 (szValueS (List.getD a i []) left1)), (5, .int .i64 ((i : Nat) : Int)), (25, .bool (decide ((szValueS (List.getD a i []) left1) < 0)))], []⟩
            [] (by kernel_rfl) ?_ ?_
          · exact trivial
          refine AW.cond (b := (decide ((szValueS (List.getD a i []) left1) < 0))) (by kernel_rfl) ?_ ?_
          · intro h37
            have h37q : (szValueS (List.getD a i []) left1) < 0 := (of_decide_eq_true h37)
            have e38 := e36.trans (Go.Am.bif_t h37)
            refine AW.seq ?_
            refine AW.reg hC  false [] [4] []
              ⟨[(4, .int .i64 (-1))], []⟩
              [] (by kernel_rfl) ?_ ?_
            · exact trivial
            refine AW.ret ?_
            have e39 := e4.trans (Go.Am.elim_r e38)
            exact AW.retE (β := Int) (fun v => [⟨(.int .i64), v⟩]) (fun v => []) (v := (-1)) e39 (by kernel_rfl) rfl rfl
          · intro h40
            have h40q : ¬ ((szValueS (List.getD a i []) left1) < 0) := (of_decide_eq_false h40)
            have e41 := e36.trans (Go.Am.bif_f h40)
            refine AW.keep [0, 1, 5] [] ⟨[(0, .data (.slice (.slice (.named 1))) (a : List (List Val))), (1, .int .i64 (szValueS (List.getD a i []) left1)), (5, .int .i64 ((i : Nat) : Int))], []⟩ (by kernel_rfl) ?_
            refine AW.skip ?_
            refine AW.reg hC  false [] [0, 1, 5] []
              ⟨[(0, .data (.slice (.slice (.named 1))) (a : List (List Val))), (1, .int .i64 (szValueS (List.getD a i []) left1)), (5, .int .i64 ((i + 1 : Nat) : Int))], []⟩
              [(-9223372036854775808 ≤ ((i + 1 : Nat) : Int) ∧ ((i + 1 : Nat) : Int) ≤ 9223372036854775807)] (by kernel_rfl) ?_ ?_
            · refine ⟨?_, trivial⟩
              ·
                first | omega | (dsimp only; omega) | (simp only [lens] at *; omega)
            refine AW.back (x := (left1, i)) ((szValueS (List.getD a i []) left1), i + 1) (by kernel_rfl) ⟨?_, k34q, ?_, e41⟩ ?_
            · show 0 ≤ (szValueS (List.getD a i []) left1)
              exact Int.not_lt.1 h40q
            · show (List.length a) - (i + 1) < k34q
              first | omega | (simp only [lens]; omega)
            · show (List.length a) - (i + 1) < (List.length a) - i
              first | omega | (simp only [lens]; omega)
        · intro h42
          have h42q : ¬ (((i : Nat) : Int) < ((List.length a : Nat) : Int)) := (of_decide_eq_false h42)
          have e43 := e33.trans (Go.Am.bif_f h42)
          refine AW.keep [1] [] ⟨[(1, .int .i64 left1)], []⟩ (by kernel_rfl) ?_
          refine AW.exit ?_
          refine AW.meet left1 (by kernel_rfl) ⟨?_, e43⟩
          show 0 ≤ left1
          first | assumption | exact trivial | omega
    · intro left1 hR
      obtain ⟨hJ0, e44⟩ := hR
      replace hJ0 : 0 ≤ left1 := hJ0
      have e45 := e4.trans (Go.Am.elim_l e44)
      refine AW.seq ?_
      refine AW.reg hC  false [] [4] []
        ⟨[(4, .int .i64 left1)], []⟩
        [] (by kernel_rfl) ?_ ?_
      · exact trivial
      refine AW.ret ?_
      exact AW.retE (β := Int) (fun v => [⟨(.int .i64), v⟩]) (fun v => []) (v := left1) e45 (by kernel_rfl) rfl rfl

def szTable (a : Tab) (left : Int) : Int := (bif (decide ((szValueSS (Tab.Rows a) left) < 0)) then (-1) else (szValueSS (Tab.Rows a) left))

def szTable_sp : FnSpec := mkSpec [.val (.named 2), .val (.int .i64)] [.val (.int .i64)] (fun (a : Tab) (left : Int) => 0 ≤ left) (fun (a : Tab) (left : Int) => [⟨(.int .i64), (szTable a left)⟩])

theorem szTable_ok : FnOK Try.prog 5 szTable_sp := by
  have hC : CtxOK Try.prog (mkCtx tyL [(13, szValueSS_sp)]) := CtxOK.cons szValueSS_ok (CtxOK.nil tyOK)
  refine FnOK.of_body Try.func5 (by kernel_rfl) rfl (C := (mkCtx tyL [(13, szValueSS_sp)])) hC.ty (by kernel_rfl) ?_
  intro (a : Tab) (left : Int) hwf hpre E
  have hpre : 0 ≤ left := hpre
  have hw_a : Wf ⟨(.named 2), (a : Tab)⟩ := hwf _ (List.Mem.head _)
  have hr_a_Width : -9223372036854775808 ≤ Tab.Width a ∧ Tab.Width a ≤ 9223372036854775807 := (hw_a.field (tv := ⟨(.int .i64), Tab.Width a⟩) (List.Mem.head _)).int_inv
  have hl_a_Rows : ((List.length (Tab.Rows a) : Nat) : Int) ≤ 9223372036854775807 := (hw_a.field (tv := ⟨(.slice (.slice (.named 1))), Tab.Rows a⟩) (List.Mem.tail _ (List.Mem.head _))).len
  have hw_left : Wf ⟨(.int .i64), (left : Int)⟩ := hwf _ (List.Mem.tail _ (List.Mem.head _))
  have hr_left : -9223372036854775808 ≤ left ∧ left ≤ 9223372036854775807 := hw_left.int_inv
  have e0 : szTable a left = szTable a left := rfl
  refine AW.seq ?_
  refine AW.reg hC  false [] [1, 2] [8]
    ⟨[(1, .int .i64 left), (2, .ref 8 1 0)], [(8, .box 1 [.int .i64 (Tab.Width a), .data (.slice (.slice (.named 1))) ((Tab.Rows a) : List (List Val))])]⟩
    [] (by kernel_rfl) ?_ ?_
  · exact trivial
  refine AW.seq ?_
  refine AW.reg hC  false [] [1] []
    ⟨[(1, .int .i64 (szValueSS (Tab.Rows a) left))], []⟩
    [(0 ≤ left)] (by kernel_rfl) ?_ ?_
  · refine ⟨?_, trivial⟩
    ·
      first | omega | (dsimp only; omega) | (simp only [lens] at *; omega)
  refine AW.seq ?_
  refine AW.seq ?_
  refine AW.reg hC  false [] [1, 10] []
    ⟨[(1, .int .i64 (szValueSS (Tab.Rows a) left)), (10, .bool (decide ((szValueSS (Tab.Rows a) left) < 0)))], []⟩
    [] (by kernel_rfl) ?_ ?_
  · exact trivial
  refine AW.cond (b := (decide ((szValueSS (Tab.Rows a) left) < 0))) (by kernel_rfl) ?_ ?_
  · intro h1
    have h1q : (szValueSS (Tab.Rows a) left) < 0 := (of_decide_eq_true h1)
    have e2 := e0.trans (Go.Am.bif_t h1)
    refine AW.seq ?_
    refine AW.reg hC  false [] [4] []
      ⟨[(4, .int .i64 (-1))], []⟩
      [] (by kernel_rfl) ?_ ?_
    · exact trivial
    refine AW.ret ?_
    exact AW.retE (β := Int) (fun v => [⟨(.int .i64), v⟩]) (fun v => []) (v := (-1)) e2 (by kernel_rfl) rfl rfl
  · intro h3
    have h3q : ¬ ((szValueSS (Tab.Rows a) left) < 0) := (of_decide_eq_false h3)
    have e4 := e0.trans (Go.Am.bif_f h3)
    refine AW.keep [1] [] ⟨[(1, .int .i64 (szValueSS (Tab.Rows a) left))], []⟩ (by kernel_rfl) ?_
    refine AW.skip ?_
    refine AW.seq ?_
    refine AW.reg hC  false [] [4] []
      ⟨[(4, .int .i64 (szValueSS (Tab.Rows a) left))], []⟩
      [] (by kernel_rfl) ?_ ?_
    · exact trivial
    refine AW.ret ?_
    exact AW.retE (β := Int) (fun v => [⟨(.int .i64), v⟩]) (fun v => []) (v := (szValueSS (Tab.Rows a) left)) e4 (by kernel_rfl) rfl rfl

def toDependency (a : Dep) : Dep := a

def toDependency_sp : FnSpec := mkSpec [.val (.named 0)] [.val (.named 0)] (fun (a : Dep) => True) (fun (a : Dep) => [⟨(.named 0), (toDependency a)⟩])

theorem toDependency_ok : FnOK Try.prog 7 toDependency_sp := by
  have hC : CtxOK Try.prog (mkCtx tyL []) := CtxOK.nil tyOK
  refine FnOK.of_body Try.func7 (by kernel_rfl) rfl (C := (mkCtx tyL [])) hC.ty (by kernel_rfl) ?_
  intro (a : Dep) hwf hpre E
  have hpre : True := hpre
  have hw_a : Wf ⟨(.named 0), (a : Dep)⟩ := hwf _ (List.Mem.head _)
  have hr_a_From : -9223372036854775808 ≤ Dep.From a ∧ Dep.From a ≤ 9223372036854775807 := (hw_a.field (tv := ⟨(.int .i64), Dep.From a⟩) (List.Mem.head _)).int_inv
  have hr_a_To : -9223372036854775808 ≤ Dep.To a ∧ Dep.To a ≤ 9223372036854775807 := (hw_a.field (tv := ⟨(.int .i64), Dep.To a⟩) (List.Mem.tail _ (List.Mem.head _))).int_inv
  have e0 : toDependency a = toDependency a := rfl
  refine AW.seq ?_
  refine AW.reg hC  false [] [1, 2] [4, 8]
    ⟨[(1, .ref 4 1 0), (2, .ref 8 1 0)], [(4, .box 1 [.int .i64 (Dep.From a), .int .i64 (Dep.To a)]), (8, .box 1 [.int .i64 0, .int .i64 0])]⟩
    [] (by kernel_rfl) ?_ ?_
  · exact trivial
  refine AW.seq ?_
  refine AW.reg hC  false [] [1, 2, 3] [4, 8, 12]
    ⟨[(1, .ref 4 1 0), (2, .ref 8 1 0), (3, .ref 12 1 0)], [(4, .box 1 [.int .i64 (Dep.From a), .int .i64 (Dep.To a)]), (8, .box 1 [.int .i64 0, .int .i64 0]), (12, .box 1 [.int .i64 0, .int .i64 0])]⟩
    [] (by kernel_rfl) ?_ ?_
  · exact trivial
  refine AW.seq ?_
  refine AW.reg hC  false [] [1, 2, 3] [4, 8, 12]
    ⟨[(1, .ref 4 1 0), (2, .ref 8 1 0), (3, .ref 12 1 0)], [(4, .box 1 [.int .i64 (Dep.From a), .int .i64 (Dep.To a)]), (8, .box 1 [.int .i64 0, .int .i64 0]), (12, .box 1 [.int .i64 (Dep.From a), .int .i64 0])]⟩
    [] (by kernel_rfl) ?_ ?_
  · exact trivial
  refine AW.seq ?_
  refine AW.reg hC  false [] [2, 3] [8, 12]
    ⟨[(2, .ref 8 1 0), (3, .ref 12 1 0)], [(8, .box 1 [.int .i64 0, .int .i64 0]), (12, .box 1 [.int .i64 (Dep.From a), .int .i64 (Dep.To a)])]⟩
    [] (by kernel_rfl) ?_ ?_
  · exact trivial
  refine AW.seq ?_
  refine AW.reg hC  false [] [2] [8]
    ⟨[(2, .ref 8 1 0)], [(8, .box 1 [.int .i64 (Dep.From a), .int .i64 (Dep.To a)])]⟩
    [] (by kernel_rfl) ?_ ?_
  · exact trivial
  refine AW.ret ?_
  exact AW.retE (β := Dep) (fun v => [⟨(.named 0), v⟩]) (fun v => []) (v := a) e0 (by kernel_rfl) rfl rfl

def toValue (a : Val) : Val := a

def toValue_sp : FnSpec := mkSpec [.val (.named 1)] [.val (.named 1)] (fun (a : Val) => True) (fun (a : Val) => [⟨(.named 1), (toValue a)⟩])

theorem toValue_ok : FnOK Try.prog 45 toValue_sp := by
  have hC : CtxOK Try.prog (mkCtx tyL []) := CtxOK.nil tyOK
  refine FnOK.of_body Try.func45 (by kernel_rfl) rfl (C := (mkCtx tyL [])) hC.ty (by kernel_rfl) ?_
  intro (a : Val) hwf hpre E
  have hpre : True := hpre
  have hw_a : Wf ⟨(.named 1), (a : Val)⟩ := hwf _ (List.Mem.head _)
  have hr_a_N : -9223372036854775808 ≤ Val.N a ∧ Val.N a ≤ 9223372036854775807 := (hw_a.field (tv := ⟨(.int .i64), Val.N a⟩) (List.Mem.tail _ (List.Mem.head _))).int_inv
  have e0 : toValue a = toValue a := rfl
  refine AW.seq ?_
  refine AW.reg hC  false [] [1, 2] [4, 8]
    ⟨[(1, .ref 4 1 0), (2, .ref 8 1 0)], [(4, .box 1 [.bool (Val.Null a), .int .i64 (Val.N a)]), (8, .box 1 [.bool false, .int .i64 0])]⟩
    [] (by kernel_rfl) ?_ ?_
  · exact trivial
  refine AW.seq ?_
  refine AW.reg hC  false [] [1, 2, 3] [4, 8, 12]
    ⟨[(1, .ref 4 1 0), (2, .ref 8 1 0), (3, .ref 12 1 0)], [(4, .box 1 [.bool (Val.Null a), .int .i64 (Val.N a)]), (8, .box 1 [.bool false, .int .i64 0]), (12, .box 1 [.bool false, .int .i64 0])]⟩
    [] (by kernel_rfl) ?_ ?_
  · exact trivial
  refine AW.seq ?_
  refine AW.reg hC  false [] [1, 2, 3] [4, 8, 12]
    ⟨[(1, .ref 4 1 0), (2, .ref 8 1 0), (3, .ref 12 1 0)], [(4, .box 1 [.bool (Val.Null a), .int .i64 (Val.N a)]), (8, .box 1 [.bool false, .int .i64 0]), (12, .box 1 [.bool (Val.Null a), .int .i64 0])]⟩
    [] (by kernel_rfl) ?_ ?_
  · exact trivial
  refine AW.seq ?_
  refine AW.reg hC  false [] [2, 3] [8, 12]
    ⟨[(2, .ref 8 1 0), (3, .ref 12 1 0)], [(8, .box 1 [.bool false, .int .i64 0]), (12, .box 1 [.bool (Val.Null a), .int .i64 (Val.N a)])]⟩
    [] (by kernel_rfl) ?_ ?_
  · exact trivial
  refine AW.seq ?_
  refine AW.reg hC  false [] [2] [8]
    ⟨[(2, .ref 8 1 0)], [(8, .box 1 [.bool (Val.Null a), .int .i64 (Val.N a)])]⟩
    [] (by kernel_rfl) ?_ ?_
  · exact trivial
  refine AW.ret ?_
  exact AW.retE (β := Val) (fun v => [⟨(.named 1), v⟩]) (fun v => []) (v := a) e0 (by kernel_rfl) rfl rfl

def toValueS_l0 (a : List Val) : Nat → Nat → (List Val) → (List Val)
  | 0, i, out => out
  | k + 1, i, out => (bif (decide (((i : Nat) : Int) < ((List.length a : Nat) : Int))) then (toValueS_l0 a k (i + 1) (List.set out i (toValue (List.getD a i Val.zero)))) else out)

def toValueS (a : List Val) : (List Val) := (Go.Am.andThen (toValueS_l0 a ((List.length a) - 0 + 1) 0 (List.replicate (List.length a) Val.zero : List Val)) (fun z => (fun (out : List Val) => out) z))

def toValueS_sp : FnSpec := mkSpec [.val (.slice (.named 1))] [.val (.slice (.named 1))] (fun (a : List Val) => (List.length a : Int) ≤ 1048576) (fun (a : List Val) => [⟨(.slice (.named 1)), (toValueS a)⟩])

theorem toValueS_ok : FnOK Try.prog 33 toValueS_sp := by
  have hC : CtxOK Try.prog (mkCtx tyL [(45, toValue_sp)]) := CtxOK.cons toValue_ok (CtxOK.nil tyOK)
  refine FnOK.of_body Try.func33 (by kernel_rfl) rfl (C := (mkCtx tyL [(45, toValue_sp)])) hC.ty (by kernel_rfl) ?_
  intro (a : List Val) hwf hpre E
  have hpre : (List.length a : Int) ≤ 1048576 := hpre
  have hw_a : Wf ⟨(.slice (.named 1)), (a : List Val)⟩ := hwf _ (List.Mem.head _)
  have hl_a : ((List.length a : Nat) : Int) ≤ 9223372036854775807 := hw_a.len
  have e0 : toValueS a = toValueS a := rfl
  refine AW.seq ?_
  refine AW.reg hC  false [] [0] []
    ⟨[(0, .data (.slice (.named 1)) (a : List Val))], []⟩
    [] (by kernel_rfl) ?_ ?_
  · exact trivial
  refine AW.seq ?_
  refine AW.reg hC  false [] [0, 3] [28]
    ⟨[(0, .data (.slice (.named 1)) (a : List Val)), (3, .arr 28 1)], [(28, .arr 1 (.named 1) ((List.replicate (List.length a) Val.zero : List Val) : List Val))]⟩
    [(0 ≤ ((List.length a : Nat) : Int) ∧ ((List.length a : Nat) : Int) ≤ ((List.length a : Nat) : Int) ∧ ((List.length a : Nat) : Int) ≤ 4294967296)] (by kernel_rfl) ?_ ?_
  · refine ⟨?_, trivial⟩
    ·
      first | omega | (dsimp only; omega) | (simp only [lens] at *; omega)
  refine AW.seq ?_
  refine AW.seq ?_
  refine AW.reg hC  false [] [0, 3, 4] [28]
    ⟨[(0, .data (.slice (.named 1)) (a : List Val)), (3, .arr 28 1), (4, .int .i64 0)], [(28, .arr 1 (.named 1) ((List.replicate (List.length a) Val.zero : List Val) : List Val))]⟩
    [] (by kernel_rfl) ?_ ?_
  · exact trivial
  refine AW.cutQ (α := (List Val)) (fun x => ⟨[(3, .arr 28 1)], [(28, .arr 1 (.named 1) (x : List Val))]⟩) (fun x => (x.length = (List.length a)) ∧ (toValueS_l0 a ((List.length a) - 0 + 1) 0 (List.replicate (List.length a) Val.zero : List Val)) = x) ?_ ?_
  · skip
    refine AW.block ?_
    refine AW.loop (α := Nat × (List Val)) (fun x => ⟨[(0, .data (.slice (.named 1)) (a : List Val)), (3, .arr 28 1), (4, .int .i64 ((x.1 : Nat) : Int))], [(28, .arr 1 (.named 1) (x.2 : List Val))]⟩) (fun x => (x.2.length = (List.length a)) ∧ ∃ k, (List.length a) - x.1 < k ∧ (toValueS_l0 a ((List.length a) - 0 + 1) 0 (List.replicate (List.length a) Val.zero : List Val)) = toValueS_l0 a k x.1 x.2) (fun x => (List.length a) - x.1) (0, (List.replicate (List.length a) Val.zero : List Val)) (by kernel_rfl) ⟨?_, _, Nat.lt_succ_self _, rfl⟩ ?_
    · show (List.replicate (List.length a) Val.zero : List Val).length = (List.length a)
      first | exact trivial | (refine ⟨?_, ?_⟩ <;> first | omega | simp) | omega | simp
    · intro x hR
      obtain ⟨i, out⟩ := x
      obtain ⟨hI0, k15, hk13, e14⟩ := hR
      replace hI0 : out.length = (List.length a) := hI0
      replace hk13 : (List.length a) - i < k15 := hk13
      obtain ⟨k15q, rfl⟩ : ∃ k, k15 = k + 1 := ⟨k15 - 1, by omega⟩
      refine AW.seq ?_
      refine AW.seq ?_
      refine AW.reg hC  false [] [0, 3, 4, 11] [28]
        ⟨[(0, .data (.slice (.named 1)) (a : List Val)), (3, .arr 28 1), (4, .int .i64 ((i : Nat) : Int)), (11, .bool (decide (((i : Nat) : Int) < ((List.length a : Nat) : Int))))], [(28, .arr 1 (.named 1) (out : List Val))]⟩
        [] (by kernel_rfl) ?_ ?_
      · exact trivial
      refine AW.cond (b := (decide (((i : Nat) : Int) < ((List.length a : Nat) : Int)))) (by kernel_rfl) ?_ ?_
      · intro h16
        have h16q : ((i : Nat) : Int) < ((List.length a : Nat) : Int) := (of_decide_eq_true h16)
        have e17 := e14.trans (Go.Am.bif_t h16)
        refine AW.keep [0, 3, 4] [28] ⟨[(0, .data (.slice (.named 1)) (a : List Val)), (3, .arr 28 1), (4, .int .i64 ((i : Nat) : Int))], [(28, .arr 1 (.named 1) (out : List Val))]⟩ (by kernel_rfl) ?_
        refine AW.skip ?_
        refine AW.seq ?_
        refine AW.block ?_
        refine AW.reg hC  false [] [0, 3, 4] [28]
          ⟨[(0, .data (.slice (.named 1)) (a : List Val)), (3, .arr 28 1), (4, .int .i64 ((i : Nat) : Int))], [(28, .arr 1 (.named 1) ((List.set out i (toValue (List.getD a i Val.zero))) : List Val))]⟩
          [(0 ≤ ((i : Nat) : Int) ∧ ((i : Nat) : Int) < ((List.length a : Nat) : Int)), (True), (0 ≤ ((i : Nat) : Int) ∧ ((i : Nat) : Int) < ((List.length out : Nat) : Int))] (by kernel_rfl) ?_ ?_
        · refine ⟨?_, ?_, ?_, trivial⟩
          ·
            first | omega | (dsimp only; omega) | (simp only [lens] at *; omega)
          · trivial
          ·
            first | omega | (dsimp only; omega) | (simp only [lens] at *; omega)
        refine AW.reg hC  false [] [0, 3, 4] [28]
          ⟨[(0, .data (.slice (.named 1)) (a : List Val)), (3, .arr 28 1), (4, .int .i64 ((i + 1 : Nat) : Int))], [(28, .arr 1 (.named 1) ((List.set out i (toValue (List.getD a i Val.zero))) : List Val))]⟩
          [(-9223372036854775808 ≤ ((i + 1 : Nat) : Int) ∧ ((i + 1 : Nat) : Int) ≤ 9223372036854775807)] (by kernel_rfl) ?_ ?_
        · refine ⟨?_, trivial⟩
          ·
            first | omega | (dsimp only; omega) | (simp only [lens] at *; omega)
        refine AW.back (x := (i, out)) (i + 1, (List.set out i (toValue (List.getD a i Val.zero)))) (by kernel_rfl) ⟨?_, k15q, ?_, e17⟩ ?_
        · show (List.set out i (toValue (List.getD a i Val.zero))).length = (List.length a)
          first | assumption | exact trivial | (refine ⟨?_, ?_⟩ <;> first | omega | (simp only [lens] at *; omega)) | omega | (simp only [lens] at *; omega)
        · show (List.length a) - (i + 1) < k15q
          first | omega | (simp only [lens]; omega)
        · show (List.length a) - (i + 1) < (List.length a) - i
          first | omega | (simp only [lens]; omega)
      · intro h18
        have h18q : ¬ (((i : Nat) : Int) < ((List.length a : Nat) : Int)) := (of_decide_eq_false h18)
        have e19 := e14.trans (Go.Am.bif_f h18)
        refine AW.keep [3] [28] ⟨[(3, .arr 28 1)], [(28, .arr 1 (.named 1) (out : List Val))]⟩ (by kernel_rfl) ?_
        refine AW.exit ?_
        refine AW.meet out (by kernel_rfl) ⟨?_, e19⟩
        show out.length = (List.length a)
        first | assumption | exact trivial | omega
  · intro out hR
    obtain ⟨hJ0, e20⟩ := hR
    replace hJ0 : out.length = (List.length a) := hJ0
    have e21 := e0.trans (Go.Am.then_eq e20)
    refine AW.seq ?_
    refine AW.reg hC  false [] [2] [28]
      ⟨[(2, .arr 28 1)], [(28, .arr 1 (.named 1) (out : List Val))]⟩
      [] (by kernel_rfl) ?_ ?_
    · exact trivial
    refine AW.ret ?_
    exact AW.retE (β := (List Val)) (fun v => [⟨(.slice (.named 1)), v⟩]) (fun v => []) (v := out) e21 (by kernel_rfl) rfl rfl

def toValueSS_l0 (a : List (List Val)) : Nat → Nat → (List (List Val)) → (List (List Val))
  | 0, i, out => out
  | k + 1, i, out => (bif (decide (((i : Nat) : Int) < ((List.length a : Nat) : Int))) then (toValueSS_l0 a k (i + 1) (List.set out i (toValueS (List.getD a i [])))) else out)

def toValueSS (a : List (List Val)) : (List (List Val)) := (Go.Am.andThen (toValueSS_l0 a ((List.length a) - 0 + 1) 0 (List.replicate (List.length a) [] : List (List Val))) (fun z => (fun (out : List (List Val)) => out) z))

def toValueSS_sp : FnSpec := mkSpec [.val (.slice (.slice (.named 1)))] [.val (.slice (.slice (.named 1)))] (fun (a : List (List Val)) => (List.length a : Int) ≤ 1048576 ∧ ∀ i : Nat, i < List.length a → (List.length (List.getD a i []) : Int) ≤ 1048576) (fun (a : List (List Val)) => [⟨(.slice (.slice (.named 1))), (toValueSS a)⟩])

theorem toValueSS_ok : FnOK Try.prog 17 toValueSS_sp := by
  have hC : CtxOK Try.prog (mkCtx tyL [(33, toValueS_sp)]) := CtxOK.cons toValueS_ok (CtxOK.nil tyOK)
  refine FnOK.of_body Try.func17 (by kernel_rfl) rfl (C := (mkCtx tyL [(33, toValueS_sp)])) hC.ty (by kernel_rfl) ?_
  intro (a : List (List Val)) hwf hpre E
  have hpre : (List.length a : Int) ≤ 1048576 ∧ ∀ i : Nat, i < List.length a → (List.length (List.getD a i []) : Int) ≤ 1048576 := hpre
  have hw_a : Wf ⟨(.slice (.slice (.named 1))), (a : List (List Val))⟩ := hwf _ (List.Mem.head _)
  have hl_a : ((List.length a : Nat) : Int) ≤ 9223372036854775807 := hw_a.len
  have e0 : toValueSS a = toValueSS a := rfl
  refine AW.seq ?_
  refine AW.reg hC  false [] [0] []
    ⟨[(0, .data (.slice (.slice (.named 1))) (a : List (List Val)))], []⟩
    [] (by kernel_rfl) ?_ ?_
  · exact trivial
  refine AW.seq ?_
  refine AW.reg hC  false [] [0, 3] [28]
    ⟨[(0, .data (.slice (.slice (.named 1))) (a : List (List Val))), (3, .arr 28 1)], [(28, .arr 1 (.slice (.named 1)) ((List.replicate (List.length a) [] : List (List Val)) : List (List Val)))]⟩
    [(0 ≤ ((List.length a : Nat) : Int) ∧ ((List.length a : Nat) : Int) ≤ ((List.length a : Nat) : Int) ∧ ((List.length a : Nat) : Int) ≤ 4294967296)] (by kernel_rfl) ?_ ?_
  · refine ⟨?_, trivial⟩
    ·
      first | omega | (dsimp only; omega) | (simp only [lens] at *; omega)
  refine AW.seq ?_
  refine AW.seq ?_
  refine AW.reg hC  false [] [0, 3, 4] [28]
    ⟨[(0, .data (.slice (.slice (.named 1))) (a : List (List Val))), (3, .arr 28 1), (4, .int .i64 0)], [(28, .arr 1 (.slice (.named 1)) ((List.replicate (List.length a) [] : List (List Val)) : List (List Val)))]⟩
    [] (by kernel_rfl) ?_ ?_
  · exact trivial
  refine AW.cutQ (α := (List (List Val))) (fun x => ⟨[(3, .arr 28 1)], [(28, .arr 1 (.slice (.named 1)) (x : List (List Val)))]⟩) (fun x => (x.length = (List.length a)) ∧ (toValueSS_l0 a ((List.length a) - 0 + 1) 0 (List.replicate (List.length a) [] : List (List Val))) = x) ?_ ?_
  · skip
    refine AW.block ?_
    refine AW.loop (α := Nat × (List (List Val))) (fun x => ⟨[(0, .data (.slice (.slice (.named 1))) (a : List (List Val))), (3, .arr 28 1), (4, .int .i64 ((x.1 : Nat) : Int))], [(28, .arr 1 (.slice (.named 1)) (x.2 : List (List Val)))]⟩) (fun x => (x.2.length = (List.length a)) ∧ ∃ k, (List.length a) - x.1 < k ∧ (toValueSS_l0 a ((List.length a) - 0 + 1) 0 (List.replicate (List.length a) [] : List (List Val))) = toValueSS_l0 a k x.1 x.2) (fun x => (List.length a) - x.1) (0, (List.replicate (List.length a) [] : List (List Val))) (by kernel_rfl) ⟨?_, _, Nat.lt_succ_self _, rfl⟩ ?_
    · show (List.replicate (List.length a) [] : List (List Val)).length = (List.length a)
      first | exact trivial | (refine ⟨?_, ?_⟩ <;> first | omega | simp) | omega | simp
    · intro x hR
      obtain ⟨i, out⟩ := x
      obtain ⟨hI0, k15, hk13, e14⟩ := hR
      replace hI0 : out.length = (List.length a) := hI0
      replace hk13 : (List.length a) - i < k15 := hk13
      obtain ⟨k15q, rfl⟩ : ∃ k, k15 = k + 1 := ⟨k15 - 1, by omega⟩
      refine AW.seq ?_
      refine AW.seq ?_
      refine AW.reg hC  false [] [0, 3, 4, 11] [28]
        ⟨[(0, .data (.slice (.slice (.named 1))) (a : List (List Val))), (3, .arr 28 1), (4, .int .i64 ((i : Nat) : Int)), (11, .bool (decide (((i : Nat) : Int) < ((List.length a : Nat) : Int))))], [(28, .arr 1 (.slice (.named 1)) (out : List (List Val)))]⟩
        [] (by kernel_rfl) ?_ ?_
      · exact trivial
      refine AW.cond (b := (decide (((i : Nat) : Int) < ((List.length a : Nat) : Int)))) (by kernel_rfl) ?_ ?_
      · intro h16
        have h16q : ((i : Nat) : Int) < ((List.length a : Nat) : Int) := (of_decide_eq_true h16)
        have e17 := e14.trans (Go.Am.bif_t h16)
        refine AW.keep [0, 3, 4] [28] ⟨[(0, .data (.slice (.slice (.named 1))) (a : List (List Val))), (3, .arr 28 1), (4, .int .i64 ((i : Nat) : Int))], [(28, .arr 1 (.slice (.named 1)) (out : List (List Val)))]⟩ (by kernel_rfl) ?_
        refine AW.skip ?_
        refine AW.seq ?_
        refine AW.block ?_
        refine AW.reg hC  false [] [0, 3, 4] [28]
          ⟨[(0, .data (.slice (.slice (.named 1))) (a : List (List Val))), (3, .arr 28 1), (4, .int .i64 ((i : Nat) : Int))], [(28, .arr 1 (.slice (.named 1)) ((List.set out i (toValueS (List.getD a i []))) : List (List Val)))]⟩
          [(0 ≤ ((i : Nat) : Int) ∧ ((i : Nat) : Int) < ((List.length a : Nat) : Int)), ((List.length (List.getD a i []) : Int) ≤ 1048576), (0 ≤ ((i : Nat) : Int) ∧ ((i : Nat) : Int) < ((List.length out : Nat) : Int))] (by kernel_rfl) ?_ ?_
        · refine ⟨?_, ?_, ?_, trivial⟩
          ·
            first | omega | (dsimp only; omega) | (simp only [lens] at *; omega)
          ·
            exact hpre.2 i (by omega)
          ·
            first | omega | (dsimp only; omega) | (simp only [lens] at *; omega)
        refine AW.reg hC  false [] [0, 3, 4] [28]
          ⟨[(0, .data (.slice (.slice (.named 1))) (a : List (List Val))), (3, .arr 28 1), (4, .int .i64 ((i + 1 : Nat) : Int))], [(28, .arr 1 (.slice (.named 1)) ((List.set out i (toValueS (List.getD a i []))) : List (List Val)))]⟩
          [(-9223372036854775808 ≤ ((i + 1 : Nat) : Int) ∧ ((i + 1 : Nat) : Int) ≤ 9223372036854775807)] (by kernel_rfl) ?_ ?_
        · refine ⟨?_, trivial⟩
          ·
            first | omega | (dsimp only; omega) | (simp only [lens] at *; omega)
        refine AW.back (x := (i, out)) (i + 1, (List.set out i (toValueS (List.getD a i [])))) (by kernel_rfl) ⟨?_, k15q, ?_, e17⟩ ?_
        · show (List.set out i (toValueS (List.getD a i []))).length = (List.length a)
          first | assumption | exact trivial | (refine ⟨?_, ?_⟩ <;> first | omega | (simp only [lens] at *; omega)) | omega | (simp only [lens] at *; omega)
        · show (List.length a) - (i + 1) < k15q
          first | omega | (simp only [lens]; omega)
        · show (List.length a) - (i + 1) < (List.length a) - i
          first | omega | (simp only [lens]; omega)
      · intro h18
        have h18q : ¬ (((i : Nat) : Int) < ((List.length a : Nat) : Int)) := (of_decide_eq_false h18)
        have e19 := e14.trans (Go.Am.bif_f h18)
        refine AW.keep [3] [28] ⟨[(3, .arr 28 1)], [(28, .arr 1 (.slice (.named 1)) (out : List (List Val)))]⟩ (by kernel_rfl) ?_
        refine AW.exit ?_
        refine AW.meet out (by kernel_rfl) ⟨?_, e19⟩
        show out.length = (List.length a)
        first | assumption | exact trivial | omega
  · intro out hR
    obtain ⟨hJ0, e20⟩ := hR
    replace hJ0 : out.length = (List.length a) := hJ0
    have e21 := e0.trans (Go.Am.then_eq e20)
    refine AW.seq ?_
    refine AW.reg hC  false [] [2] [28]
      ⟨[(2, .arr 28 1)], [(28, .arr 1 (.slice (.named 1)) (out : List (List Val)))]⟩
      [] (by kernel_rfl) ?_ ?_
    · exact trivial
    refine AW.ret ?_
    exact AW.retE (β := (List (List Val))) (fun v => [⟨(.slice (.slice (.named 1))), v⟩]) (fun v => []) (v := out) e21 (by kernel_rfl) rfl rfl

def toTable (a : Tab) : Tab := (Tab.mk (Tab.Width a) (toValueSS (Tab.Rows a)))

def toTable_sp : FnSpec := mkSpec [.val (.named 2)] [.val (.named 2)] (fun (a : Tab) => (List.length a.Rows : Int) ≤ 1048576 ∧ ∀ i : Nat, i < List.length a.Rows → (List.length (List.getD a.Rows i []) : Int) ≤ 1048576) (fun (a : Tab) => [⟨(.named 2), (toTable a)⟩])

theorem toTable_ok : FnOK Try.prog 8 toTable_sp := by
  have hC : CtxOK Try.prog (mkCtx tyL [(17, toValueSS_sp)]) := CtxOK.cons toValueSS_ok (CtxOK.nil tyOK)
  refine FnOK.of_body Try.func8 (by kernel_rfl) rfl (C := (mkCtx tyL [(17, toValueSS_sp)])) hC.ty (by kernel_rfl) ?_
  intro (a : Tab) hwf hpre E
  have hpre : (List.length a.Rows : Int) ≤ 1048576 ∧ ∀ i : Nat, i < List.length a.Rows → (List.length (List.getD a.Rows i []) : Int) ≤ 1048576 := hpre
  have hw_a : Wf ⟨(.named 2), (a : Tab)⟩ := hwf _ (List.Mem.head _)
  have hr_a_Width : -9223372036854775808 ≤ Tab.Width a ∧ Tab.Width a ≤ 9223372036854775807 := (hw_a.field (tv := ⟨(.int .i64), Tab.Width a⟩) (List.Mem.head _)).int_inv
  have hl_a_Rows : ((List.length (Tab.Rows a) : Nat) : Int) ≤ 9223372036854775807 := (hw_a.field (tv := ⟨(.slice (.slice (.named 1))), Tab.Rows a⟩) (List.Mem.tail _ (List.Mem.head _))).len
  have e0 : toTable a = toTable a := rfl
  refine AW.seq ?_
  refine AW.reg hC  false [] [1, 2] [4, 8]
    ⟨[(1, .ref 4 1 0), (2, .ref 8 1 0)], [(4, .box 1 [.int .i64 (Tab.Width a), .data (.slice (.slice (.named 1))) ((Tab.Rows a) : List (List Val))]), (8, .box 1 [.int .i64 0, .nilsl])]⟩
    [] (by kernel_rfl) ?_ ?_
  · exact trivial
  refine AW.seq ?_
  refine AW.reg hC  false [] [1, 2, 3] [4, 8, 12]
    ⟨[(1, .ref 4 1 0), (2, .ref 8 1 0), (3, .ref 12 1 0)], [(4, .box 1 [.int .i64 (Tab.Width a), .data (.slice (.slice (.named 1))) ((Tab.Rows a) : List (List Val))]), (8, .box 1 [.int .i64 0, .nilsl]), (12, .box 1 [.int .i64 0, .nilsl])]⟩
    [] (by kernel_rfl) ?_ ?_
  · exact trivial
  refine AW.seq ?_
  refine AW.reg hC  false [] [1, 2, 3] [4, 8, 12]
    ⟨[(1, .ref 4 1 0), (2, .ref 8 1 0), (3, .ref 12 1 0)], [(4, .box 1 [.int .i64 (Tab.Width a), .data (.slice (.slice (.named 1))) ((Tab.Rows a) : List (List Val))]), (8, .box 1 [.int .i64 0, .nilsl]), (12, .box 1 [.int .i64 (Tab.Width a), .nilsl])]⟩
    [] (by kernel_rfl) ?_ ?_
  · exact trivial
  refine AW.seq ?_
  refine AW.reg hC  false [] [2, 3] [8, 12]
    ⟨[(2, .ref 8 1 0), (3, .ref 12 1 0)], [(8, .box 1 [.int .i64 0, .nilsl]), (12, .box 1 [.int .i64 (Tab.Width a), .data (.slice (.slice (.named 1))) ((toValueSS (Tab.Rows a)) : List (List Val))])]⟩
    [((List.length (Tab.Rows a) : Int) ≤ 1048576 ∧ ∀ i : Nat, i < List.length (Tab.Rows a) → (List.length (List.getD (Tab.Rows a) i []) : Int) ≤ 1048576)] (by kernel_rfl) ?_ ?_
  · refine ⟨?_, trivial⟩
    ·
      first | omega | (dsimp only; omega) | (simp only [lens] at *; omega)
  refine AW.seq ?_
  refine AW.reg hC  false [] [2] [8]
    ⟨[(2, .ref 8 1 0)], [(8, .box 1 [.int .i64 (Tab.Width a), .data (.slice (.slice (.named 1))) ((toValueSS (Tab.Rows a)) : List (List Val))])]⟩
    [] (by kernel_rfl) ?_ ?_
  · exact trivial
  refine AW.ret ?_
  exact AW.retE (β := Tab) (fun v => [⟨(.named 2), v⟩]) (fun v => []) (v := (Tab.mk (Tab.Width a) (toValueSS (Tab.Rows a)))) e0 (by kernel_rfl) rfl rfl

def eqValue (a : Val) (b : Val) : Bool := (bif ((Val.Null a) != (Val.Null b)) then false else (bif ((Val.N a) != (Val.N b)) then false else true))

def eqValue_sp : FnSpec := mkSpec [.val (.named 1), .val (.named 1)] [.val .bool] (fun (a : Val) (b : Val) => True) (fun (a : Val) (b : Val) => [⟨.bool, (eqValue a b)⟩])

theorem eqValue_ok : FnOK Try.prog 46 eqValue_sp := by
  have hC : CtxOK Try.prog (mkCtx tyL []) := CtxOK.nil tyOK
  refine FnOK.of_body Try.func46 (by kernel_rfl) rfl (C := (mkCtx tyL [])) hC.ty (by kernel_rfl) ?_
  intro (a : Val) (b : Val) hwf hpre E
  have hpre : True := hpre
  have hw_a : Wf ⟨(.named 1), (a : Val)⟩ := hwf _ (List.Mem.head _)
  have hr_a_N : -9223372036854775808 ≤ Val.N a ∧ Val.N a ≤ 9223372036854775807 := (hw_a.field (tv := ⟨(.int .i64), Val.N a⟩) (List.Mem.tail _ (List.Mem.head _))).int_inv
  have hw_b : Wf ⟨(.named 1), (b : Val)⟩ := hwf _ (List.Mem.tail _ (List.Mem.head _))
  have hr_b_N : -9223372036854775808 ≤ Val.N b ∧ Val.N b ≤ 9223372036854775807 := (hw_b.field (tv := ⟨(.int .i64), Val.N b⟩) (List.Mem.tail _ (List.Mem.head _))).int_inv
  have e0 : eqValue a b = eqValue a b := rfl
  refine AW.seq ?_
  refine AW.reg hC  false [] [2, 3] [8, 12]
    ⟨[(2, .ref 8 1 0), (3, .ref 12 1 0)], [(8, .box 1 [.bool (Val.Null a), .int .i64 (Val.N a)]), (12, .box 1 [.bool (Val.Null b), .int .i64 (Val.N b)])]⟩
    [] (by kernel_rfl) ?_ ?_
  · exact trivial
  refine AW.seq ?_
  refine AW.seq ?_
  refine AW.reg hC  false [] [2, 3, 9] [8, 12]
    ⟨[(2, .ref 8 1 0), (3, .ref 12 1 0), (9, .bool ((Val.Null a) != (Val.Null b)))], [(8, .box 1 [.bool (Val.Null a), .int .i64 (Val.N a)]), (12, .box 1 [.bool (Val.Null b), .int .i64 (Val.N b)])]⟩
    [] (by kernel_rfl) ?_ ?_
  · exact trivial
  refine AW.cond (b := ((Val.Null a) != (Val.Null b))) (by kernel_rfl) ?_ ?_
  · intro h1
    have h1q : ((Val.Null a) != (Val.Null b)) = true := h1
    have e2 := e0.trans (Go.Am.bif_t h1)
    refine AW.seq ?_
    refine AW.reg hC  false [] [4] []
      ⟨[(4, .bool false)], []⟩
      [] (by kernel_rfl) ?_ ?_
    · exact trivial
    refine AW.ret ?_
    exact AW.retE (β := Bool) (fun v => [⟨.bool, v⟩]) (fun v => []) (v := false) e2 (by kernel_rfl) rfl rfl
  · intro h3
    have h3q : ((Val.Null a) != (Val.Null b)) = false := h3
    have e4 := e0.trans (Go.Am.bif_f h3)
    refine AW.keep [2, 3] [8, 12] ⟨[(2, .ref 8 1 0), (3, .ref 12 1 0)], [(8, .box 1 [.bool (Val.Null a), .int .i64 (Val.N a)]), (12, .box 1 [.bool (Val.Null b), .int .i64 (Val.N b)])]⟩ (by kernel_rfl) ?_
    refine AW.skip ?_
    refine AW.seq ?_
    refine AW.seq ?_
    refine AW.reg hC  false [] [14] []
      ⟨[(14, .bool ((Val.N a) != (Val.N b)))], []⟩
      [] (by kernel_rfl) ?_ ?_
    · exact trivial
    refine AW.cond (b := ((Val.N a) != (Val.N b))) (by kernel_rfl) ?_ ?_
    · intro h5
      have h5q : (Val.N a) ≠ (Val.N b) := (Go.Am.bne_pos h5)
      have e6 := e4.trans (Go.Am.bif_t h5)
      refine AW.seq ?_
      refine AW.reg hC  false [] [4] []
        ⟨[(4, .bool false)], []⟩
        [] (by kernel_rfl) ?_ ?_
      · exact trivial
      refine AW.ret ?_
      exact AW.retE (β := Bool) (fun v => [⟨.bool, v⟩]) (fun v => []) (v := false) e6 (by kernel_rfl) rfl rfl
    · intro h7
      have h7q : (Val.N a) = (Val.N b) := (Go.Am.bne_neg h7)
      have e8 := e4.trans (Go.Am.bif_f h7)
      refine AW.keep [] [] ⟨[], []⟩ (by kernel_rfl) ?_
      refine AW.skip ?_
      refine AW.seq ?_
      refine AW.reg hC  false [] [4] []
        ⟨[(4, .bool true)], []⟩
        [] (by kernel_rfl) ?_ ?_
      · exact trivial
      refine AW.ret ?_
      exact AW.retE (β := Bool) (fun v => [⟨.bool, v⟩]) (fun v => []) (v := true) e8 (by kernel_rfl) rfl rfl

def eqValueS_l0 (a : List Val) (b : List Val) : Nat → Nat → Unit ⊕ Bool
  | 0, i => .inl ()
  | k + 1, i => (bif (decide (((i : Nat) : Int) < ((List.length a : Nat) : Int))) then (bif (!(eqValue (List.getD a i Val.zero) (List.getD b i Val.zero))) then (.inr false) else (eqValueS_l0 a b k (i + 1))) else (.inl ()))

def eqValueS (a : List Val) (b : List Val) : Bool := (bif (((List.length a : Nat) : Int) != ((List.length b : Nat) : Int)) then false else (Sum.elim (fun _ => true) (fun r => r) (eqValueS_l0 a b ((List.length a) - 0 + 1) 0)))

def eqValueS_sp : FnSpec := mkSpec [.val (.slice (.named 1)), .val (.slice (.named 1))] [.val .bool] (fun (a : List Val) (b : List Val) => True) (fun (a : List Val) (b : List Val) => [⟨.bool, (eqValueS a b)⟩])

theorem eqValueS_ok : FnOK Try.prog 35 eqValueS_sp := by
  have hC : CtxOK Try.prog (mkCtx tyL [(46, eqValue_sp)]) := CtxOK.cons eqValue_ok (CtxOK.nil tyOK)
  have hM : Try.prog.follows .mixedOrders = true := Try.checked.mixed
  refine FnOK.of_body Try.func35 (by kernel_rfl) rfl (C := (mkCtx tyL [(46, eqValue_sp)])) hC.ty (by kernel_rfl) ?_
  intro (a : List Val) (b : List Val) hwf hpre E
  have hpre : True := hpre
  have hw_a : Wf ⟨(.slice (.named 1)), (a : List Val)⟩ := hwf _ (List.Mem.head _)
  have hl_a : ((List.length a : Nat) : Int) ≤ 9223372036854775807 := hw_a.len
  have hw_b : Wf ⟨(.slice (.named 1)), (b : List Val)⟩ := hwf _ (List.Mem.tail _ (List.Mem.head _))
  have hl_b : ((List.length b : Nat) : Int) ≤ 9223372036854775807 := hw_b.len
  have e0 : eqValueS a b = eqValueS a b := rfl
  refine AW.seq ?_
  refine AW.reg hC  false [] [0, 1] []
    ⟨[(0, .data (.slice (.named 1)) (a : List Val)), (1, .data (.slice (.named 1)) (b : List Val))], []⟩
    [] (by kernel_rfl) ?_ ?_
  · exact trivial
  refine AW.seq ?_
  refine AW.seq ?_
  refine AW.reg hC  false [] [0, 1, 10] []
    ⟨[(0, .data (.slice (.named 1)) (a : List Val)), (1, .data (.slice (.named 1)) (b : List Val)), (10, .bool (((List.length a : Nat) : Int) != ((List.length b : Nat) : Int)))], []⟩
    [] (by kernel_rfl) ?_ ?_
  · exact trivial
  refine AW.cond (b := (((List.length a : Nat) : Int) != ((List.length b : Nat) : Int))) (by kernel_rfl) ?_ ?_
  · intro h1
    have h1q : ((List.length a : Nat) : Int) ≠ ((List.length b : Nat) : Int) := (Go.Am.bne_pos h1)
    have e2 := e0.trans (Go.Am.bif_t h1)
    refine AW.seq ?_
    refine AW.reg hC  false [] [4] []
      ⟨[(4, .bool false)], []⟩
      [] (by kernel_rfl) ?_ ?_
    · exact trivial
    refine AW.ret ?_
    exact AW.retE (β := Bool) (fun v => [⟨.bool, v⟩]) (fun v => []) (v := false) e2 (by kernel_rfl) rfl rfl
  · intro h3
    have h3q : ((List.length a : Nat) : Int) = ((List.length b : Nat) : Int) := (Go.Am.bne_neg h3)
    have e4 := e0.trans (Go.Am.bif_f h3)
    refine AW.keep [0, 1] [] ⟨[(0, .data (.slice (.named 1)) (a : List Val)), (1, .data (.slice (.named 1)) (b : List Val))], []⟩ (by kernel_rfl) ?_
    refine AW.skip ?_
    refine AW.seq ?_
    refine AW.seq ?_
    refine AW.reg hC  false [] [0, 1, 5] []
      ⟨[(0, .data (.slice (.named 1)) (a : List Val)), (1, .data (.slice (.named 1)) (b : List Val)), (5, .int .i64 0)], []⟩
      [] (by kernel_rfl) ?_ ?_
    · exact trivial
    refine AW.cutQ (α := Unit) (fun x => ⟨[], []⟩) (fun x => (True) ∧ (eqValueS_l0 a b ((List.length a) - 0 + 1) 0) = (.inl ())) ?_ ?_
    · skip
      refine AW.block ?_
      refine AW.loop (α := Nat) (fun x => ⟨[(0, .data (.slice (.named 1)) (a : List Val)), (1, .data (.slice (.named 1)) (b : List Val)), (5, .int .i64 ((x : Nat) : Int))], []⟩) (fun x => (True) ∧ ∃ k, (List.length a) - x < k ∧ (eqValueS_l0 a b ((List.length a) - 0 + 1) 0) = eqValueS_l0 a b k x) (fun x => (List.length a) - x) 0 (by kernel_rfl) ⟨?_, _, Nat.lt_succ_self _, rfl⟩ ?_
      · show True
        first | exact trivial | (refine ⟨?_, ?_⟩ <;> first | omega | simp) | omega | simp
      · intro i hR
        obtain ⟨hI0, k34, hk32, e33⟩ := hR
        replace hI0 : True := hI0
        replace hk32 : (List.length a) - i < k34 := hk32
        obtain ⟨k34q, rfl⟩ : ∃ k, k34 = k + 1 := ⟨k34 - 1, by omega⟩
        refine AW.seq ?_
        refine AW.seq ?_
        refine AW.reg hC  false [] [0, 1, 5, 14] []
          ⟨[(0, .data (.slice (.named 1)) (a : List Val)), (1, .data (.slice (.named 1)) (b : List Val)), (5, .int .i64 ((i : Nat) : Int)), (14, .bool (decide (((i : Nat) : Int) < ((List.length a : Nat) : Int))))], []⟩
          [] (by kernel_rfl) ?_ ?_
        · exact trivial
        refine AW.cond (b := (decide (((i : Nat) : Int) < ((List.length a : Nat) : Int)))) (by kernel_rfl) ?_ ?_
        · intro h35
          have h35q : ((i : Nat) : Int) < ((List.length a : Nat) : Int) := (of_decide_eq_true h35)
          have e36 := e33.trans (Go.Am.bif_t h35)
          refine AW.keep [0, 1, 5] [] ⟨[(0, .data (.slice (.named 1)) (a : List Val)), (1, .data (.slice (.named 1)) (b : List Val)), (5, .int .i64 ((i : Nat) : Int))], []⟩ (by kernel_rfl) ?_
          refine AW.skip ?_
          refine AW.seq ?_
          refine AW.block ?_
          refine AW.seq ?_
          refine AW.regD hC hM  false [] [0, 1, 5, 26] []
            ⟨[(0, .data (.slice (.named 1)) (a : List Val)), (1, .data (.slice (.named 1)) (b : List Val)), (5, .int .i64 ((i : Nat) : Int)), (26, .bool (!(eqValue (List.getD a i Val.zero) (List.getD b i Val.zero))))], []⟩
            [(0 ≤ ((i : Nat) : Int) ∧ ((i : Nat) : Int) < ((List.length a : Nat) : Int)), (0 ≤ ((i : Nat) : Int) ∧ ((i : Nat) : Int) < ((List.length b : Nat) : Int)), (True)] (by kernel_rfl) ?_ ?_
          · refine ⟨?_, ?_, ?_, trivial⟩
            ·
              first | omega | (dsimp only; omega) | (simp only [lens] at *; omega)
            ·
              first | omega | (dsimp only; omega) | (simp only [lens] at *; omega)
            · trivial
          refine AW.cond (b := (!(eqValue (List.getD a i Val.zero) (List.getD b i Val.zero)))) (by kernel_rfl) ?_ ?_
          · intro h37
            have h37q : (eqValue (List.getD a i Val.zero) (List.getD b i Val.zero)) = false := (Go.Am.not_pos h37)
            have e38 := e36.trans (Go.Am.bif_t h37)
            refine AW.seq ?_
            refine AW.reg hC  false [] [4] []
              ⟨[(4, .bool false)], []⟩
              [] (by kernel_rfl) ?_ ?_
            · exact trivial
            refine AW.ret ?_
            have e39 := e4.trans (Go.Am.elim_r e38)
            exact AW.retE (β := Bool) (fun v => [⟨.bool, v⟩]) (fun v => []) (v := false) e39 (by kernel_rfl) rfl rfl
          · intro h40
            have h40q : (eqValue (List.getD a i Val.zero) (List.getD b i Val.zero)) = true := (Go.Am.not_neg h40)
            have e41 := e36.trans (Go.Am.bif_f h40)
            refine AW.keep [0, 1, 5] [] ⟨[(0, .data (.slice (.named 1)) (a : List Val)), (1, .data (.slice (.named 1)) (b : List Val)), (5, .int .i64 ((i : Nat) : Int))], []⟩ (by kernel_rfl) ?_
            refine AW.skip ?_
            refine AW.reg hC  false [] [0, 1, 5] []
              ⟨[(0, .data (.slice (.named 1)) (a : List Val)), (1, .data (.slice (.named 1)) (b : List Val)), (5, .int .i64 ((i + 1 : Nat) : Int))], []⟩
              [(-9223372036854775808 ≤ ((i + 1 : Nat) : Int) ∧ ((i + 1 : Nat) : Int) ≤ 9223372036854775807)] (by kernel_rfl) ?_ ?_
            · refine ⟨?_, trivial⟩
              ·
                first | omega | (dsimp only; omega) | (simp only [lens] at *; omega)
            refine AW.back (x := i) (i + 1) (by kernel_rfl) ⟨?_, k34q, ?_, e41⟩ ?_
            · show True
              first | assumption | exact trivial | (refine ⟨?_, ?_⟩ <;> first | omega | (simp only [lens] at *; omega)) | omega | (simp only [lens] at *; omega)
            · show (List.length a) - (i + 1) < k34q
              first | omega | (simp only [lens]; omega)
            · show (List.length a) - (i + 1) < (List.length a) - i
              first | omega | (simp only [lens]; omega)
        · intro h42
          have h42q : ¬ (((i : Nat) : Int) < ((List.length a : Nat) : Int)) := (of_decide_eq_false h42)
          have e43 := e33.trans (Go.Am.bif_f h42)
          refine AW.keep [] [] ⟨[], []⟩ (by kernel_rfl) ?_
          refine AW.exit ?_
          refine AW.meet () (by kernel_rfl) ⟨?_, e43⟩
          show True
          first | assumption | exact trivial | omega
    · intro x hR
      obtain ⟨hJ0, e44⟩ := hR
      replace hJ0 : True := hJ0
      have e45 := e4.trans (Go.Am.elim_l e44)
      refine AW.seq ?_
      refine AW.reg hC  false [] [4] []
        ⟨[(4, .bool true)], []⟩
        [] (by kernel_rfl) ?_ ?_
      · exact trivial
      refine AW.ret ?_
      exact AW.retE (β := Bool) (fun v => [⟨.bool, v⟩]) (fun v => []) (v := true) e45 (by kernel_rfl) rfl rfl

def eqValueSS_l0 (a : List (List Val)) (b : List (List Val)) : Nat → Nat → Unit ⊕ Bool
  | 0, i => .inl ()
  | k + 1, i => (bif (decide (((i : Nat) : Int) < ((List.length a : Nat) : Int))) then (bif (!(eqValueS (List.getD a i []) (List.getD b i []))) then (.inr false) else (eqValueSS_l0 a b k (i + 1))) else (.inl ()))

def eqValueSS (a : List (List Val)) (b : List (List Val)) : Bool := (bif (((List.length a : Nat) : Int) != ((List.length b : Nat) : Int)) then false else (Sum.elim (fun _ => true) (fun r => r) (eqValueSS_l0 a b ((List.length a) - 0 + 1) 0)))

def eqValueSS_sp : FnSpec := mkSpec [.val (.slice (.slice (.named 1))), .val (.slice (.slice (.named 1)))] [.val .bool] (fun (a : List (List Val)) (b : List (List Val)) => True) (fun (a : List (List Val)) (b : List (List Val)) => [⟨.bool, (eqValueSS a b)⟩])

theorem eqValueSS_ok : FnOK Try.prog 20 eqValueSS_sp := by
  have hC : CtxOK Try.prog (mkCtx tyL [(35, eqValueS_sp)]) := CtxOK.cons eqValueS_ok (CtxOK.nil tyOK)
  have hM : Try.prog.follows .mixedOrders = true := Try.checked.mixed
  refine FnOK.of_body Try.func20 (by kernel_rfl) rfl (C := (mkCtx tyL [(35, eqValueS_sp)])) hC.ty (by kernel_rfl) ?_
  intro (a : List (List Val)) (b : List (List Val)) hwf hpre E
  have hpre : True := hpre
  have hw_a : Wf ⟨(.slice (.slice (.named 1))), (a : List (List Val))⟩ := hwf _ (List.Mem.head _)
  have hl_a : ((List.length a : Nat) : Int) ≤ 9223372036854775807 := hw_a.len
  have hw_b : Wf ⟨(.slice (.slice (.named 1))), (b : List (List Val))⟩ := hwf _ (List.Mem.tail _ (List.Mem.head _))
  have hl_b : ((List.length b : Nat) : Int) ≤ 9223372036854775807 := hw_b.len
  have e0 : eqValueSS a b = eqValueSS a b := rfl
  refine AW.seq ?_
  refine AW.reg hC  false [] [0, 1] []
    ⟨[(0, .data (.slice (.slice (.named 1))) (a : List (List Val))), (1, .data (.slice (.slice (.named 1))) (b : List (List Val)))], []⟩
    [] (by kernel_rfl) ?_ ?_
  · exact trivial
  refine AW.seq ?_
  refine AW.seq ?_
  refine AW.reg hC  false [] [0, 1, 10] []
    ⟨[(0, .data (.slice (.slice (.named 1))) (a : List (List Val))), (1, .data (.slice (.slice (.named 1))) (b : List (List Val))), (10, .bool (((List.length a : Nat) : Int) != ((List.length b : Nat) : Int)))], []⟩
    [] (by kernel_rfl) ?_ ?_
  · exact trivial
  refine AW.cond (b := (((List.length a : Nat) : Int) != ((List.length b : Nat) : Int))) (by kernel_rfl) ?_ ?_
  · intro h1
    have h1q : ((List.length a : Nat) : Int) ≠ ((List.length b : Nat) : Int) := (Go.Am.bne_pos h1)
    have e2 := e0.trans (Go.Am.bif_t h1)
    refine AW.seq ?_
    refine AW.reg hC  false [] [4] []
      ⟨[(4, .bool false)], []⟩
      [] (by kernel_rfl) ?_ ?_
    · exact trivial
    refine AW.ret ?_
    exact AW.retE (β := Bool) (fun v => [⟨.bool, v⟩]) (fun v => []) (v := false) e2 (by kernel_rfl) rfl rfl
  · intro h3
    have h3q : ((List.length a : Nat) : Int) = ((List.length b : Nat) : Int) := (Go.Am.bne_neg h3)
    have e4 := e0.trans (Go.Am.bif_f h3)
    refine AW.keep [0, 1] [] ⟨[(0, .data (.slice (.slice (.named 1))) (a : List (List Val))), (1, .data (.slice (.slice (.named 1))) (b : List (List Val)))], []⟩ (by kernel_rfl) ?_
    refine AW.skip ?_
    refine AW.seq ?_
    refine AW.seq ?_
    refine AW.reg hC  false [] [0, 1, 5] []
      ⟨[(0, .data (.slice (.slice (.named 1))) (a : List (List Val))), (1, .data (.slice (.slice (.named 1))) (b : List (List Val))), (5, .int .i64 0)], []⟩
      [] (by kernel_rfl) ?_ ?_
    · exact trivial
    refine AW.cutQ (α := Unit) (fun x => ⟨[], []⟩) (fun x => (True) ∧ (eqValueSS_l0 a b ((List.length a) - 0 + 1) 0) = (.inl ())) ?_ ?_
    · skip
      refine AW.block ?_
      refine AW.loop (α := Nat) (fun x => ⟨[(0, .data (.slice (.slice (.named 1))) (a : List (List Val))), (1, .data (.slice (.slice (.named 1))) (b : List (List Val))), (5, .int .i64 ((x : Nat) : Int))], []⟩) (fun x => (True) ∧ ∃ k, (List.length a) - x < k ∧ (eqValueSS_l0 a b ((List.length a) - 0 + 1) 0) = eqValueSS_l0 a b k x) (fun x => (List.length a) - x) 0 (by kernel_rfl) ⟨?_, _, Nat.lt_succ_self _, rfl⟩ ?_
      · show True
        first | exact trivial | (refine ⟨?_, ?_⟩ <;> first | omega | simp) | omega | simp
      · intro i hR
        obtain ⟨hI0, k34, hk32, e33⟩ := hR
        replace hI0 : True := hI0
        replace hk32 : (List.length a) - i < k34 := hk32
        obtain ⟨k34q, rfl⟩ : ∃ k, k34 = k + 1 := ⟨k34 - 1, by omega⟩
        refine AW.seq ?_
        refine AW.seq ?_
        refine AW.reg hC  false [] [0, 1, 5, 14] []
          ⟨[(0, .data (.slice (.slice (.named 1))) (a : List (List Val))), (1, .data (.slice (.slice (.named 1))) (b : List (List Val))), (5, .int .i64 ((i : Nat) : Int)), (14, .bool (decide (((i : Nat) : Int) < ((List.length a : Nat) : Int))))], []⟩
          [] (by kernel_rfl) ?_ ?_
        · exact trivial
        refine AW.cond (b := (decide (((i : Nat) : Int) < ((List.length a : Nat) : Int)))) (by kernel_rfl) ?_ ?_
        · intro h35
          have h35q : ((i : Nat) : Int) < ((List.length a : Nat) : Int) := (of_decide_eq_true h35)
          have e36 := e33.trans (Go.Am.bif_t h35)
          refine AW.keep [0, 1, 5] [] ⟨[(0, .data (.slice (.slice (.named 1))) (a : List (List Val))), (1, .data (.slice (.slice (.named 1))) (b : List (List Val))), (5, .int .i64 ((i : Nat) : Int))], []⟩ (by kernel_rfl) ?_
          refine AW.skip ?_
          refine AW.seq ?_
          refine AW.block ?_
          refine AW.seq ?_
          refine AW.regD hC hM  false [] [0, 1, 5, 26] []
            ⟨[(0, .data (.slice (.slice (.named 1))) (a : List (List Val))), (1, .data (.slice (.slice (.named 1))) (b : List (List Val))), (5, .int .i64 ((i : Nat) : Int)), (26, .bool (!(eqValueS (List.getD a i []) (List.getD b i []))))], []⟩
            [(0 ≤ ((i : Nat) : Int) ∧ ((i : Nat) : Int) < ((List.length a : Nat) : Int)), (0 ≤ ((i : Nat) : Int) ∧ ((i : Nat) : Int) < ((List.length b : Nat) : Int)), (True)] (by kernel_rfl) ?_ ?_
          · refine ⟨?_, ?_, ?_, trivial⟩
            ·
              first | omega | (dsimp only; omega) | (simp only [lens] at *; omega)
            ·
              first | omega | (dsimp only; omega) | (simp only [lens] at *; omega)
            · trivial
          refine AW.cond (b := (!(eqValueS (List.getD a i []) (List.getD b i [])))) (by kernel_rfl) ?_ ?_
          · intro h37
            have h37q : (eqValueS (List.getD a i []) (List.getD b i [])) = false := (Go.Am.not_pos h37)
            have e38 := e36.trans (Go.Am.bif_t h37)
            refine AW.seq ?_
            refine AW.reg hC  false [] [4] []
              ⟨[(4, .bool false)], []⟩
              [] (by kernel_rfl) ?_ ?_
            · exact trivial
            refine AW.ret ?_
            have e39 := e4.trans (Go.Am.elim_r e38)
            exact AW.retE (β := Bool) (fun v => [⟨.bool, v⟩]) (fun v => []) (v := false) e39 (by kernel_rfl) rfl rfl
          · intro h40
            have h40q : (eqValueS (List.getD a i []) (List.getD b i [])) = true := (Go.Am.not_neg h40)
            have e41 := e36.trans (Go.Am.bif_f h40)
            refine AW.keep [0, 1, 5] [] ⟨[(0, .data (.slice (.slice (.named 1))) (a : List (List Val))), (1, .data (.slice (.slice (.named 1))) (b : List (List Val))), (5, .int .i64 ((i : Nat) : Int))], []⟩ (by kernel_rfl) ?_
            refine AW.skip ?_
            refine AW.reg hC  false [] [0, 1, 5] []
              ⟨[(0, .data (.slice (.slice (.named 1))) (a : List (List Val))), (1, .data (.slice (.slice (.named 1))) (b : List (List Val))), (5, .int .i64 ((i + 1 : Nat) : Int))], []⟩
              [(-9223372036854775808 ≤ ((i + 1 : Nat) : Int) ∧ ((i + 1 : Nat) : Int) ≤ 9223372036854775807)] (by kernel_rfl) ?_ ?_
            · refine ⟨?_, trivial⟩
              ·
                first | omega | (dsimp only; omega) | (simp only [lens] at *; omega)
            refine AW.back (x := i) (i + 1) (by kernel_rfl) ⟨?_, k34q, ?_, e41⟩ ?_
            · show True
              first | assumption | exact trivial | (refine ⟨?_, ?_⟩ <;> first | omega | (simp only [lens] at *; omega)) | omega | (simp only [lens] at *; omega)
            · show (List.length a) - (i + 1) < k34q
              first | omega | (simp only [lens]; omega)
            · show (List.length a) - (i + 1) < (List.length a) - i
              first | omega | (simp only [lens]; omega)
        · intro h42
          have h42q : ¬ (((i : Nat) : Int) < ((List.length a : Nat) : Int)) := (of_decide_eq_false h42)
          have e43 := e33.trans (Go.Am.bif_f h42)
          refine AW.keep [] [] ⟨[], []⟩ (by kernel_rfl) ?_
          refine AW.exit ?_
          refine AW.meet () (by kernel_rfl) ⟨?_, e43⟩
          show True
          first | assumption | exact trivial | omega
    · intro x hR
      obtain ⟨hJ0, e44⟩ := hR
      replace hJ0 : True := hJ0
      have e45 := e4.trans (Go.Am.elim_l e44)
      refine AW.seq ?_
      refine AW.reg hC  false [] [4] []
        ⟨[(4, .bool true)], []⟩
        [] (by kernel_rfl) ?_ ?_
      · exact trivial
      refine AW.ret ?_
      exact AW.retE (β := Bool) (fun v => [⟨.bool, v⟩]) (fun v => []) (v := true) e45 (by kernel_rfl) rfl rfl

def eqTable (a : Tab) (b : Tab) : Bool := (bif ((Tab.Width a) != (Tab.Width b)) then false else (bif (!(eqValueSS (Tab.Rows a) (Tab.Rows b))) then false else true))

def eqTable_sp : FnSpec := mkSpec [.val (.named 2), .val (.named 2)] [.val .bool] (fun (a : Tab) (b : Tab) => True) (fun (a : Tab) (b : Tab) => [⟨.bool, (eqTable a b)⟩])

theorem eqTable_ok : FnOK Try.prog 10 eqTable_sp := by
  have hC : CtxOK Try.prog (mkCtx tyL [(20, eqValueSS_sp)]) := CtxOK.cons eqValueSS_ok (CtxOK.nil tyOK)
  refine FnOK.of_body Try.func10 (by kernel_rfl) rfl (C := (mkCtx tyL [(20, eqValueSS_sp)])) hC.ty (by kernel_rfl) ?_
  intro (a : Tab) (b : Tab) hwf hpre E
  have hpre : True := hpre
  have hw_a : Wf ⟨(.named 2), (a : Tab)⟩ := hwf _ (List.Mem.head _)
  have hr_a_Width : -9223372036854775808 ≤ Tab.Width a ∧ Tab.Width a ≤ 9223372036854775807 := (hw_a.field (tv := ⟨(.int .i64), Tab.Width a⟩) (List.Mem.head _)).int_inv
  have hl_a_Rows : ((List.length (Tab.Rows a) : Nat) : Int) ≤ 9223372036854775807 := (hw_a.field (tv := ⟨(.slice (.slice (.named 1))), Tab.Rows a⟩) (List.Mem.tail _ (List.Mem.head _))).len
  have hw_b : Wf ⟨(.named 2), (b : Tab)⟩ := hwf _ (List.Mem.tail _ (List.Mem.head _))
  have hr_b_Width : -9223372036854775808 ≤ Tab.Width b ∧ Tab.Width b ≤ 9223372036854775807 := (hw_b.field (tv := ⟨(.int .i64), Tab.Width b⟩) (List.Mem.head _)).int_inv
  have hl_b_Rows : ((List.length (Tab.Rows b) : Nat) : Int) ≤ 9223372036854775807 := (hw_b.field (tv := ⟨(.slice (.slice (.named 1))), Tab.Rows b⟩) (List.Mem.tail _ (List.Mem.head _))).len
  have e0 : eqTable a b = eqTable a b := rfl
  refine AW.seq ?_
  refine AW.reg hC  false [] [2, 3] [8, 12]
    ⟨[(2, .ref 8 1 0), (3, .ref 12 1 0)], [(8, .box 1 [.int .i64 (Tab.Width a), .data (.slice (.slice (.named 1))) ((Tab.Rows a) : List (List Val))]), (12, .box 1 [.int .i64 (Tab.Width b), .data (.slice (.slice (.named 1))) ((Tab.Rows b) : List (List Val))])]⟩
    [] (by kernel_rfl) ?_ ?_
  · exact trivial
  refine AW.seq ?_
  refine AW.seq ?_
  refine AW.reg hC  false [] [2, 3, 9] [8, 12]
    ⟨[(2, .ref 8 1 0), (3, .ref 12 1 0), (9, .bool ((Tab.Width a) != (Tab.Width b)))], [(8, .box 1 [.int .i64 (Tab.Width a), .data (.slice (.slice (.named 1))) ((Tab.Rows a) : List (List Val))]), (12, .box 1 [.int .i64 (Tab.Width b), .data (.slice (.slice (.named 1))) ((Tab.Rows b) : List (List Val))])]⟩
    [] (by kernel_rfl) ?_ ?_
  · exact trivial
  refine AW.cond (b := ((Tab.Width a) != (Tab.Width b))) (by kernel_rfl) ?_ ?_
  · intro h1
    have h1q : (Tab.Width a) ≠ (Tab.Width b) := (Go.Am.bne_pos h1)
    have e2 := e0.trans (Go.Am.bif_t h1)
    refine AW.seq ?_
    refine AW.reg hC  false [] [4] []
      ⟨[(4, .bool false)], []⟩
      [] (by kernel_rfl) ?_ ?_
    · exact trivial
    refine AW.ret ?_
    exact AW.retE (β := Bool) (fun v => [⟨.bool, v⟩]) (fun v => []) (v := false) e2 (by kernel_rfl) rfl rfl
  · intro h3
    have h3q : (Tab.Width a) = (Tab.Width b) := (Go.Am.bne_neg h3)
    have e4 := e0.trans (Go.Am.bif_f h3)
    refine AW.keep [2, 3] [8, 12] ⟨[(2, .ref 8 1 0), (3, .ref 12 1 0)], [(8, .box 1 [.int .i64 (Tab.Width a), .data (.slice (.slice (.named 1))) ((Tab.Rows a) : List (List Val))]), (12, .box 1 [.int .i64 (Tab.Width b), .data (.slice (.slice (.named 1))) ((Tab.Rows b) : List (List Val))])]⟩ (by kernel_rfl) ?_
    refine AW.skip ?_
    refine AW.seq ?_
    refine AW.seq ?_
    refine AW.reg hC  false [] [15] []
      ⟨[(15, .bool (!(eqValueSS (Tab.Rows a) (Tab.Rows b))))], []⟩
      [(True)] (by kernel_rfl) ?_ ?_
    · refine ⟨?_, trivial⟩
      · trivial
    refine AW.cond (b := (!(eqValueSS (Tab.Rows a) (Tab.Rows b)))) (by kernel_rfl) ?_ ?_
    · intro h5
      have h5q : (eqValueSS (Tab.Rows a) (Tab.Rows b)) = false := (Go.Am.not_pos h5)
      have e6 := e4.trans (Go.Am.bif_t h5)
      refine AW.seq ?_
      refine AW.reg hC  false [] [4] []
        ⟨[(4, .bool false)], []⟩
        [] (by kernel_rfl) ?_ ?_
      · exact trivial
      refine AW.ret ?_
      exact AW.retE (β := Bool) (fun v => [⟨.bool, v⟩]) (fun v => []) (v := false) e6 (by kernel_rfl) rfl rfl
    · intro h7
      have h7q : (eqValueSS (Tab.Rows a) (Tab.Rows b)) = true := (Go.Am.not_neg h7)
      have e8 := e4.trans (Go.Am.bif_f h7)
      refine AW.keep [] [] ⟨[], []⟩ (by kernel_rfl) ?_
      refine AW.skip ?_
      refine AW.seq ?_
      refine AW.reg hC  false [] [4] []
        ⟨[(4, .bool true)], []⟩
        [] (by kernel_rfl) ?_ ?_
      · exact trivial
      refine AW.ret ?_
      exact AW.retE (β := Bool) (fun v => [⟨.bool, v⟩]) (fun v => []) (v := true) e8 (by kernel_rfl) rfl rfl

end
end Go.Proofs.Ytgbmdnnojgbagaa
