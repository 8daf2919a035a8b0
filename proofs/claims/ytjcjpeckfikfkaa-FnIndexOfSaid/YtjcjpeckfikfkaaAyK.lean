/-
  A part of the proof of this claim (AyK): what functions of the program compute, and plain facts of that. No conditions.
-/
import Derived.Test.YtjcjpeckfikfkaaAyJ
set_option linter.all false
namespace Go.Proofs.Ytjcjpeckfikfkaa
open Go Go.Am
noncomputable section

def LI (t : Tab) (l : List Int) (i : Nat) : Prop := (l.Pairwise (· < ·) ∧ ∀ x ∈ l, 0 ≤ x ∧ x < (i : Int)) ∧ l.length ≤ i

theorem LI.add {t : Tab} {l : List Int} {i : Nat} (h : LI t l i) : LI t (l ++ ([((i : Nat) : Int)] : List Int)) (i + 1) := by
 refine ⟨⟨List.pairwise_append.2 ⟨h.1.1, List.pairwise_singleton _ _, fun a ha b hb => ?_⟩, fun x hx => ?_⟩, ?_⟩
 ·
  rw [List.mem_singleton.1 hb]
  exact (h.1.2 a ha).2
 ·
  rcases List.mem_append.1 hx with hx | hx
  ·
   have := h.1.2 x hx
   omega
  ·
   rw [List.mem_singleton.1 hx]
   omega
 ·
  rw [List.length_append]
  have := h.2
  simp only [List.length_cons, List.length_nil]
  omega

theorem LI.next {t : Tab} {l : List Int} {i : Nat} (h : LI t l i) : LI t l (i + 1) :=
 ⟨⟨h.1.1, fun x hx => by have := h.1.2 x hx; omega⟩, by have := h.2; omega⟩

theorem col_at {t : Tab} {col : Int} (h : hasColumn t col = true) : 0 ≤ col ∧ ∀ k, k < List.length t.Rows → col < (List.length (List.getD t.Rows k []) : Int) := by
 have hc := (hasColumn_iff.1 h)
 exact ⟨hc.2.1, fun k hk => (col_ok h _ (getD_mem _ _ _ hk)).2⟩

def iIndexOf_l0 (t : Tab) (col : Int) : Nat → Nat → (List Int) → (List Int)
 | 0, v15, list => list
 | k + 1, v15, list => (bif (decide (((v15 : Nat) : Int) < ((List.length (Tab.Rows t) : Nat) : Int))) then (bif (!(Val.Null (List.getD (List.getD (Tab.Rows t) v15 []) (Int.toNat col) Val.zero))) then (iIndexOf_l0 t col k (v15 + 1) (list ++ ([((v15 : Nat) : Int)] : List Int))) else (iIndexOf_l0 t col k (v15 + 1) list)) else list)

def iIndexOf (t : Tab) (col : Int) : (List Int) := (bif (!(hasColumn t col)) then ([] : List Int) else (Go.Am.andThen (iIndexOf_l0 t col ((List.length (Tab.Rows t)) - 0 + 1) 0 ([] : List Int)) (fun z => (fun (list : List Int) => (idxSort t col list)) z)))

def iIndexOf_sp : FnSpec := mkSpec [.val (.named 2), .val (.int .i64)] [.own (.int .i64)] (fun (t : Tab) (col : Int) => List.length t.Rows < 20) (fun (t : Tab) (col : Int) => [⟨(.slice (.int .i64)), (iIndexOf t col)⟩])

theorem iIndexOf_ok : FnOK Try.prog 40 iIndexOf_sp := by
 have hC : CtxOK Try.prog (mkCtx tyL [(84, hasColumn_sp)]) := CtxOK.cons hasColumn_ok (CtxOK.nil tyOK)
 refine FnOK.of_body Try.func40 (by kernel_rfl) rfl (C := (mkCtx tyL [(84, hasColumn_sp)])) hC.ty (by kernel_rfl) ?_
 intro (t : Tab) (col : Int) hwf hpre E
 have hpre : List.length t.Rows < 20 := hpre
 have hw_t : Wf ⟨(.named 2), (t : Tab)⟩ := hwf _ (List.Mem.head _)
 have hr_t_Width : -9223372036854775808 ≤ Tab.Width t ∧ Tab.Width t ≤ 9223372036854775807 := (hw_t.field (tv := ⟨(.int .i64), Tab.Width t⟩) (List.Mem.head _)).int_inv
 have hl_t_Rows : ((List.length (Tab.Rows t) : Nat) : Int) ≤ 9223372036854775807 := (hw_t.field (tv := ⟨(.slice (.slice (.named 1))), Tab.Rows t⟩) (List.Mem.tail _ (List.Mem.head _))).len
 have hw_col : Wf ⟨(.int .i64), (col : Int)⟩ := hwf _ (List.Mem.tail _ (List.Mem.head _))
 have hr_col : -9223372036854775808 ≤ col ∧ col ≤ 9223372036854775807 := hw_col.int_inv
 have e0 : iIndexOf t col = iIndexOf t col := rfl
 refine AW.seq (AW.regionO [0, 1, 2] (by rfl) ?_)
 refine AWO.boxD (t := (.named 2)) (sv := .data (.named 2) (t : Tab)) (y := (t : Tab)) (by rfl) (by rfl) (by kernel_rfl) (by kernel_rfl) (by kernel_rfl) ?_
 refine AWO.keep [1, 2] [] ⟨[(1, .int .i64 col), (2, .dref (.named 2) (t : Tab))], []⟩ (by kernel_rfl) ?_
 refine AWO.boxD (t := (.int .i64)) (sv := .int .i64 col) (y := (col : Int)) (by rfl) (by rfl) (by kernel_rfl) (by kernel_rfl) (by kernel_rfl) ?_
 refine AWO.keep [2, 3] [] ⟨[(2, .dref (.named 2) (t : Tab)), (3, .dref (.int .i64) (col : Int))], []⟩ (by kernel_rfl) ?_
 refine AWO.run hC false [] [2] [] [2, 3] []
  ⟨[(2, .dref (.named 2) (t : Tab)), (3, .dref (.int .i64) (col : Int))], []⟩
  [] (by rfl) (by kernel_rfl) ?_ ?_
 ·
  exact trivial
 refine AWO.nil ?_
 refine AW.seq (AW.seq (AW.r0 hC [2, 3, 11] [] ⟨[(2, .dref (.named 2) (t : Tab)), (3, .dref (.int .i64) (col : Int)), (11, .bool (!(hasColumn t col)))], []⟩ [(True)] ?_ ?_))
 ·
  refine ⟨?_, trivial⟩
  ·
   trivial
 refine AW.cd (!(hasColumn t col)) ?_ ?_
 ·
  intro h1
  have h1q : (hasColumn t col) = false := (Go.Am.not_pos h1)
  have e2 := e0.trans (Go.Am.bif_t h1)
  refine AW.seq (AW.r1 hC [4] [] ⟨[(4, .nilsl)], []⟩ ?_)
  exact AW.ret (AW.retE (β := (List Int)) (fun v => [⟨(.slice (.int .i64)), v⟩]) (fun v => []) (v := ([] : List Int)) e2 (by kernel_rfl) rfl rfl)
 ·
  intro h3
  have h3q : (hasColumn t col) = true := (Go.Am.not_neg h3)
  have e4 := e0.trans (Go.Am.bif_f h3)
  refine AW.kp [2, 3] [] ⟨[(2, .dref (.named 2) (t : Tab)), (3, .dref (.int .i64) (col : Int))], []⟩ ?_
  refine AW.skip (AW.seq ?_)
  have hkp := col_at h3q
  refine AW.r1 hC [2, 3, 5] [] ⟨[(2, .dref (.named 2) (t : Tab)), (3, .dref (.int .i64) (col : Int)), (5, .nilsl)], []⟩ ?_
  refine AW.seq (AW.seq (AW.r1 hC [2, 3, 5, 13, 14, 15] [] ⟨[(2, .dref (.named 2) (t : Tab)), (3, .dref (.int .i64) (col : Int)), (5, .nilsl), (13, .data (.slice (.slice (.named 1))) ((Tab.Rows t) : List (List Val))), (14, .int .i64 ((List.length (Tab.Rows t) : Nat) : Int)), (15, .int .i64 0)], []⟩ ?_))
  refine AW.adopt 5 116 (.int .i64) (by kernel_rfl) (by kernel_rfl) ?_
  refine AW.kp [2, 3, 5, 13, 14, 15] [116] ⟨[(2, .dref (.named 2) (t : Tab)), (3, .dref (.int .i64) (col : Int)), (5, .arr 116 1), (13, .data (.slice (.slice (.named 1))) ((Tab.Rows t) : List (List Val))), (14, .int .i64 ((List.length (Tab.Rows t) : Nat) : Int)), (15, .int .i64 0)], [(116, .arr 1 (.int .i64) (([] : List Int) : List Int))]⟩ ?_
  refine AW.cutQ (α := (List Int)) (fun x => ⟨[(2, .dref (.named 2) (t : Tab)), (3, .dref (.int .i64) (col : Int)), (5, .arr 116 1)], [(116, .arr 1 (.int .i64) (x : List Int))]⟩) (fun x => (LI t x (List.length t.Rows)) ∧ (iIndexOf_l0 t col ((List.length (Tab.Rows t)) - 0 + 1) 0 ([] : List Int)) = x) ?_ ?_
  ·
   skip
   refine AW.block (AW.loop (α := Nat × (List Int)) (fun x => ⟨[(2, .dref (.named 2) (t : Tab)), (3, .dref (.int .i64) (col : Int)), (5, .arr 116 1), (13, .data (.slice (.slice (.named 1))) ((Tab.Rows t) : List (List Val))), (14, .int .i64 ((List.length (Tab.Rows t) : Nat) : Int)), (15, .int .i64 ((x.1 : Nat) : Int))], [(116, .arr 1 (.int .i64) (x.2 : List Int))]⟩) (fun x => (LI t x.2 x.1 ∧ x.1 ≤ List.length t.Rows) ∧ ∃ k, (List.length (Tab.Rows t)) - x.1 < k ∧ (iIndexOf_l0 t col ((List.length (Tab.Rows t)) - 0 + 1) 0 ([] : List Int)) = iIndexOf_l0 t col k x.1 x.2) (fun x => (List.length (Tab.Rows t)) - x.1) (0, ([] : List Int)) (by kernel_rfl) ⟨?_, _, Nat.lt_succ_self _, rfl⟩ ?_)
   ·
    show LI t ([] : List Int) 0 ∧ 0 ≤ List.length t.Rows
    exact ⟨⟨⟨List.Pairwise.nil, fun x hx => by cases hx⟩, Nat.le_refl _⟩, Nat.zero_le _⟩
   ·
    intro x hR
    obtain ⟨v15, list⟩ := x
    obtain ⟨hI0, k39, hk37, e38⟩ := hR
    replace hI0 : LI t list v15 ∧ v15 ≤ List.length t.Rows := hI0
    replace hk37 : (List.length (Tab.Rows t)) - v15 < k39 := hk37
    obtain ⟨k39q, rfl⟩ : ∃ k, k39 = k + 1 := ⟨k39 - 1, by omega⟩
    have hli := hI0.1.2
    refine AW.seq (AW.r1 hC [2, 3, 5, 13, 14, 15, 16] [116] ⟨[(2, .dref (.named 2) (t : Tab)), (3, .dref (.int .i64) (col : Int)), (5, .arr 116 1), (13, .data (.slice (.slice (.named 1))) ((Tab.Rows t) : List (List Val))), (14, .int .i64 ((List.length (Tab.Rows t) : Nat) : Int)), (15, .int .i64 ((v15 : Nat) : Int)), (16, .bool (decide (((v15 : Nat) : Int) < ((List.length (Tab.Rows t) : Nat) : Int))))], [(116, .arr 1 (.int .i64) (list : List Int))]⟩ ?_)
    refine AW.seq (AW.cd (decide (((v15 : Nat) : Int) < ((List.length (Tab.Rows t) : Nat) : Int))) ?_ ?_)
    ·
     intro h40
     have h40q : ((v15 : Nat) : Int) < ((List.length (Tab.Rows t) : Nat) : Int) := (of_decide_eq_true h40)
     have e41 := e38.trans (Go.Am.bif_t h40)
     refine AW.kp [2, 3, 5, 13, 14, 15] [116] ⟨[(2, .dref (.named 2) (t : Tab)), (3, .dref (.int .i64) (col : Int)), (5, .arr 116 1), (13, .data (.slice (.slice (.named 1))) ((Tab.Rows t) : List (List Val))), (14, .int .i64 ((List.length (Tab.Rows t) : Nat) : Int)), (15, .int .i64 ((v15 : Nat) : Int))], [(116, .arr 1 (.int .i64) (list : List Int))]⟩ ?_
     refine AW.skip (AW.seq (AW.block (AW.seq (AW.r0 hC [2, 3, 5, 6, 7, 13, 14, 15] [116] ⟨[(2, .dref (.named 2) (t : Tab)), (3, .dref (.int .i64) (col : Int)), (5, .arr 116 1), (6, .int .i64 ((v15 : Nat) : Int)), (7, .data (.slice (.named 1)) ((List.getD (Tab.Rows t) v15 []) : List Val)), (13, .data (.slice (.slice (.named 1))) ((Tab.Rows t) : List (List Val))), (14, .int .i64 ((List.length (Tab.Rows t) : Nat) : Int)), (15, .int .i64 ((v15 : Nat) : Int))], [(116, .arr 1 (.int .i64) (list : List Int))]⟩ [(0 ≤ ((v15 : Nat) : Int) ∧ ((v15 : Nat) : Int) < ((List.length (Tab.Rows t) : Nat) : Int))] ?_ ?_))))
     ·
      refine ⟨?_, trivial⟩
      ·
       omega
     refine AW.seq (AW.r0 hC [2, 3, 5, 6, 13, 14, 15, 25] [116] ⟨[(2, .dref (.named 2) (t : Tab)), (3, .dref (.int .i64) (col : Int)), (5, .arr 116 1), (6, .int .i64 ((v15 : Nat) : Int)), (13, .data (.slice (.slice (.named 1))) ((Tab.Rows t) : List (List Val))), (14, .int .i64 ((List.length (Tab.Rows t) : Nat) : Int)), (15, .int .i64 ((v15 : Nat) : Int)), (25, .bool (!(Val.Null (List.getD (List.getD (Tab.Rows t) v15 []) (Int.toNat col) Val.zero))))], [(116, .arr 1 (.int .i64) (list : List Int))]⟩ [(0 ≤ col ∧ col < ((List.length (List.getD (Tab.Rows t) v15 []) : Nat) : Int))] ?_ ?_)
     ·
      refine ⟨?_, trivial⟩
      ·
       have := hkp.2 v15 (by omega)
       have := hkp.1
       omega
     refine AW.cd (!(Val.Null (List.getD (List.getD (Tab.Rows t) v15 []) (Int.toNat col) Val.zero))) ?_ ?_
     ·
      intro h42
      have h42q : (Val.Null (List.getD (List.getD (Tab.Rows t) v15 []) (Int.toNat col) Val.zero)) = false := (Go.Am.not_pos h42)
      have e43 := e41.trans (Go.Am.bif_t h42)
      refine AW.r0 hC [2, 3, 5, 13, 14, 15] [116] ⟨[(2, .dref (.named 2) (t : Tab)), (3, .dref (.int .i64) (col : Int)), (5, .arr 116 1), (13, .data (.slice (.slice (.named 1))) ((Tab.Rows t) : List (List Val))), (14, .int .i64 ((List.length (Tab.Rows t) : Nat) : Int)), (15, .int .i64 ((v15 : Nat) : Int))], [(116, .arr 1 (.int .i64) ((list ++ ([((v15 : Nat) : Int)] : List Int)) : List Int))]⟩ [(((List.length list : Nat) : Int) + ((List.length ([((v15 : Nat) : Int)] : List Int) : Nat) : Int) ≤ 4294967296)] ?_ ?_
      ·
       refine ⟨?_, trivial⟩
       ·
        simp only [List.length_cons, List.length_nil]; omega
      refine AW.r0 hC [2, 3, 5, 13, 14, 15] [116] ⟨[(2, .dref (.named 2) (t : Tab)), (3, .dref (.int .i64) (col : Int)), (5, .arr 116 1), (13, .data (.slice (.slice (.named 1))) ((Tab.Rows t) : List (List Val))), (14, .int .i64 ((List.length (Tab.Rows t) : Nat) : Int)), (15, .int .i64 ((v15 + 1 : Nat) : Int))], [(116, .arr 1 (.int .i64) ((list ++ ([((v15 : Nat) : Int)] : List Int)) : List Int))]⟩ [(-9223372036854775808 ≤ ((v15 + 1 : Nat) : Int) ∧ ((v15 + 1 : Nat) : Int) ≤ 9223372036854775807)] ?_ ?_
      ·
       refine ⟨?_, trivial⟩
       ·
        omega
      refine AW.back (x := (v15, list)) (v15 + 1, (list ++ ([((v15 : Nat) : Int)] : List Int))) (by kernel_rfl) ⟨?_, k39q, ?_, e43⟩ ?_
      ·
       show LI t (list ++ ([((v15 : Nat) : Int)] : List Int)) (v15 + 1) ∧ (v15 + 1) ≤ List.length t.Rows
       exact ⟨hI0.1.add, by omega⟩
      ·
       show (List.length (Tab.Rows t)) - (v15 + 1) < k39q
       omega
      ·
       show (List.length (Tab.Rows t)) - (v15 + 1) < (List.length (Tab.Rows t)) - v15
       omega
     ·
      intro h44
      have h44q : (Val.Null (List.getD (List.getD (Tab.Rows t) v15 []) (Int.toNat col) Val.zero)) = true := (Go.Am.not_neg h44)
      have e45 := e41.trans (Go.Am.bif_f h44)
      refine AW.kp [2, 3, 5, 13, 14, 15] [116] ⟨[(2, .dref (.named 2) (t : Tab)), (3, .dref (.int .i64) (col : Int)), (5, .arr 116 1), (13, .data (.slice (.slice (.named 1))) ((Tab.Rows t) : List (List Val))), (14, .int .i64 ((List.length (Tab.Rows t) : Nat) : Int)), (15, .int .i64 ((v15 : Nat) : Int))], [(116, .arr 1 (.int .i64) (list : List Int))]⟩ ?_
      refine AW.skip (AW.r0 hC [2, 3, 5, 13, 14, 15] [116] ⟨[(2, .dref (.named 2) (t : Tab)), (3, .dref (.int .i64) (col : Int)), (5, .arr 116 1), (13, .data (.slice (.slice (.named 1))) ((Tab.Rows t) : List (List Val))), (14, .int .i64 ((List.length (Tab.Rows t) : Nat) : Int)), (15, .int .i64 ((v15 + 1 : Nat) : Int))], [(116, .arr 1 (.int .i64) (list : List Int))]⟩ [(-9223372036854775808 ≤ ((v15 + 1 : Nat) : Int) ∧ ((v15 + 1 : Nat) : Int) ≤ 9223372036854775807)] ?_ ?_)
      ·
       refine ⟨?_, trivial⟩
       ·
        omega
      refine AW.back (x := (v15, list)) (v15 + 1, list) (by kernel_rfl) ⟨?_, k39q, ?_, e45⟩ ?_
      ·
       show LI t list (v15 + 1) ∧ (v15 + 1) ≤ List.length t.Rows
       exact ⟨hI0.1.next, by omega⟩
      ·
       show (List.length (Tab.Rows t)) - (v15 + 1) < k39q
       omega
      ·
       show (List.length (Tab.Rows t)) - (v15 + 1) < (List.length (Tab.Rows t)) - v15
       omega
    ·
     intro h46
     have h46q : ¬ (((v15 : Nat) : Int) < ((List.length (Tab.Rows t) : Nat) : Int)) := (of_decide_eq_false h46)
     have e47 := e38.trans (Go.Am.bif_f h46)
     refine AW.kp [2, 3, 5] [116] ⟨[(2, .dref (.named 2) (t : Tab)), (3, .dref (.int .i64) (col : Int)), (5, .arr 116 1)], [(116, .arr 1 (.int .i64) (list : List Int))]⟩ ?_
     refine AW.exit ?_
     refine AW.meet list (by kernel_rfl) ⟨?_, e47⟩
     show LI t list (List.length t.Rows)
     exact (show v15 = List.length t.Rows by omega) ▸ hI0.1
  ·
   intro list hR
   obtain ⟨hJ0, e48⟩ := hR
   replace hJ0 : LI t list (List.length t.Rows) := hJ0
   have e49 := e4.trans (Go.Am.then_eq e48)
   refine AW.seq (AW.regionO [0, 1, 2] (by rfl) ?_)
   refine AWO.run hC false [] [0, 1] [2] [5, 31, 32] [116]
    ⟨[(5, .arr 116 1), (31, .arr 116 1), (32, .clo 86 [.dref (.named 2) (t : Tab), .dref (.int .i64) (col : Int)])], [(116, .arr 1 (.int .i64) (list : List Int))]⟩
    [] (by rfl) (by kernel_rfl) ?_ ?_
   ·
    exact trivial
   refine AWO.sortK (id := 116) (ep := 1) (cp := [⟨(.named 2), (t : Tab)⟩, ⟨(.int .i64), (col : Int)⟩]) (xs := (list : List Int)) (idxSortOK t col) (by rfl) (by rfl) (by kernel_rfl) (by kernel_rfl) (by kernel_rfl) (by kernel_rfl) ?_ ?_
   ·
    show IPre t col list
    exact ⟨hJ0.1, by have := hJ0.2; omega, hkp⟩
   refine AWO.keep [5] [116] ⟨[(5, .arr 116 1)], [(116, .arr 1 (.int .i64) ((idxSort t col list) : List Int))]⟩ (by kernel_rfl) ?_
   refine AWO.run hC false [] [] [] [5] [116]
    ⟨[(5, .arr 116 1)], [(116, .arr 1 (.int .i64) ((idxSort t col list) : List Int))]⟩
    [] (by rfl) (by kernel_rfl) ?_ ?_
   ·
    exact trivial
   refine AWO.nil ?_
   refine AW.seq (AW.r1 hC [4] [116] ⟨[(4, .arr 116 1)], [(116, .arr 1 (.int .i64) ((idxSort t col list) : List Int))]⟩ ?_)
   exact AW.ret (AW.retE (β := (List Int)) (fun v => [⟨(.slice (.int .i64)), v⟩]) (fun v => []) (v := (idxSort t col list)) e49 (by kernel_rfl) rfl rfl)

end
end Go.Proofs.Ytjcjpeckfikfkaa
