/-
  A part of the proof of this claim (AtF): what functions of the program compute, and plain facts of that. No conditions.
-/
import Derived.Test.YtdkopkplfdobnaaAt9
set_option linter.all false
namespace Go.Proofs.Ytdkopkplfdobnaa
open Go Go.Am
noncomputable section

theorem randomTable_l0_p (width : Int) (hw : width ≤ 100) : ∀ (k : Nat) (n : Int) (r0 : List Int) (p : Int) (rows : List (List Val)), 0 ≤ n → (∀ x ∈ rows, x.length = width.toNat) → p ≤ (randomTable_l0 width k n r0 p rows).2.1 ∧ (randomTable_l0 width k n r0 p rows).2.1 ≤ p + 300 * n ∧
  (∀ x ∈ (randomTable_l0 width k n r0 p rows).2.2, x.length = width.toNat) ∧ ((randomTable_l0 width k n r0 p rows).2.2.length : Int) ≤ rows.length + n := by
 intro k
 induction k with
 | zero => intro n r0 p rows hn hr; exact ⟨Int.le_refl _, by show p ≤ p + _; omega, hr, by show (rows.length : Int) ≤ _; omega⟩
 | succ k ih =>
  intro n r0 p rows hn hr
  unfold randomTable_l0
  by_cases h : 0 < n
  ·
   rw [decide_eq_true h, cond_true]
   have hp := randomRow_p (Rdr.mk r0 p) (width := width) (by omega)
   simp only at hp
   have := ih (n - 1) (Rdr.b ((randomRow (Rdr.mk r0 p) width).2)) (Rdr.p ((randomRow (Rdr.mk r0 p) width).2)) (rows ++ ([((randomRow (Rdr.mk r0 p) width).1)] : List (List Val))) (by omega) (fun x hx => by
    rcases List.mem_append.1 hx with hx | hx
    ·
     exact hr x hx
    ·
     rw [List.mem_singleton.1 hx]; exact randomRow_len _ _)
   simp only [List.length_append, List.length_cons, List.length_nil] at this
   exact ⟨by omega, by omega, this.2.2.1, by omega⟩
  ·
   rw [decide_eq_false h, cond_false]
   exact ⟨Int.le_refl _, by show p ≤ p + _; omega, hr, by show (rows.length : Int) ≤ _; omega⟩

theorem tableOf_l0_p {rows : List (List Val)} {w : Nat} (h : ∀ x ∈ rows, x.length = w) : ∀ (k i : Nat) (a : List (List Val)), a.length ≤ i → (∀ x ∈ a, x.length = w) → (∀ x ∈ tableOf_l0 rows k i a, x.length = w) ∧ (tableOf_l0 rows k i a).length ≤ max i rows.length := by
 intro k
 induction k with
 | zero => intro i a hi ha; exact ⟨ha, by show a.length ≤ _; omega⟩
 | succ k ih =>
  intro i a hi ha
  unfold tableOf_l0
  by_cases hlt : ((i : Nat) : Int) < ((List.length rows : Nat) : Int)
  ·
   rw [decide_eq_true hlt, cond_true]
   have := ih (i + 1) _ (by rw [insertRow_len]; omega) (fun x hx => (mem_insertRow hx).elim (ha x) (fun e => e ▸ h _ (getD_mem rows i [] (by omega))))
   exact ⟨this.1, by omega⟩
  ·
   rw [decide_eq_false hlt, cond_false]
   exact ⟨ha, by omega⟩

/-- a table all rows of which are as wide as it says -/
structure Wide (t : Tab) : Prop where
 w : 1 ≤ t.Width ∧ t.Width ≤ 6
 len : t.Rows.length ≤ 100
 rows : ∀ x ∈ t.Rows, x.length = t.Width.toNat

theorem randomTable_p (r : Rdr) {width most : Int} (hw : 1 ≤ width ∧ width ≤ 6) (hm : 0 ≤ most ∧ most ≤ 99) : (r.p ≤ (randomTable r width most).2.p ∧ (randomTable r width most).2.p ≤ r.p + 40000) ∧ Wide (randomTable r width most).1 := by
 have hp := pick_ok (n := most + 1) r.b r.p (by omega)
 have a := randomTable_l0_p width (by omega) (Int.toNat (pick (Rdr.b r) (Rdr.p r) (most + 1)) + 1) (pick (Rdr.b r) (Rdr.p r) (most + 1)) (Rdr.b r) ((Rdr.p r) + 1) [] hp.1 (fun x hx => by cases hx)
 dsimp only [randomTable, Go.Am.andThen]
 generalize randomTable_l0 width (Int.toNat (pick (Rdr.b r) (Rdr.p r) (most + 1)) + 1) (pick (Rdr.b r) (Rdr.p r) (most + 1)) (Rdr.b r) ((Rdr.p r) + 1) [] = x at *
 obtain ⟨r0, p, rows⟩ := x
 simp only [List.length_nil] at a ⊢
 have b := tableOf_l0_p a.2.2.1 (rows.length - 0 + 1) 0 [] (Nat.le_refl _) (fun x hx => by cases hx)
 refine ⟨by omega, ?_⟩
 unfold tableOf
 rw [show decide (400 < ((List.length rows : Nat) : Int)) = false from decide_eq_false (by omega)]
 dsimp only [cond_false, Go.Am.andThen]
 exact ⟨hw, by show (tableOf_l0 rows _ 0 []).length ≤ 100; omega, b.1⟩

theorem randomTable_w (r : Rdr) (width most : Int) : (randomTable r width most).1.Width = width := by
 dsimp only [randomTable, Go.Am.andThen, tableOf]
 cases (decide (400 < ((List.length (randomTable_l0 width (Int.toNat (pick (Rdr.b r) (Rdr.p r) (most + 1)) + 1) (pick (Rdr.b r) (Rdr.p r) (most + 1)) (Rdr.b r) ((Rdr.p r) + 1) []).2.2 : Nat) : Int))) <;> rfl

def countRow_l0 (rows : List (List Val)) (row : List Val) : Nat → Nat → Nat → Nat
 | 0, n, i => n
 | k + 1, n, i => (bif (decide (((i : Nat) : Int) < ((List.length rows : Nat) : Int))) then (bif ((compareRows (List.getD rows i []) row) == 0) then (countRow_l0 rows row k (n + 1) (i + 1)) else (countRow_l0 rows row k n (i + 1))) else n)

def countRow (rows : List (List Val)) (row : List Val) : Int := (Go.Am.andThen (countRow_l0 rows row ((List.length rows) - 0 + 1) 0 0) (fun z => (fun (n : Nat) => ((n : Nat) : Int)) z))

def countRow_sp : FnSpec := mkSpec [.val (.slice (.slice (.named 0))), .val (.slice (.named 0))] [.val (.int .i64)] (fun (rows : List (List Val)) (row : List Val) => True) (fun (rows : List (List Val)) (row : List Val) => [⟨(.int .i64), (countRow rows row)⟩])

theorem countRow_ok : FnOK Try.prog 36 countRow_sp := by
 have hC : CtxOK Try.prog (mkCtx tyL [(46, compareRows_sp)]) := CtxOK.cons compareRows_ok (CtxOK.nil tyOK)
 refine FnOK.of_body Try.func36 (by kernel_rfl) rfl (C := (mkCtx tyL [(46, compareRows_sp)])) hC.ty (by kernel_rfl) ?_
 intro (rows : List (List Val)) (row : List Val) hwf hpre E
 have hpre : True := hpre
 have hw_rows : Wf ⟨(.slice (.slice (.named 0))), (rows : List (List Val))⟩ := hwf _ (List.Mem.head _)
 have hl_rows : ((List.length rows : Nat) : Int) ≤ 9223372036854775807 := hw_rows.len
 have hw_row : Wf ⟨(.slice (.named 0)), (row : List Val)⟩ := hwf _ (List.Mem.tail _ (List.Mem.head _))
 have hl_row : ((List.length row : Nat) : Int) ≤ 9223372036854775807 := hw_row.len
 have e0 : countRow rows row = countRow rows row := rfl
 refine AW.seq (AW.r1 hC [0, 1] [] ⟨[(0, sD12 rows), (1, sD10 row)], []⟩ ?_)
 refine AW.seq (AW.r1 hC [0, 1, 5] [] ⟨[(0, sD12 rows), (1, sD10 row), (5, sI 0)], []⟩ ?_)
 refine AW.seq (AW.seq (AW.r1 hC [0, 1, 5, 6] [] ⟨[(0, sD12 rows), (1, sD10 row), (5, sI 0), (6, sI 0)], []⟩ ?_))
 refine AW.cutQ (α := Nat) (fun x => ⟨[(5, sI ((x : Nat) : Int))], []⟩) (fun x => (0 ≤ x) ∧ (countRow_l0 rows row ((List.length rows) - 0 + 1) 0 0) = x) ?_ ?_
 ·
  skip
  refine AW.block (AW.loop (α := Nat × Nat) (fun x => ⟨[(0, sD12 rows), (1, sD10 row), (5, sI ((x.1 : Nat) : Int)), (6, sI ((x.2 : Nat) : Int))], []⟩) (fun x => (0 ≤ x.1 ∧ x.1 ≤ (x.2 : Int)) ∧ ∃ k, (List.length rows) - x.2 < k ∧ (countRow_l0 rows row ((List.length rows) - 0 + 1) 0 0) = countRow_l0 rows row k x.1 x.2) (fun x => (List.length rows) - x.2) (0, 0) (by kernel_rfl) ⟨?_, _, Nat.lt_succ_self _, rfl⟩ ?_)
  ·
   show 0 ≤ 0 ∧ 0 ≤ (0 : Int)
   refine ⟨?_, ?_⟩ <;> first | omega | simp
  ·
   intro x hR
   obtain ⟨n, i⟩ := x
   obtain ⟨hI0, k27, hk25, e26⟩ := hR
   replace hI0 : 0 ≤ n ∧ n ≤ (i : Int) := hI0
   replace hk25 : (List.length rows) - i < k27 := hk25
   obtain ⟨k27q, rfl⟩ : ∃ k, k27 = k + 1 := ⟨k27 - 1, by omega⟩
   refine AW.seq (AW.seq (AW.r1 hC [0, 1, 5, 6, 10] [] ⟨[(0, sD12 rows), (1, sD10 row), (5, sI ((n : Nat) : Int)), (6, sI ((i : Nat) : Int)), (10, sB (decide (((i : Nat) : Int) < ((List.length rows : Nat) : Int))))], []⟩ ?_))
   refine AW.cd (decide (((i : Nat) : Int) < ((List.length rows : Nat) : Int))) ?_ ?_
   ·
    intro h28
    have h28q := (of_decide_eq_true h28)
    have e29 := e26.trans (Go.Am.bif_t h28)
    refine AW.kp [0, 1, 5, 6] [] ⟨[(0, sD12 rows), (1, sD10 row), (5, sI ((n : Nat) : Int)), (6, sI ((i : Nat) : Int))], []⟩ ?_
    refine AW.skip (AW.seq (AW.block (AW.seq (AW.r0 hC [0, 1, 5, 6, 19] [] ⟨[(0, sD12 rows), (1, sD10 row), (5, sI ((n : Nat) : Int)), (6, sI ((i : Nat) : Int)), (19, sB ((compareRows (List.getD rows i []) row) == 0))], []⟩ [IX ((i : Nat) : Int) ((List.length rows : Nat) : Int), (True)] ?_ ?_))))
    ·
     refine ⟨?_, ?_, trivial⟩
     ·
      refine IX.of ?_
      omega
     ·
      trivial
    refine AW.cd ((compareRows (List.getD rows i []) row) == 0) ?_ ?_
    ·
     intro h30
     have h30q := (Go.Am.beq_pos h30)
     have e31 := e29.trans (Go.Am.bif_t h30)
     refine AW.r0 hC [0, 1, 5, 6] [] ⟨[(0, sD12 rows), (1, sD10 row), (5, sI ((n + 1 : Nat) : Int)), (6, sI ((i : Nat) : Int))], []⟩ [R64 ((n + 1 : Nat) : Int)] ?_ ?_
     ·
      refine ⟨?_, trivial⟩
      ·
       refine R64.of ?_
       omega
     refine AW.r0 hC [0, 1, 5, 6] [] ⟨[(0, sD12 rows), (1, sD10 row), (5, sI ((n + 1 : Nat) : Int)), (6, sI ((i + 1 : Nat) : Int))], []⟩ [R64 ((i + 1 : Nat) : Int)] ?_ ?_
     ·
      refine ⟨?_, trivial⟩
      ·
       refine R64.of ?_
       omega
     refine AW.back (x := (n, i)) (n + 1, i + 1) (by kernel_rfl) ⟨?_, k27q, ?_, e31⟩ ?_
     ·
      show 0 ≤ (n + 1) ∧ (n + 1) ≤ ((i + 1) : Int)
      refine ⟨?_, ?_⟩ <;> first | omega | (simp only [lens] at *; omega)
     ·
      show (List.length rows) - (i + 1) < k27q
      omega
     ·
      show (List.length rows) - (i + 1) < (List.length rows) - i
      omega
    ·
     intro h32
     have h32q := (Go.Am.beq_neg h32)
     have e33 := e29.trans (Go.Am.bif_f h32)
     refine AW.kp [0, 1, 5, 6] [] ⟨[(0, sD12 rows), (1, sD10 row), (5, sI ((n : Nat) : Int)), (6, sI ((i : Nat) : Int))], []⟩ ?_
     refine AW.skip (AW.r0 hC [0, 1, 5, 6] [] ⟨[(0, sD12 rows), (1, sD10 row), (5, sI ((n : Nat) : Int)), (6, sI ((i + 1 : Nat) : Int))], []⟩ [R64 ((i + 1 : Nat) : Int)] ?_ ?_)
     ·
      refine ⟨?_, trivial⟩
      ·
       refine R64.of ?_
       omega
     refine AW.back (x := (n, i)) (n, i + 1) (by kernel_rfl) ⟨?_, k27q, ?_, e33⟩ ?_
     ·
      show 0 ≤ n ∧ n ≤ ((i + 1) : Int)
      refine ⟨?_, ?_⟩ <;> first | omega | (simp only [lens] at *; omega)
     ·
      show (List.length rows) - (i + 1) < k27q
      omega
     ·
      show (List.length rows) - (i + 1) < (List.length rows) - i
      omega
   ·
    intro h34
    have h34q := (of_decide_eq_false h34)
    have e35 := e26.trans (Go.Am.bif_f h34)
    refine AW.kp [5] [] ⟨[(5, sI ((n : Nat) : Int))], []⟩ ?_
    refine AW.exit ?_
    refine AW.meet n (by kernel_rfl) ⟨?_, e35⟩
    show 0 ≤ n
    omega
 ·
  intro n hR
  obtain ⟨hJ0, e36⟩ := hR
  replace hJ0 : 0 ≤ n := hJ0
  have e37 := e0.trans (Go.Am.then_eq e36)
  refine AW.seq (AW.r1 hC [4] [] ⟨[(4, sI ((n : Nat) : Int))], []⟩ ?_)
  exact AW.ret (AW.rI ((n : Nat) : Int) e37)

def statsOf_l1 (t : Tab) (c : Nat) : Nat → Nat → Nat → (List (List Val)) → Nat × (List (List Val))
 | 0, n, i, seen => (n, seen)
 | k + 1, n, i, seen => (bif (decide (((i : Nat) : Int) < ((List.length (Tab.Rows t) : Nat) : Int))) then (bif (Val.Null (List.getD (List.getD (Tab.Rows t) i []) c Val.zero)) then (statsOf_l1 t c k (n + 1) (i + 1) seen) else (bif ((countRow seen ([(List.getD (List.getD (Tab.Rows t) i []) c Val.zero)] : List Val)) == 0) then (statsOf_l1 t c k n (i + 1) (seen ++ ([([(List.getD (List.getD (Tab.Rows t) i []) c Val.zero)] : List Val)] : List (List Val)))) else (statsOf_l1 t c k n (i + 1) seen))) else (n, seen))

def statsOf_l0 (t : Tab) : Nat → Nat → (List Int) → (List Int) → (List Int) × (List Int)
 | 0, c, ar216, ar240 => (ar216, ar240)
 | k + 1, c, ar216, ar240 => (bif (decide (((c : Nat) : Int) < (Tab.Width t))) then (Go.Am.andThen (statsOf_l1 t c ((List.length (Tab.Rows t)) - 0 + 1) 0 0 ([] : List (List Val))) (fun z => (fun (n : Nat) (seen : List (List Val)) => (statsOf_l0 t k (c + 1) (ar216 ++ ([((List.length seen : Nat) : Int)] : List Int)) (ar240 ++ ([((n : Nat) : Int)] : List Int)))) z.1 z.2)) else (ar216, ar240))

def statsOf (t : Tab) : Sta := (Go.Am.andThen (statsOf_l0 t (Int.toNat ((Tab.Width t) - ((0 : Nat) : Int)) + 1) 0 ([] : List Int) ([] : List Int)) (fun z => (fun (ar216 : List Int) (ar240 : List Int) => (Sta.mk ((List.length (Tab.Rows t) : Nat) : Int) ar216 ar240)) z.1 z.2))

def statsOf_sp : FnSpec := mkSpec [.val (.named 4)] [.val (.named 3)] (fun (t : Tab) => Wide t) (fun (t : Tab) => [⟨(.named 3), (statsOf t)⟩])

theorem statsOf_ok : FnOK Try.prog 20 statsOf_sp := by
 have hC : CtxOK Try.prog (mkCtx tyL [(36, countRow_sp)]) := CtxOK.cons countRow_ok (CtxOK.nil tyOK)
 refine FnOK.of_body Try.func20 (by kernel_rfl) rfl (C := (mkCtx tyL [(36, countRow_sp)])) hC.ty (by kernel_rfl) ?_
 intro (t : Tab) hwf hpre E
 have hpre : Wide t := hpre
 have hw_t : Wf ⟨(.named 4), (t : Tab)⟩ := hwf _ (List.Mem.head _)
 obtain ⟨hr_t_Width, hl_t_Rows⟩ := Tab.wfl hw_t
 have hw := hpre.w
 have hlen := hpre.len
 have hrw := fun (i : Nat) (h : i < t.Rows.length) => hpre.rows _ (getD_mem t.Rows i [] h)
 have e0 : statsOf t = statsOf t := rfl
 refine AW.seq (AW.r1 hC [1, 2] [4, 8] ⟨[(1, .ref 4 1 0), (2, .ref 8 1 0)], [(4, .box 1 [sI (Tab.Width t), sD12 (Tab.Rows t)]), (8, .box 1 [sI 0, .nilsl, .nilsl])]⟩ ?_)
 refine AW.seq (AW.r1 hC [1, 2, 3] [4, 8, 12] ⟨[(1, .ref 4 1 0), (2, .ref 8 1 0), (3, .ref 12 1 0)], [(4, .box 1 [sI (Tab.Width t), sD12 (Tab.Rows t)]), (8, .box 1 [sI 0, .nilsl, .nilsl]), (12, .box 1 [sI ((List.length (Tab.Rows t) : Nat) : Int), .nilsl, .nilsl])]⟩ ?_)
 refine AW.seq (AW.seq (AW.r1 hC [1, 2, 3, 4] [4, 8, 12] ⟨[(1, .ref 4 1 0), (2, .ref 8 1 0), (3, .ref 12 1 0), (4, sI 0)], [(4, .box 1 [sI (Tab.Width t), sD12 (Tab.Rows t)]), (8, .box 1 [sI 0, .nilsl, .nilsl]), (12, .box 1 [sI ((List.length (Tab.Rows t) : Nat) : Int), .nilsl, .nilsl])]⟩ ?_))
 refine AW.adoptB 12 1 1 216 [sI ((List.length (Tab.Rows t) : Nat) : Int), .nilsl, .nilsl] (.int .i64) (by kernel_rfl) (by kernel_rfl) (by kernel_rfl) ?_
 refine AW.adoptB 12 1 2 240 [sI ((List.length (Tab.Rows t) : Nat) : Int), .arr 216 1, .nilsl] (.int .i64) (by kernel_rfl) (by kernel_rfl) (by kernel_rfl) ?_
 refine AW.kp [1, 2, 3, 4] [4, 8, 12, 216, 240] ⟨[(1, .ref 4 1 0), (2, .ref 8 1 0), (3, .ref 12 1 0), (4, sI 0)], [(4, .box 1 [sI (Tab.Width t), sD12 (Tab.Rows t)]), (8, .box 1 [sI 0, .nilsl, .nilsl]), (12, .box 1 [sI ((List.length (Tab.Rows t) : Nat) : Int), .arr 216 1, .arr 240 1]), (216, .arr 1 (.int .i64) (([] : List Int) : List Int)), (240, .arr 1 (.int .i64) (([] : List Int) : List Int))]⟩ ?_
 refine AW.cutQ (α := (List Int) × (List Int)) (fun x => ⟨[(2, .ref 8 1 0), (3, .ref 12 1 0)], [(8, .box 1 [sI 0, .nilsl, .nilsl]), (12, .box 1 [sI ((List.length (Tab.Rows t) : Nat) : Int), .arr 216 1, .arr 240 1]), (216, .arr 1 (.int .i64) (x.1 : List Int)), (240, .arr 1 (.int .i64) (x.2 : List Int))]⟩) (fun x => (True) ∧ (statsOf_l0 t (Int.toNat ((Tab.Width t) - ((0 : Nat) : Int)) + 1) 0 ([] : List Int) ([] : List Int)) = x) ?_ ?_
 ·
  skip
  refine AW.block (AW.loop (α := Nat × (List Int) × (List Int)) (fun x => ⟨[(1, .ref 4 1 0), (2, .ref 8 1 0), (3, .ref 12 1 0), (4, sI ((x.1 : Nat) : Int))], [(4, .box 1 [sI (Tab.Width t), sD12 (Tab.Rows t)]), (8, .box 1 [sI 0, .nilsl, .nilsl]), (12, .box 1 [sI ((List.length (Tab.Rows t) : Nat) : Int), .arr 216 1, .arr 240 1]), (216, .arr 1 (.int .i64) (x.2.1 : List Int)), (240, .arr 1 (.int .i64) (x.2.2 : List Int))]⟩) (fun x => ((List.length x.2.1 = x.1 ∧ List.length x.2.2 = x.1) ∧ x.1 ≤ 6) ∧ ∃ k, Int.toNat ((Tab.Width t) - ((x.1 : Nat) : Int)) < k ∧ (statsOf_l0 t (Int.toNat ((Tab.Width t) - ((0 : Nat) : Int)) + 1) 0 ([] : List Int) ([] : List Int)) = statsOf_l0 t k x.1 x.2.1 x.2.2) (fun x => Int.toNat ((Tab.Width t) - ((x.1 : Nat) : Int))) (0, ([] : List Int), ([] : List Int)) (by kernel_rfl) ⟨?_, _, Nat.lt_succ_self _, rfl⟩ ?_)
  ·
   show (List.length ([] : List Int) = 0 ∧ List.length ([] : List Int) = 0) ∧ 0 ≤ 6
   exact ⟨⟨rfl, rfl⟩, by omega⟩
  ·
   intro x hR
   obtain ⟨c, ar216, ar240⟩ := x
   obtain ⟨hI0, k231, hk229, e230⟩ := hR
   replace hI0 : (List.length ar216 = c ∧ List.length ar240 = c) ∧ c ≤ 6 := hI0
   replace hk229 : Int.toNat ((Tab.Width t) - ((c : Nat) : Int)) < k231 := hk229
   obtain ⟨k231q, rfl⟩ : ∃ k, k231 = k + 1 := ⟨k231 - 1, by omega⟩
   refine AW.seq (AW.seq (AW.r1 hC [1, 2, 3, 4, 16] [4, 8, 12, 216, 240] ⟨[(1, .ref 4 1 0), (2, .ref 8 1 0), (3, .ref 12 1 0), (4, sI ((c : Nat) : Int)), (16, sB (decide (((c : Nat) : Int) < (Tab.Width t))))], [(4, .box 1 [sI (Tab.Width t), sD12 (Tab.Rows t)]), (8, .box 1 [sI 0, .nilsl, .nilsl]), (12, .box 1 [sI ((List.length (Tab.Rows t) : Nat) : Int), .arr 216 1, .arr 240 1]), (216, .arr 1 (.int .i64) (ar216 : List Int)), (240, .arr 1 (.int .i64) (ar240 : List Int))]⟩ ?_))
   refine AW.cd (decide (((c : Nat) : Int) < (Tab.Width t))) ?_ ?_
   ·
    intro h232
    have h232q := (of_decide_eq_true h232)
    have e233 := e230.trans (Go.Am.bif_t h232)
    refine AW.kp [1, 2, 3, 4] [4, 8, 12, 216, 240] ⟨[(1, .ref 4 1 0), (2, .ref 8 1 0), (3, .ref 12 1 0), (4, sI ((c : Nat) : Int))], [(4, .box 1 [sI (Tab.Width t), sD12 (Tab.Rows t)]), (8, .box 1 [sI 0, .nilsl, .nilsl]), (12, .box 1 [sI ((List.length (Tab.Rows t) : Nat) : Int), .arr 216 1, .arr 240 1]), (216, .arr 1 (.int .i64) (ar216 : List Int)), (240, .arr 1 (.int .i64) (ar240 : List Int))]⟩ ?_
    refine AW.skip (AW.seq (AW.block (AW.seq (AW.r1 hC [1, 2, 3, 4, 5] [4, 8, 12, 76, 216, 240] ⟨[(1, .ref 4 1 0), (2, .ref 8 1 0), (3, .ref 12 1 0), (4, sI ((c : Nat) : Int)), (5, .arr 76 1)], [(4, .box 1 [sI (Tab.Width t), sD12 (Tab.Rows t)]), (8, .box 1 [sI 0, .nilsl, .nilsl]), (12, .box 1 [sI ((List.length (Tab.Rows t) : Nat) : Int), .arr 216 1, .arr 240 1]), (76, .arr 1 (.slice (.named 0)) (([] : List (List Val)) : List (List Val))), (216, .arr 1 (.int .i64) (ar216 : List Int)), (240, .arr 1 (.int .i64) (ar240 : List Int))]⟩ ?_))))
    refine AW.seq (AW.r1 hC [1, 2, 3, 4, 5, 6] [4, 8, 12, 76, 216, 240] ⟨[(1, .ref 4 1 0), (2, .ref 8 1 0), (3, .ref 12 1 0), (4, sI ((c : Nat) : Int)), (5, .arr 76 1), (6, sI 0)], [(4, .box 1 [sI (Tab.Width t), sD12 (Tab.Rows t)]), (8, .box 1 [sI 0, .nilsl, .nilsl]), (12, .box 1 [sI ((List.length (Tab.Rows t) : Nat) : Int), .arr 216 1, .arr 240 1]), (76, .arr 1 (.slice (.named 0)) (([] : List (List Val)) : List (List Val))), (216, .arr 1 (.int .i64) (ar216 : List Int)), (240, .arr 1 (.int .i64) (ar240 : List Int))]⟩ ?_)
    refine AW.seq (AW.seq (AW.r1 hC [1, 2, 3, 4, 5, 6, 7] [4, 8, 12, 76, 216, 240] ⟨[(1, .ref 4 1 0), (2, .ref 8 1 0), (3, .ref 12 1 0), (4, sI ((c : Nat) : Int)), (5, .arr 76 1), (6, sI 0), (7, sI 0)], [(4, .box 1 [sI (Tab.Width t), sD12 (Tab.Rows t)]), (8, .box 1 [sI 0, .nilsl, .nilsl]), (12, .box 1 [sI ((List.length (Tab.Rows t) : Nat) : Int), .arr 216 1, .arr 240 1]), (76, .arr 1 (.slice (.named 0)) (([] : List (List Val)) : List (List Val))), (216, .arr 1 (.int .i64) (ar216 : List Int)), (240, .arr 1 (.int .i64) (ar240 : List Int))]⟩ ?_))
    refine AW.cutQ (α := Nat × (List (List Val))) (fun x => ⟨[(1, .ref 4 1 0), (2, .ref 8 1 0), (3, .ref 12 1 0), (4, sI ((c : Nat) : Int)), (5, .arr 76 1), (6, sI ((x.1 : Nat) : Int))], [(4, .box 1 [sI (Tab.Width t), sD12 (Tab.Rows t)]), (8, .box 1 [sI 0, .nilsl, .nilsl]), (12, .box 1 [sI ((List.length (Tab.Rows t) : Nat) : Int), .arr 216 1, .arr 240 1]), (76, .arr 1 (.slice (.named 0)) (x.2 : List (List Val))), (216, .arr 1 (.int .i64) (ar216 : List Int)), (240, .arr 1 (.int .i64) (ar240 : List Int))]⟩) (fun x => (x.1 ≤ 100 ∧ List.length x.2 ≤ 100) ∧ (statsOf_l1 t c ((List.length (Tab.Rows t)) - 0 + 1) 0 0 ([] : List (List Val))) = x) ?_ ?_
    ·
     skip
     refine AW.block (AW.loop (α := Nat × Nat × (List (List Val))) (fun x => ⟨[(1, .ref 4 1 0), (2, .ref 8 1 0), (3, .ref 12 1 0), (4, sI ((c : Nat) : Int)), (5, .arr 76 1), (6, sI ((x.1 : Nat) : Int)), (7, sI ((x.2.1 : Nat) : Int))], [(4, .box 1 [sI (Tab.Width t), sD12 (Tab.Rows t)]), (8, .box 1 [sI 0, .nilsl, .nilsl]), (12, .box 1 [sI ((List.length (Tab.Rows t) : Nat) : Int), .arr 216 1, .arr 240 1]), (76, .arr 1 (.slice (.named 0)) (x.2.2 : List (List Val))), (216, .arr 1 (.int .i64) (ar216 : List Int)), (240, .arr 1 (.int .i64) (ar240 : List Int))]⟩) (fun x => ((x.1 ≤ x.2.1 ∧ x.2.1 ≤ 100) ∧ List.length x.2.2 ≤ x.2.1) ∧ ∃ k, (List.length (Tab.Rows t)) - x.2.1 < k ∧ (statsOf_l1 t c ((List.length (Tab.Rows t)) - 0 + 1) 0 0 ([] : List (List Val))) = statsOf_l1 t c k x.1 x.2.1 x.2.2) (fun x => (List.length (Tab.Rows t)) - x.2.1) (0, 0, ([] : List (List Val))) (by kernel_rfl) ⟨?_, _, Nat.lt_succ_self _, rfl⟩ ?_)
     ·
      show (0 ≤ 0 ∧ 0 ≤ 100) ∧ List.length ([] : List (List Val)) ≤ 0
      exact ⟨⟨by omega, by omega⟩, by simp⟩
     ·
      intro x hR
      obtain ⟨n, i, seen⟩ := x
      obtain ⟨hI1, k272, hk270, e271⟩ := hR
      replace hI1 : (n ≤ i ∧ i ≤ 100) ∧ List.length seen ≤ i := hI1
      replace hk270 : (List.length (Tab.Rows t)) - i < k272 := hk270
      obtain ⟨k272q, rfl⟩ : ∃ k, k272 = k + 1 := ⟨k272 - 1, by omega⟩
      refine AW.seq (AW.seq (AW.r1 hC [1, 2, 3, 4, 5, 6, 7, 24] [4, 8, 12, 76, 216, 240] ⟨[(1, .ref 4 1 0), (2, .ref 8 1 0), (3, .ref 12 1 0), (4, sI ((c : Nat) : Int)), (5, .arr 76 1), (6, sI ((n : Nat) : Int)), (7, sI ((i : Nat) : Int)), (24, sB (decide (((i : Nat) : Int) < ((List.length (Tab.Rows t) : Nat) : Int))))], [(4, .box 1 [sI (Tab.Width t), sD12 (Tab.Rows t)]), (8, .box 1 [sI 0, .nilsl, .nilsl]), (12, .box 1 [sI ((List.length (Tab.Rows t) : Nat) : Int), .arr 216 1, .arr 240 1]), (76, .arr 1 (.slice (.named 0)) (seen : List (List Val))), (216, .arr 1 (.int .i64) (ar216 : List Int)), (240, .arr 1 (.int .i64) (ar240 : List Int))]⟩ ?_))
      refine AW.cd (decide (((i : Nat) : Int) < ((List.length (Tab.Rows t) : Nat) : Int))) ?_ ?_
      ·
       intro h273
       have h273q := (of_decide_eq_true h273)
       have e274 := e271.trans (Go.Am.bif_t h273)
       refine AW.kp [1, 2, 3, 4, 5, 6, 7] [4, 8, 12, 76, 216, 240] ⟨[(1, .ref 4 1 0), (2, .ref 8 1 0), (3, .ref 12 1 0), (4, sI ((c : Nat) : Int)), (5, .arr 76 1), (6, sI ((n : Nat) : Int)), (7, sI ((i : Nat) : Int))], [(4, .box 1 [sI (Tab.Width t), sD12 (Tab.Rows t)]), (8, .box 1 [sI 0, .nilsl, .nilsl]), (12, .box 1 [sI ((List.length (Tab.Rows t) : Nat) : Int), .arr 216 1, .arr 240 1]), (76, .arr 1 (.slice (.named 0)) (seen : List (List Val))), (216, .arr 1 (.int .i64) (ar216 : List Int)), (240, .arr 1 (.int .i64) (ar240 : List Int))]⟩ ?_
       refine AW.skip (AW.seq (AW.block (AW.seq (AW.r0 hC [1, 2, 3, 4, 5, 6, 7, 8] [4, 8, 12, 32, 76, 216, 240] ⟨[(1, .ref 4 1 0), (2, .ref 8 1 0), (3, .ref 12 1 0), (4, sI ((c : Nat) : Int)), (5, .arr 76 1), (6, sI ((n : Nat) : Int)), (7, sI ((i : Nat) : Int)), (8, .ref 32 1 0)], [(4, .box 1 [sI (Tab.Width t), sD12 (Tab.Rows t)]), (8, .box 1 [sI 0, .nilsl, .nilsl]), (12, .box 1 [sI ((List.length (Tab.Rows t) : Nat) : Int), .arr 216 1, .arr 240 1]), (32, .box 1 [sB (Val.Null (List.getD (List.getD (Tab.Rows t) i []) c Val.zero)), sI (Val.N (List.getD (List.getD (Tab.Rows t) i []) c Val.zero))]), (76, .arr 1 (.slice (.named 0)) (seen : List (List Val))), (216, .arr 1 (.int .i64) (ar216 : List Int)), (240, .arr 1 (.int .i64) (ar240 : List Int))]⟩ [IX ((i : Nat) : Int) ((List.length (Tab.Rows t) : Nat) : Int), IX ((c : Nat) : Int) ((List.length (List.getD (Tab.Rows t) i []) : Nat) : Int)] ?_ ?_))))
       ·
        refine ⟨?_, ?_, trivial⟩
        ·
         refine IX.of ?_
         omega
        ·
         refine IX.of ?_
         have h := hrw i (by omega); omega
       refine AW.seq (AW.r1 hC [1, 2, 3, 4, 5, 6, 7, 8, 36] [4, 8, 12, 32, 76, 216, 240] ⟨[(1, .ref 4 1 0), (2, .ref 8 1 0), (3, .ref 12 1 0), (4, sI ((c : Nat) : Int)), (5, .arr 76 1), (6, sI ((n : Nat) : Int)), (7, sI ((i : Nat) : Int)), (8, .ref 32 1 0), (36, sB (Val.Null (List.getD (List.getD (Tab.Rows t) i []) c Val.zero)))], [(4, .box 1 [sI (Tab.Width t), sD12 (Tab.Rows t)]), (8, .box 1 [sI 0, .nilsl, .nilsl]), (12, .box 1 [sI ((List.length (Tab.Rows t) : Nat) : Int), .arr 216 1, .arr 240 1]), (32, .box 1 [sB (Val.Null (List.getD (List.getD (Tab.Rows t) i []) c Val.zero)), sI (Val.N (List.getD (List.getD (Tab.Rows t) i []) c Val.zero))]), (76, .arr 1 (.slice (.named 0)) (seen : List (List Val))), (216, .arr 1 (.int .i64) (ar216 : List Int)), (240, .arr 1 (.int .i64) (ar240 : List Int))]⟩ ?_)
       refine AW.cd (Val.Null (List.getD (List.getD (Tab.Rows t) i []) c Val.zero)) ?_ ?_
       ·
        intro h275
        have h275q : (Val.Null (List.getD (List.getD (Tab.Rows t) i []) c Val.zero)) = true := h275
        have e276 := e274.trans (Go.Am.bif_t h275)
        refine AW.r0 hC [1, 2, 3, 4, 5, 6, 7] [4, 8, 12, 76, 216, 240] ⟨[(1, .ref 4 1 0), (2, .ref 8 1 0), (3, .ref 12 1 0), (4, sI ((c : Nat) : Int)), (5, .arr 76 1), (6, sI ((n + 1 : Nat) : Int)), (7, sI ((i : Nat) : Int))], [(4, .box 1 [sI (Tab.Width t), sD12 (Tab.Rows t)]), (8, .box 1 [sI 0, .nilsl, .nilsl]), (12, .box 1 [sI ((List.length (Tab.Rows t) : Nat) : Int), .arr 216 1, .arr 240 1]), (76, .arr 1 (.slice (.named 0)) (seen : List (List Val))), (216, .arr 1 (.int .i64) (ar216 : List Int)), (240, .arr 1 (.int .i64) (ar240 : List Int))]⟩ [R64 ((n + 1 : Nat) : Int)] ?_ ?_
        ·
         refine ⟨?_, trivial⟩
         ·
          refine R64.of ?_
          omega
        refine AW.r0 hC [1, 2, 3, 4, 5, 6, 7] [4, 8, 12, 76, 216, 240] ⟨[(1, .ref 4 1 0), (2, .ref 8 1 0), (3, .ref 12 1 0), (4, sI ((c : Nat) : Int)), (5, .arr 76 1), (6, sI ((n + 1 : Nat) : Int)), (7, sI ((i + 1 : Nat) : Int))], [(4, .box 1 [sI (Tab.Width t), sD12 (Tab.Rows t)]), (8, .box 1 [sI 0, .nilsl, .nilsl]), (12, .box 1 [sI ((List.length (Tab.Rows t) : Nat) : Int), .arr 216 1, .arr 240 1]), (76, .arr 1 (.slice (.named 0)) (seen : List (List Val))), (216, .arr 1 (.int .i64) (ar216 : List Int)), (240, .arr 1 (.int .i64) (ar240 : List Int))]⟩ [R64 ((i + 1 : Nat) : Int)] ?_ ?_
        ·
         refine ⟨?_, trivial⟩
         ·
          refine R64.of ?_
          omega
        refine AW.back (x := (n, i, seen)) (n + 1, i + 1, seen) (by kernel_rfl) ⟨?_, k272q, ?_, e276⟩ ?_
        ·
         show ((n + 1) ≤ (i + 1) ∧ (i + 1) ≤ 100) ∧ List.length seen ≤ (i + 1)
         (try simp only [List.length_append, List.length_cons, List.length_nil])
         omega
        ·
         show (List.length (Tab.Rows t)) - (i + 1) < k272q
         omega
        ·
         show (List.length (Tab.Rows t)) - (i + 1) < (List.length (Tab.Rows t)) - i
         omega
       ·
        intro h277
        have h277q : (Val.Null (List.getD (List.getD (Tab.Rows t) i []) c Val.zero)) = false := h277
        have e278 := e274.trans (Go.Am.bif_f h277)
        refine AW.seq (AW.r0 hC [1, 2, 3, 4, 5, 6, 7, 8, 43] [4, 8, 12, 32, 76, 216, 240] ⟨[(1, .ref 4 1 0), (2, .ref 8 1 0), (3, .ref 12 1 0), (4, sI ((c : Nat) : Int)), (5, .arr 76 1), (6, sI ((n : Nat) : Int)), (7, sI ((i : Nat) : Int)), (8, .ref 32 1 0), (43, sB ((countRow seen ([(List.getD (List.getD (Tab.Rows t) i []) c Val.zero)] : List Val)) == 0))], [(4, .box 1 [sI (Tab.Width t), sD12 (Tab.Rows t)]), (8, .box 1 [sI 0, .nilsl, .nilsl]), (12, .box 1 [sI ((List.length (Tab.Rows t) : Nat) : Int), .arr 216 1, .arr 240 1]), (32, .box 1 [sB (Val.Null (List.getD (List.getD (Tab.Rows t) i []) c Val.zero)), sI (Val.N (List.getD (List.getD (Tab.Rows t) i []) c Val.zero))]), (76, .arr 1 (.slice (.named 0)) (seen : List (List Val))), (216, .arr 1 (.int .i64) (ar216 : List Int)), (240, .arr 1 (.int .i64) (ar240 : List Int))]⟩ [(True)] ?_ ?_)
        ·
         refine ⟨?_, trivial⟩
         ·
          trivial
        refine AW.cd ((countRow seen ([(List.getD (List.getD (Tab.Rows t) i []) c Val.zero)] : List Val)) == 0) ?_ ?_
        ·
         intro h279
         have h279q := (Go.Am.beq_pos h279)
         have e280 := e278.trans (Go.Am.bif_t h279)
         refine AW.r0 hC [1, 2, 3, 4, 5, 6, 7] [4, 8, 12, 76, 216, 240] ⟨[(1, .ref 4 1 0), (2, .ref 8 1 0), (3, .ref 12 1 0), (4, sI ((c : Nat) : Int)), (5, .arr 76 1), (6, sI ((n : Nat) : Int)), (7, sI ((i : Nat) : Int))], [(4, .box 1 [sI (Tab.Width t), sD12 (Tab.Rows t)]), (8, .box 1 [sI 0, .nilsl, .nilsl]), (12, .box 1 [sI ((List.length (Tab.Rows t) : Nat) : Int), .arr 216 1, .arr 240 1]), (76, .arr 1 (.slice (.named 0)) ((seen ++ ([([(List.getD (List.getD (Tab.Rows t) i []) c Val.zero)] : List Val)] : List (List Val))) : List (List Val))), (216, .arr 1 (.int .i64) (ar216 : List Int)), (240, .arr 1 (.int .i64) (ar240 : List Int))]⟩ [(((List.length seen : Nat) : Int) + ((List.length ([([(List.getD (List.getD (Tab.Rows t) i []) c Val.zero)] : List Val)] : List (List Val)) : Nat) : Int) ≤ 4294967296)] ?_ ?_
         ·
          refine ⟨?_, trivial⟩
          ·
           simp only [List.length_cons, List.length_nil, List.length_append]; omega
         refine AW.r0 hC [1, 2, 3, 4, 5, 6, 7] [4, 8, 12, 76, 216, 240] ⟨[(1, .ref 4 1 0), (2, .ref 8 1 0), (3, .ref 12 1 0), (4, sI ((c : Nat) : Int)), (5, .arr 76 1), (6, sI ((n : Nat) : Int)), (7, sI ((i + 1 : Nat) : Int))], [(4, .box 1 [sI (Tab.Width t), sD12 (Tab.Rows t)]), (8, .box 1 [sI 0, .nilsl, .nilsl]), (12, .box 1 [sI ((List.length (Tab.Rows t) : Nat) : Int), .arr 216 1, .arr 240 1]), (76, .arr 1 (.slice (.named 0)) ((seen ++ ([([(List.getD (List.getD (Tab.Rows t) i []) c Val.zero)] : List Val)] : List (List Val))) : List (List Val))), (216, .arr 1 (.int .i64) (ar216 : List Int)), (240, .arr 1 (.int .i64) (ar240 : List Int))]⟩ [R64 ((i + 1 : Nat) : Int)] ?_ ?_
         ·
          refine ⟨?_, trivial⟩
          ·
           refine R64.of ?_
           omega
         refine AW.back (x := (n, i, seen)) (n, i + 1, (seen ++ ([([(List.getD (List.getD (Tab.Rows t) i []) c Val.zero)] : List Val)] : List (List Val)))) (by kernel_rfl) ⟨?_, k272q, ?_, e280⟩ ?_
         ·
          show (n ≤ (i + 1) ∧ (i + 1) ≤ 100) ∧ List.length (seen ++ ([([(List.getD (List.getD (Tab.Rows t) i []) c Val.zero)] : List Val)] : List (List Val))) ≤ (i + 1)
          (try simp only [List.length_append, List.length_cons, List.length_nil])
          omega
         ·
          show (List.length (Tab.Rows t)) - (i + 1) < k272q
          omega
         ·
          show (List.length (Tab.Rows t)) - (i + 1) < (List.length (Tab.Rows t)) - i
          omega
        ·
         intro h281
         have h281q := (Go.Am.beq_neg h281)
         have e282 := e278.trans (Go.Am.bif_f h281)
         refine AW.kp [1, 2, 3, 4, 5, 6, 7] [4, 8, 12, 76, 216, 240] ⟨[(1, .ref 4 1 0), (2, .ref 8 1 0), (3, .ref 12 1 0), (4, sI ((c : Nat) : Int)), (5, .arr 76 1), (6, sI ((n : Nat) : Int)), (7, sI ((i : Nat) : Int))], [(4, .box 1 [sI (Tab.Width t), sD12 (Tab.Rows t)]), (8, .box 1 [sI 0, .nilsl, .nilsl]), (12, .box 1 [sI ((List.length (Tab.Rows t) : Nat) : Int), .arr 216 1, .arr 240 1]), (76, .arr 1 (.slice (.named 0)) (seen : List (List Val))), (216, .arr 1 (.int .i64) (ar216 : List Int)), (240, .arr 1 (.int .i64) (ar240 : List Int))]⟩ ?_
         refine AW.skip (AW.r0 hC [1, 2, 3, 4, 5, 6, 7] [4, 8, 12, 76, 216, 240] ⟨[(1, .ref 4 1 0), (2, .ref 8 1 0), (3, .ref 12 1 0), (4, sI ((c : Nat) : Int)), (5, .arr 76 1), (6, sI ((n : Nat) : Int)), (7, sI ((i + 1 : Nat) : Int))], [(4, .box 1 [sI (Tab.Width t), sD12 (Tab.Rows t)]), (8, .box 1 [sI 0, .nilsl, .nilsl]), (12, .box 1 [sI ((List.length (Tab.Rows t) : Nat) : Int), .arr 216 1, .arr 240 1]), (76, .arr 1 (.slice (.named 0)) (seen : List (List Val))), (216, .arr 1 (.int .i64) (ar216 : List Int)), (240, .arr 1 (.int .i64) (ar240 : List Int))]⟩ [R64 ((i + 1 : Nat) : Int)] ?_ ?_)
         ·
          refine ⟨?_, trivial⟩
          ·
           refine R64.of ?_
           omega
         refine AW.back (x := (n, i, seen)) (n, i + 1, seen) (by kernel_rfl) ⟨?_, k272q, ?_, e282⟩ ?_
         ·
          show (n ≤ (i + 1) ∧ (i + 1) ≤ 100) ∧ List.length seen ≤ (i + 1)
          (try simp only [List.length_append, List.length_cons, List.length_nil])
          omega
         ·
          show (List.length (Tab.Rows t)) - (i + 1) < k272q
          omega
         ·
          show (List.length (Tab.Rows t)) - (i + 1) < (List.length (Tab.Rows t)) - i
          omega
      ·
       intro h283
       have h283q := (of_decide_eq_false h283)
       have e284 := e271.trans (Go.Am.bif_f h283)
       refine AW.kp [1, 2, 3, 4, 5, 6] [4, 8, 12, 76, 216, 240] ⟨[(1, .ref 4 1 0), (2, .ref 8 1 0), (3, .ref 12 1 0), (4, sI ((c : Nat) : Int)), (5, .arr 76 1), (6, sI ((n : Nat) : Int))], [(4, .box 1 [sI (Tab.Width t), sD12 (Tab.Rows t)]), (8, .box 1 [sI 0, .nilsl, .nilsl]), (12, .box 1 [sI ((List.length (Tab.Rows t) : Nat) : Int), .arr 216 1, .arr 240 1]), (76, .arr 1 (.slice (.named 0)) (seen : List (List Val))), (216, .arr 1 (.int .i64) (ar216 : List Int)), (240, .arr 1 (.int .i64) (ar240 : List Int))]⟩ ?_
       refine AW.exit ?_
       refine AW.meet (n, seen) (by kernel_rfl) ⟨?_, e284⟩
       show n ≤ 100 ∧ List.length seen ≤ 100
       omega
    ·
     intro x hR
     obtain ⟨n, seen⟩ := x
     obtain ⟨hJ1, e285⟩ := hR
     replace hJ1 : n ≤ 100 ∧ List.length seen ≤ 100 := hJ1
     have e286 := e233.trans (Go.Am.then_eq e285)
     refine AW.seq (AW.r0 hC [1, 2, 3, 4, 6] [4, 8, 12, 216, 240] ⟨[(1, .ref 4 1 0), (2, .ref 8 1 0), (3, .ref 12 1 0), (4, sI ((c : Nat) : Int)), (6, sI ((n : Nat) : Int))], [(4, .box 1 [sI (Tab.Width t), sD12 (Tab.Rows t)]), (8, .box 1 [sI 0, .nilsl, .nilsl]), (12, .box 1 [sI ((List.length (Tab.Rows t) : Nat) : Int), .arr 216 1, .arr 240 1]), (216, .arr 1 (.int .i64) ((ar216 ++ ([((List.length seen : Nat) : Int)] : List Int)) : List Int)), (240, .arr 1 (.int .i64) (ar240 : List Int))]⟩ [(((List.length ar216 : Nat) : Int) + ((List.length ([((List.length seen : Nat) : Int)] : List Int) : Nat) : Int) ≤ 4294967296)] ?_ ?_)
     ·
      refine ⟨?_, trivial⟩
      ·
       simp only [List.length_cons, List.length_nil, List.length_append]; omega
     refine AW.r0 hC [1, 2, 3, 4] [4, 8, 12, 216, 240] ⟨[(1, .ref 4 1 0), (2, .ref 8 1 0), (3, .ref 12 1 0), (4, sI ((c : Nat) : Int))], [(4, .box 1 [sI (Tab.Width t), sD12 (Tab.Rows t)]), (8, .box 1 [sI 0, .nilsl, .nilsl]), (12, .box 1 [sI ((List.length (Tab.Rows t) : Nat) : Int), .arr 216 1, .arr 240 1]), (216, .arr 1 (.int .i64) ((ar216 ++ ([((List.length seen : Nat) : Int)] : List Int)) : List Int)), (240, .arr 1 (.int .i64) ((ar240 ++ ([((n : Nat) : Int)] : List Int)) : List Int))]⟩ [(((List.length ar240 : Nat) : Int) + ((List.length ([((n : Nat) : Int)] : List Int) : Nat) : Int) ≤ 4294967296)] ?_ ?_
     ·
      refine ⟨?_, trivial⟩
      ·
       simp only [List.length_cons, List.length_nil, List.length_append]; omega
     refine AW.r0 hC [1, 2, 3, 4] [4, 8, 12, 216, 240] ⟨[(1, .ref 4 1 0), (2, .ref 8 1 0), (3, .ref 12 1 0), (4, sI ((c + 1 : Nat) : Int))], [(4, .box 1 [sI (Tab.Width t), sD12 (Tab.Rows t)]), (8, .box 1 [sI 0, .nilsl, .nilsl]), (12, .box 1 [sI ((List.length (Tab.Rows t) : Nat) : Int), .arr 216 1, .arr 240 1]), (216, .arr 1 (.int .i64) ((ar216 ++ ([((List.length seen : Nat) : Int)] : List Int)) : List Int)), (240, .arr 1 (.int .i64) ((ar240 ++ ([((n : Nat) : Int)] : List Int)) : List Int))]⟩ [R64 ((c + 1 : Nat) : Int)] ?_ ?_
     ·
      refine ⟨?_, trivial⟩
      ·
       refine R64.of ?_
       omega
     refine AW.back (x := (c, ar216, ar240)) (c + 1, (ar216 ++ ([((List.length seen : Nat) : Int)] : List Int)), (ar240 ++ ([((n : Nat) : Int)] : List Int))) (by kernel_rfl) ⟨?_, k231q, ?_, e286⟩ ?_
     ·
      show (List.length (ar216 ++ ([((List.length seen : Nat) : Int)] : List Int)) = (c + 1) ∧ List.length (ar240 ++ ([((n : Nat) : Int)] : List Int)) = (c + 1)) ∧ (c + 1) ≤ 6
      simp only [List.length_append, List.length_cons, List.length_nil]
      omega
     ·
      show Int.toNat ((Tab.Width t) - (((c + 1) : Nat) : Int)) < k231q
      omega
     ·
      show Int.toNat ((Tab.Width t) - (((c + 1) : Nat) : Int)) < Int.toNat ((Tab.Width t) - ((c : Nat) : Int))
      omega
   ·
    intro h287
    have h287q := (of_decide_eq_false h287)
    have e288 := e230.trans (Go.Am.bif_f h287)
    refine AW.kp [2, 3] [8, 12, 216, 240] ⟨[(2, .ref 8 1 0), (3, .ref 12 1 0)], [(8, .box 1 [sI 0, .nilsl, .nilsl]), (12, .box 1 [sI ((List.length (Tab.Rows t) : Nat) : Int), .arr 216 1, .arr 240 1]), (216, .arr 1 (.int .i64) (ar216 : List Int)), (240, .arr 1 (.int .i64) (ar240 : List Int))]⟩ ?_
    refine AW.exit ?_
    refine AW.meet (ar216, ar240) (by kernel_rfl) ⟨?_, e288⟩
    show True
    trivial
 ·
  intro x hR
  obtain ⟨ar216, ar240⟩ := x
  obtain ⟨hJ0, e289⟩ := hR
  replace hJ0 : True := hJ0
  have e290 := e0.trans (Go.Am.then_eq e289)
  refine AW.seq (AW.r1 hC [2] [8, 216, 240] ⟨[(2, .ref 8 1 0)], [(8, .box 1 [sI ((List.length (Tab.Rows t) : Nat) : Int), .arr 216 1, .arr 240 1]), (216, .arr 1 (.int .i64) (ar216 : List Int)), (240, .arr 1 (.int .i64) (ar240 : List Int))]⟩ ?_)
  exact AW.ret (AW.retE (β := Sta) (fun v => [⟨(.named 3), v⟩]) (fun v => []) (v := (Sta.mk ((List.length (Tab.Rows t) : Nat) : Int) ar216 ar240)) e290 (by kernel_rfl) rfl rfl)

end
end Go.Proofs.Ytdkopkplfdobnaa
