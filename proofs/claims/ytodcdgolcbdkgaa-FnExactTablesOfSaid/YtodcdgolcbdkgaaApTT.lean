/-
  A part of the proof of this claim (ApTT): what functions of the program compute, and plain facts of that. No conditions.
-/
import Derived.Test.YtodcdgolcbdkgaaApTQ
import Derived.Test.YtodcdgolcbdkgaaApTP
set_option linter.all false
namespace Go.Proofs.Ytodcdgolcbdkgaa
open Go Go.Am
open Go.Am.AW (seq r1U ret kpU cdE r0U r1 meet block rS bk exit lpB)
open List (length getD)
noncomputable section

def addTables_l0 (self : (List Int) → Pln → (List Int)) (p : Pln) : Nat → (List Int) → Nat → (List Int)
 | 0, list1, i => list1
 | k + 1, list1, i => (bif (decide ((i : Int) < (length (Pln.Kids p) : Int))) then (addTables_l0 self p k (self list1 (getD (Pln.Kids p) i Pln.zero)) (i + 1)) else list1)

def addTables_r : Nat → (List Int) → Pln → (List Int)
 | 0, list, p => []
 | fuel + 1, list, p => (bif ((Pln.Kind p) == 1) then (andThen (addTables_l0 (addTables_r fuel) p ((length (Pln.Kids p)) - 0 + 1) (addNumber list (Pln.Table p)) 0) (fun z => (fun (list1 : List Int) => list1) z)) else (andThen (addTables_l0 (addTables_r fuel) p ((length (Pln.Kids p)) - 0 + 1) list 0) (fun z => (fun (list1 : List Int) => list1) z)))

def addTables (list : List Int) (p : Pln) : (List Int) := addTables_r (SizeOf.sizeOf p + 1) list p

def addTables_spn (fuel : Nat) : FnSpec := mkSpec [.val (.slice (.int .i64)), .val (.named 2)] [.val (.slice (.int .i64))] (fun (list : List Int) (p : Pln) => (∃ n : Nat, n ≤ 1000 ∧ ST (n : Int) list ∧ PVn n p) ∧ SizeOf.sizeOf p < fuel) (fun (list : List Int) (p : Pln) => [⟨(.slice (.int .i64)), (addTables_r fuel list p)⟩])

def addTables_sp : FnSpec := mkSpec [.val (.slice (.int .i64)), .val (.named 2)] [.val (.slice (.int .i64))] (fun (list : List Int) (p : Pln) => ∃ n : Nat, n ≤ 1000 ∧ ST (n : Int) list ∧ PVn n p) (fun (list : List Int) (p : Pln) => [⟨(.slice (.int .i64)), (addTables list p)⟩])

theorem addT_loop {n f : Nat} {p : Pln} (hk : ∀ i, i < p.Kids.length → ∀ l, ST (n : Int) l → ST (n : Int) (addTables_r f l (p.Kids.getD i Pln.zero)) ∧ ∀ x, x ∈ addTables_r f l (p.Kids.getD i Pln.zero) ↔ x ∈ l ∨ hit f x (p.Kids.getD i Pln.zero) = true) :
  ∀ (k i : Nat) (l : List Int), p.Kids.length - i < k → ST (n : Int) l → ST (n : Int) (addTables_l0 (addTables_r f) p k l i) ∧ ∀ x, x ∈ addTables_l0 (addTables_r f) p k l i ↔ x ∈ l ∨ (p.Kids.drop i).any (hit f x) = true := by
 intro k
 induction k with
 | zero => intro i l h; omega
 | succ k ih =>
  intro i l h hl; unfold addTables_l0; by_cases hi : i < p.Kids.length
  · rw [lt_dec hi, cond_true]; obtain ⟨a, b⟩ := hk i hi l hl; obtain ⟨c, d⟩ := ih (i + 1) _ (by omega) a; refine ⟨c, fun x => ?_⟩; rw [d, b, drop_getD (d := Pln.zero) hi, List.any_cons, Bool.or_eq_true, or_assoc]
  · rw [ge_dec hi, cond_false, List.drop_of_length_le (by omega)]; exact ⟨hl, fun x => by simp⟩

theorem addT_st {n : Nat} : ∀ (f : Nat) (l : List Int) (p : Pln), SizeOf.sizeOf p < f → PVn n p → ST (n : Int) l → ST (n : Int) (addTables_r f l p) ∧ ∀ x, x ∈ addTables_r f l p ↔ x ∈ l ∨ hit f x p = true := by
 intro f
 induction f with
 | zero => intro l p h; omega
 | succ f ih =>
  intro l p h hp hl; obtain ⟨-, hT, -⟩ := hp.of; have hk := addT_loop (n := n) (f := f) (p := p) fun i hi l hl => ih l _ (by have := pkid_lt hi; omega) (hp.kid hi) hl; unfold addTables_r andThen; by_cases h1 : p.Kind = 1
  · rw [show (p.Kind == 1) = true from beq_iff_eq.2 h1, cond_true]; have ht := hT h1; obtain ⟨a, b⟩ := addNumber_st hl ht; obtain ⟨c, d⟩ := hk (p.Kids.length - 0 + 1) 0 _ (by omega) a; refine ⟨c, fun x => ?_⟩; rw [d, b, List.drop_zero]; show _ ↔ _ ∨ ((bif p.Kind == 1 then p.Table == x else false) || p.Kids.any (hit f x)) = true; rw [show (p.Kind == 1) = true from beq_iff_eq.2 h1, cond_true, Bool.or_eq_true, beq_iff_eq, or_assoc, eq_comm]
  · rw [show (p.Kind == 1) = false from beq_false_of_ne h1, cond_false]; obtain ⟨c, d⟩ := hk (p.Kids.length - 0 + 1) 0 _ (by omega) hl; refine ⟨c, fun x => ?_⟩; rw [d, List.drop_zero]; show _ ↔ _ ∨ ((bif p.Kind == 1 then p.Table == x else false) || p.Kids.any (hit f x)) = true; rw [show (p.Kind == 1) = false from beq_false_of_ne h1, cond_false, Bool.false_or]

theorem addTables_okn (fuel : Nat) : FnOK Try.prog 84 (addTables_spn fuel) := by
 induction fuel with
 | zero => exact FnOK.never Try.func84 (by kernel_rfl) rfl (fun _ _ h => absurd h.2 (Nat.not_lt_zero _))
 | succ fuel ih => ?_
 have hC : CtxOK Try.prog (mkCtx tyL [(84, (addTables_spn fuel)), (119, addNumber_sp)]) := CtxOK.cons ih (CtxOK.cons addNumber_ok (CtxOK.nil tyOK)); refine FnOK.of_body Try.func84 (by kernel_rfl) rfl (C := (mkCtx tyL [(84, (addTables_spn fuel)), (119, addNumber_sp)])) hC.ty (by kernel_rfl) ?_; intro (list : List Int) (p : Pln) hwf hpre E; have hpre : (∃ n : Nat, n ≤ 1000 ∧ ST (n : Int) list ∧ PVn n p) ∧ SizeOf.sizeOf p < fuel + 1 := hpre; have hw_list : Wf ⟨(.slice (.int .i64)), (list : List Int)⟩ := hwf _ (List.Mem.head _); have hl_list : (length list : Int) ≤ 9223372036854775807 := hw_list.len; have hw_p : Wf ⟨(.named 2), (p : Pln)⟩ := hwf _ (List.Mem.tail _ (List.Mem.head _)); obtain ⟨hr_p_Kind, hr_p_Table, hl_p_Exprs, hl_p_Cols, hl_p_Kids⟩ := Pln.wfl hw_p; obtain ⟨n, hn, hst, hpv⟩ := hpre.1; obtain ⟨hO, hT, -⟩ := hpv.of; have hsz := hpre.2; have e0 : addTables_r (fuel + 1) list p = addTables_r (fuel + 1) list p := rfl; refine seq (r1U hC [0, 3] [12] [(3, .ref 12 1 0)] [(12, .box 1 [sI (Pln.Kind p), sI (Pln.Table p), sD9 (Pln.Exprs p), sD7 (Pln.Cols p), sD10 (Pln.Kids p)])] ?_); refine seq (seq (r1U hC [0, 3, 8] [12] [(8, sB ((Pln.Kind p) == 1))] [] ?_)); refine cdE e0 ?_ ?_
 ·
  intro h1q e2; refine r0U hC [0, 3] [12] [(0, sD7 (addNumber list (Pln.Table p)))] [] [(length list ≤ 1000)] ?_ ?_
  ·
   exact ⟨(by have := hst.len; omega), trivial⟩
  refine seq (seq (r1U hC [0, 3, 5] [12] [(5, sI 0)] [] ?_)); refine lpB (ζ := (List Int)) (fun x => ⟨[(0, sD7 x)], []⟩) (fun x => ST (n : Int) x) (fun x => x) (α := (List Int) × Nat) (fun x => ⟨[(0, sD7 x.1), (3, .ref 12 1 0), (5, sI ((x.2 : Nat) : Int))], [(12, .box 1 [sI (Pln.Kind p), sI (Pln.Table p), sD9 (Pln.Exprs p), sD7 (Pln.Cols p), sD10 (Pln.Kids p)])]⟩) (fun x => ST (n : Int) x.1) (fun x => (length (Pln.Kids p)) - x.2) (fun k x => addTables_l0 (addTables_r fuel) p k x.1 x.2) ((addNumber list (Pln.Table p)), 0) (by kernel_rfl) ?_ ?_ ?_
  · exact (addNumber_st hst (by have := hT (by omega); omega)).1
  ·
   intro x k17q hI0 hk15 e16; obtain ⟨list1, i⟩ := x; refine seq (seq (r1U hC [0, 3, 5, 17] [12] [(17, sB (decide ((i : Int) < (length (Pln.Kids p) : Int))))] [] ?_)); refine cdE e16 ?_ ?_
   ·
    intro h18q e19; refine kpU [0, 3, 5] [12] [] [] ?_; refine AW.skip (seq (block (r0U hC [0, 3, 5] [12] [(0, sD7 ((addTables_r fuel) list1 (getD (Pln.Kids p) i Pln.zero)))] [] [IX (i : Int) (length (Pln.Kids p) : Int), ((∃ n : Nat, n ≤ 1000 ∧ ST (n : Int) list1 ∧ PVn n (getD (Pln.Kids p) i Pln.zero)) ∧ SizeOf.sizeOf (getD (Pln.Kids p) i Pln.zero) < fuel)] ?_ ?_)))
    ·
     exact ⟨IX.of (by omega), (⟨⟨n, hn, by assumption, hpv.kid (by omega)⟩, Nat.lt_of_lt_of_le (pkid_lt (by omega)) (Nat.le_of_lt_succ hpre.2)⟩), trivial⟩
    refine r0U hC [0, 3, 5] [12] [(5, sI ((i + 1 : Nat) : Int))] [] [R64 ((i + 1 : Nat) : Int)] ?_ ?_
    ·
     exact ⟨R64.of (by omega), trivial⟩
    refine bk (((addTables_r fuel) list1 (getD (Pln.Kids p) i Pln.zero)), i + 1) e19 hk15 ?_ ?_
    · exact (addT_st fuel list1 _ (by have := pkid_lt (t := p) (i := i) (by omega); omega) (hpv.kid (by omega)) hI0).1
    · omega
   · intro h20q e21; refine kpU [0] [] [] [] ?_; refine exit ?_; refine meet list1 (by kernel_rfl) ⟨?_, e21⟩; assumption
  · intro list1 hJ0 e22; have e23 := e2.trans (then_eq e22); refine seq (r1 hC [4] [] ⟨[(4, sD7 list1)], []⟩ ?_); exact ret (rS (.slice (.int .i64)) e23)
 ·
  intro h24q e25; refine kpU [0, 3] [12] [] [] ?_; refine AW.skip (seq (seq (r1U hC [0, 3, 5] [12] [(5, sI 0)] [] ?_))); refine lpB (ζ := (List Int)) (fun x => ⟨[(0, sD7 x)], []⟩) (fun x => ST (n : Int) x) (fun x => x) (α := (List Int) × Nat) (fun x => ⟨[(0, sD7 x.1), (3, .ref 12 1 0), (5, sI ((x.2 : Nat) : Int))], [(12, .box 1 [sI (Pln.Kind p), sI (Pln.Table p), sD9 (Pln.Exprs p), sD7 (Pln.Cols p), sD10 (Pln.Kids p)])]⟩) (fun x => ST (n : Int) x.1) (fun x => (length (Pln.Kids p)) - x.2) (fun k x => addTables_l0 (addTables_r fuel) p k x.1 x.2) (list, 0) (by kernel_rfl) ?_ ?_ ?_
  · exact hst
  ·
   intro x k40q hI0 hk38 e39; obtain ⟨list1, i⟩ := x; refine seq (seq (r1U hC [0, 3, 5, 17] [12] [(17, sB (decide ((i : Int) < (length (Pln.Kids p) : Int))))] [] ?_)); refine cdE e39 ?_ ?_
   ·
    intro h41q e42; refine kpU [0, 3, 5] [12] [] [] ?_; refine AW.skip (seq (block (r0U hC [0, 3, 5] [12] [(0, sD7 ((addTables_r fuel) list1 (getD (Pln.Kids p) i Pln.zero)))] [] [IX (i : Int) (length (Pln.Kids p) : Int), ((∃ n : Nat, n ≤ 1000 ∧ ST (n : Int) list1 ∧ PVn n (getD (Pln.Kids p) i Pln.zero)) ∧ SizeOf.sizeOf (getD (Pln.Kids p) i Pln.zero) < fuel)] ?_ ?_)))
    ·
     exact ⟨IX.of (by omega), (⟨⟨n, hn, by assumption, hpv.kid (by omega)⟩, Nat.lt_of_lt_of_le (pkid_lt (by omega)) (Nat.le_of_lt_succ hpre.2)⟩), trivial⟩
    refine r0U hC [0, 3, 5] [12] [(5, sI ((i + 1 : Nat) : Int))] [] [R64 ((i + 1 : Nat) : Int)] ?_ ?_
    ·
     exact ⟨R64.of (by omega), trivial⟩
    refine bk (((addTables_r fuel) list1 (getD (Pln.Kids p) i Pln.zero)), i + 1) e42 hk38 ?_ ?_
    · exact (addT_st fuel list1 _ (by have := pkid_lt (t := p) (i := i) (by omega); omega) (hpv.kid (by omega)) hI0).1
    · omega
   · intro h43q e44; refine kpU [0] [] [] [] ?_; refine exit ?_; refine meet list1 (by kernel_rfl) ⟨?_, e44⟩; assumption
  · intro list1 hJ0 e45; have e46 := e25.trans (then_eq e45); refine seq (r1 hC [4] [] ⟨[(4, sD7 list1)], []⟩ ?_); exact ret (rS (.slice (.int .i64)) e46)

theorem addTables_fu : AllTV (addTables_sp.ps.map PK.ty) (fun tvs => addTables_sp.pre tvs → ∃ k, (addTables_spn k).pre tvs ∧ (addTables_spn k).fn tvs = addTables_sp.fn tvs ∧ (addTables_spn k).bx tvs = addTables_sp.bx tvs) :=
 (fun (list : List Int) (p : Pln) h => ⟨SizeOf.sizeOf p + 1, (show (∃ n : Nat, n ≤ 1000 ∧ ST (n : Int) list ∧ PVn n p) ∧ SizeOf.sizeOf p < SizeOf.sizeOf p + 1 from ⟨h, Nat.lt_succ_self _⟩), (show (addTables_spn (SizeOf.sizeOf p + 1)).fn [⟨(.slice (.int .i64)), (list : List Int)⟩, ⟨(.named 2), (p : Pln)⟩] = ([⟨(.slice (.int .i64)), (addTables_r (SizeOf.sizeOf p + 1) list p)⟩] : List TV) from by kernel_rfl).trans (show ([⟨(.slice (.int .i64)), (addTables_r (SizeOf.sizeOf p + 1) list p)⟩] : List TV) = addTables_sp.fn [⟨(.slice (.int .i64)), (list : List Int)⟩, ⟨(.named 2), (p : Pln)⟩] from by kernel_rfl), by kernel_rfl⟩)

theorem addTables_ok : FnOK Try.prog 84 addTables_sp := FnOK.of_fuel addTables_okn (fun _ => rfl) (fun _ => rfl) (AllTV.get addTables_fu)

end
end Go.Proofs.Ytodcdgolcbdkgaa


namespace Go.Proofs.Ytodcdgolcbdkgaa
open Go Go.Am
open Go.Am.AW (seq r1U ret kpU cdE r0U r1 meet block rS bk exit lpB r0 kp)
open List (length)
noncomputable section

def TablesOf (p : Pln) (ws : List Int) : (List Int) := (bif ((widthOf (Pln.mk (Pln.Kind p) (Pln.Table p) (Pln.Exprs p) (Pln.Cols p) (Pln.Kids p)) ws) == 0) then ([] : List Int) else (addTables ([] : List Int) (Pln.mk (Pln.Kind p) (Pln.Table p) (Pln.Exprs p) (Pln.Cols p) (Pln.Kids p))))

def TablesOf_sp : FnSpec := mkSpec [.val (.named 2), .val (.slice (.int .i64))] [.val (.slice (.int .i64))] (fun (p : Pln) (ws : List Int) => True) (fun (p : Pln) (ws : List Int) => [⟨(.slice (.int .i64)), (TablesOf p ws)⟩])

theorem TablesOf_ok : FnOK Try.prog 43 TablesOf_sp := by
 have hC : CtxOK Try.prog (mkCtx tyL [(77, widthOf_sp), (84, addTables_sp)]) := CtxOK.cons widthOf_ok (CtxOK.cons addTables_ok (CtxOK.nil tyOK)); refine FnOK.of_body Try.func43 (by kernel_rfl) rfl (C := (mkCtx tyL [(77, widthOf_sp), (84, addTables_sp)])) hC.ty (by kernel_rfl) ?_; intro (p : Pln) (ws : List Int) hwf hpre E; have e0 : TablesOf p ws = TablesOf p ws := rfl; refine seq (r1U hC [1, 2] [8] [(2, .ref 8 1 0)] [(8, .box 1 [sI (Pln.Kind p), sI (Pln.Table p), sD9 (Pln.Exprs p), sD7 (Pln.Cols p), sD10 (Pln.Kids p)])] ?_); refine seq (seq (r0U hC [2, 8] [8] [(8, sB ((widthOf (Pln.mk (Pln.Kind p) (Pln.Table p) (Pln.Exprs p) (Pln.Cols p) (Pln.Kids p)) ws) == 0))] [] [(True)] ?_ ?_))
 ·
  exact ⟨trivial, trivial⟩
 refine cdE e0 ?_ ?_
 · intro h1q e2; refine seq (r1 hC [4] [] ⟨[(4, .nilsl)], []⟩ ?_); exact ret (rS (.slice (.int .i64)) e2)
 ·
  intro h3q e4; refine kpU [2] [8] [] [] ?_; refine AW.skip (seq (r0 hC [4] [] ⟨[(4, sD7 (addTables ([] : List Int) (Pln.mk (Pln.Kind p) (Pln.Table p) (Pln.Exprs p) (Pln.Cols p) (Pln.Kids p))))], []⟩ [(∃ n : Nat, n ≤ 1000 ∧ ST (n : Int) ([] : List Int) ∧ PVn n (Pln.mk (Pln.Kind p) (Pln.Table p) (Pln.Exprs p) (Pln.Cols p) (Pln.Kids p)))] ?_ ?_))
  ·
   exact ⟨(by exact ⟨ws.length, by have := (PVw.mk' h3q).1.n4; omega, ST.nil, (PVw.mk' h3q).pvn⟩), trivial⟩
  exact ret (rS (.slice (.int .i64)) e4)

def iTablesOf_l0 (p : Pln) (ws : List Int) : Nat → Nat → (List Int) → (List Int)
 | 0, v13, list => list
 | k + 1, v13, list => (bif (decide ((v13 : Int) < (length ws : Int))) then (bif (scans (Pln.mk (Pln.Kind p) (Pln.Table p) (Pln.Exprs p) (Pln.Cols p) (Pln.Kids p)) (v13 : Int)) then (iTablesOf_l0 p ws k (v13 + 1) (list ++ ([(v13 : Int)] : List Int))) else (iTablesOf_l0 p ws k (v13 + 1) list)) else list)

def iTablesOf (p : Pln) (ws : List Int) : (List Int) := (bif ((iPlanWidth (Pln.mk (Pln.Kind p) (Pln.Table p) (Pln.Exprs p) (Pln.Cols p) (Pln.Kids p)) ws) == 0) then ([] : List Int) else (andThen (iTablesOf_l0 p ws ((length ws) - 0 + 1) 0 ([] : List Int)) (fun z => (fun (list : List Int) => list) z)))

def iTablesOf_sp : FnSpec := mkSpec [.val (.named 2), .val (.slice (.int .i64))] [.own (.int .i64)] (fun (p : Pln) (ws : List Int) => True) (fun (p : Pln) (ws : List Int) => [⟨(.slice (.int .i64)), (iTablesOf p ws)⟩])

theorem iTablesOf_ok : FnOK Try.prog 44 iTablesOf_sp := by
 have hC : CtxOK Try.prog (mkCtx tyL [(54, iPlanWidth_sp), (85, scans_sp)]) := CtxOK.cons iPlanWidth_ok (CtxOK.cons scans_ok (CtxOK.nil tyOK)); refine FnOK.of_body Try.func44 (by kernel_rfl) rfl (C := (mkCtx tyL [(54, iPlanWidth_sp), (85, scans_sp)])) hC.ty (by kernel_rfl) ?_; intro (p : Pln) (ws : List Int) hwf hpre E; have e0 : iTablesOf p ws = iTablesOf p ws := rfl; refine seq (r1U hC [1, 2] [8] [(2, .ref 8 1 0)] [(8, .box 1 [sI (Pln.Kind p), sI (Pln.Table p), sD9 (Pln.Exprs p), sD7 (Pln.Cols p), sD10 (Pln.Kids p)])] ?_); refine seq (seq (r0U hC [1, 2, 10] [8] [(10, sB ((iPlanWidth (Pln.mk (Pln.Kind p) (Pln.Table p) (Pln.Exprs p) (Pln.Cols p) (Pln.Kids p)) ws) == 0))] [] [(True)] ?_ ?_))
 ·
  exact ⟨trivial, trivial⟩
 refine cdE e0 ?_ ?_
 · intro h1q e2; refine seq (r1 hC [4] [] ⟨[(4, .nilsl)], []⟩ ?_); exact ret (rS (.slice (.int .i64)) e2)
 ·
  intro h3q e4; refine kpU [1, 2] [8] [] [] ?_; refine AW.skip (seq ?_); have hWL := WL.mk' h3q; have hq := h3q; rw [Pln.eta] at hq; have hn4 := (PVw.mk' (p := p) (ws := ws) (by rw [← iPlanWidth_eq]; exact hq)).1.n4; refine r1U hC [1, 2, 5] [8] [(5, .nilsl)] [] ?_; refine seq (seq (r1U hC [2, 5, 12, 13] [8] [(12, sI (length ws : Int)), (13, sI 0)] [] ?_)); refine AW.adopt 5 22 (.int .i64) (by kernel_rfl) (by kernel_rfl) ?_; refine kp [2, 5, 12, 13] [8, 22] ⟨[(2, .ref 8 1 0), (5, .arr 22 1), (12, sI (length ws : Int)), (13, sI 0)], [(8, .box 1 [sI (Pln.Kind p), sI (Pln.Table p), sD9 (Pln.Exprs p), sD7 (Pln.Cols p), sD10 (Pln.Kids p)]), (22, .arr 1 (.int .i64) (([] : List Int) : List Int))]⟩ ?_; refine lpB (ζ := (List Int)) (fun x => ⟨[(5, .arr 22 1)], [(22, .arr 1 (.int .i64) (x : List Int))]⟩) (fun x => True) (fun x => x) (α := Nat × (List Int)) (fun x => ⟨[(2, .ref 8 1 0), (5, .arr 22 1), (12, sI (length ws : Int)), (13, sI ((x.1 : Nat) : Int))], [(8, .box 1 [sI (Pln.Kind p), sI (Pln.Table p), sD9 (Pln.Exprs p), sD7 (Pln.Cols p), sD10 (Pln.Kids p)]), (22, .arr 1 (.int .i64) (x.2 : List Int))]⟩) (fun x => length x.2 ≤ x.1 ∧ x.1 ≤ length ws) (fun x => (length ws) - x.1) (fun k x => iTablesOf_l0 p ws k x.1 x.2) (0, ([] : List Int)) (by kernel_rfl) ?_ ?_ ?_
  · exact ⟨Nat.zero_le _, Nat.zero_le _⟩
  ·
   intro x k31q hI0 hk29 e30; obtain ⟨v13, list⟩ := x; replace hI0 : length list ≤ v13 ∧ v13 ≤ length ws := hI0; refine seq (r1U hC [2, 5, 12, 13, 14] [8, 22] [(14, sB (decide ((v13 : Int) < (length ws : Int))))] [] ?_); refine seq (cdE e30 ?_ ?_)
   ·
    intro h32q e33; refine kpU [2, 5, 12, 13] [8, 22] [] [] ?_; refine AW.skip (seq (block (seq (r1U hC [2, 5, 6, 12, 13] [8, 22] [(6, sI (v13 : Int))] [] ?_)))); refine seq (r0U hC [2, 5, 6, 12, 13, 17] [8, 22] [(17, sB (scans (Pln.mk (Pln.Kind p) (Pln.Table p) (Pln.Exprs p) (Pln.Cols p) (Pln.Kids p)) (v13 : Int)))] [] [(∃ ws, WL ws 8 (Pln.mk (Pln.Kind p) (Pln.Table p) (Pln.Exprs p) (Pln.Cols p) (Pln.Kids p)))] ?_ ?_)
    ·
     exact ⟨(by rw [Pln.eta]; exact ⟨ws, hWL⟩), trivial⟩
    refine cdE e33 ?_ ?_
    ·
     intro h34q e35; refine r0U hC [2, 5, 12, 13] [8, 22] [] [(22, .arr 1 (.int .i64) ((list ++ ([(v13 : Int)] : List Int)) : List Int))] [((length list : Int) + ((length ([(v13 : Int)] : List Int) : Nat) : Int) ≤ 4294967296)] ?_ ?_
     ·
      exact ⟨(by simp only [List.length_cons, List.length_nil]; omega), trivial⟩
     refine r0U hC [2, 5, 12, 13] [8, 22] [(13, sI ((v13 + 1 : Nat) : Int))] [] [R64 ((v13 + 1 : Nat) : Int)] ?_ ?_
     ·
      exact ⟨R64.of (by omega), trivial⟩
     refine bk (v13 + 1, (list ++ ([(v13 : Int)] : List Int))) e35 hk29 ?_ ?_
     · simp only [List.length_append, List.length_cons, List.length_nil]; omega
     · omega
    ·
     intro h36q e37; refine kpU [2, 5, 12, 13] [8, 22] [] [] ?_; refine AW.skip (r0U hC [2, 5, 12, 13] [8, 22] [(13, sI ((v13 + 1 : Nat) : Int))] [] [R64 ((v13 + 1 : Nat) : Int)] ?_ ?_)
     ·
      exact ⟨R64.of (by omega), trivial⟩
     refine bk (v13 + 1, list) e37 hk29 ?_ ?_
     · simp only [List.length_append, List.length_cons, List.length_nil]; omega
     · omega
   · intro h38q e39; refine kpU [5] [22] [] [] ?_; refine exit ?_; refine meet list (by kernel_rfl) ⟨?_, e39⟩; assumption
  · intro list hJ0 e40; have e41 := e4.trans (then_eq e40); refine seq (r1U hC [4] [22] [(4, .arr 22 1)] [] ?_); exact ret (rS (.slice (.int .i64)) e41)

end
end Go.Proofs.Ytodcdgolcbdkgaa
