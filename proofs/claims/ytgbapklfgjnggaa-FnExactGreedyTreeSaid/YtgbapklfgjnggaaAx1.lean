/-
  A part of the proof of this claim (Ax1): what functions of the program compute, and plain facts of that. No conditions.
-/
import Derived.Test.YtgbapklfgjnggaaAxT
set_option linter.all false
namespace Go.Proofs.Ytgbapklfgjnggaa
open Go Go.Am
open Go.Am.AW (seq r1U ret kpU cdE r0U r1 meet block rS bk exit lpB r0 kp)
open List (length getD)
noncomputable section

def inRange (n : Int) (low : Int) (high : Int) : Bool := (bif (decide (low ≤ n)) then (decide (n ≤ high)) else false)

def inRange_sp : FnSpec := mkSpec [.val (.int .i64), .val (.int .i64), .val (.int .i64)] [.val .bool] (fun (n : Int) (low : Int) (high : Int) => True) (fun (n : Int) (low : Int) (high : Int) => [⟨.bool, (inRange n low high)⟩])

theorem inRange_ok : FnOK Try.prog 56 inRange_sp := by
 have hC : CtxOK Try.prog (mkCtx tyL []) := CtxOK.nil tyOK; refine FnOK.of_body Try.func56 (by kernel_rfl) rfl (C := (mkCtx tyL [])) hC.ty (by kernel_rfl) ?_; intro (n : Int) (low : Int) (high : Int) hwf hpre E; have e0 : inRange n low high = inRange n low high := rfl; refine seq (r1U hC [0, 1, 2] [] [] [] ?_); refine seq (r0 hC [6] [] ⟨[(6, .bool (bif (decide (low ≤ n)) then (decide (n ≤ high)) else false))], []⟩ [(((decide (low ≤ n)) = true) → (((decide (low ≤ n)) = true))), (((decide (low ≤ n)) = true) → (((decide (low ≤ n)) = true))), (((decide (low ≤ n)) = true) → (((decide (low ≤ n)) = true)))] ?_ ?_)
 ·
  exact ⟨(by intro g1; assumption), (by intro g2; assumption), (by intro g3; assumption), trivial⟩
 exact ret (rS .bool e0)

theorem inRange_iff {n l h : Int} : inRange n l h = true ↔ l ≤ n ∧ n ≤ h := by
 unfold inRange; by_cases e : l ≤ n <;> simp [e]

def has (mask : Int) (i : Int) : Bool := (((mask / 2 ^ (Int.toNat i)) % 2) == 1)

def has_sp : FnSpec := mkSpec [.val (.int .i64), .val (.int .i64)] [.val .bool] (fun (mask : Int) (i : Int) => 0 ≤ mask ∧ (0 ≤ i ∧ i ≤ 64)) (fun (mask : Int) (i : Int) => [⟨.bool, (has mask i)⟩])

theorem has_ok : FnOK Try.prog 82 has_sp := by
 have hC : CtxOK Try.prog (mkCtx tyL []) := CtxOK.nil tyOK; refine FnOK.of_body Try.func82 (by kernel_rfl) rfl (C := (mkCtx tyL [])) hC.ty (by kernel_rfl) ?_; intro (mask : Int) (i : Int) hwf hpre E; have hpre : 0 ≤ mask ∧ (0 ≤ i ∧ i ≤ 64) := hpre; have e0 : has mask i = has mask i := rfl; refine seq (r1U hC [0, 1] [] [] [] ?_); refine seq (r0 hC [4] [] ⟨[(4, .bool (((mask / 2 ^ (Int.toNat i)) % 2) == 1))], []⟩ [(0 ≤ i ∧ i ≤ 64), (0 ≤ (mask / 2 ^ (Int.toNat i)) ∧ 0 < (2 : Int))] ?_ ?_)
 ·
  exact ⟨(by omega), (⟨Int.ediv_nonneg hpre.1 (Int.pow_nonneg (by decide)), by decide⟩), trivial⟩
 exact ret (rS .bool e0)

def validGraph_l0 (g : Graph) : Nat → Nat → Unit ⊕ Bool
 | 0, i => .inl ()
 | k + 1, i => (bif (decide ((i : Int) < (length (Graph.Rows g) : Int))) then (bif (!(inRange (getD (Graph.Rows g) i 0) 1 1000)) then (.inr false) else (validGraph_l0 g k (i + 1))) else (.inl ()))

def validGraph_l1 (g : Graph) : Nat → Nat → Unit ⊕ Bool
 | 0, i => .inl ()
 | k + 1, i => (bif (decide ((i : Int) < (length (Graph.Edges g) : Int))) then (bif (bif (bif (bif (decide ((Edge.A (getD (Graph.Edges g) i Edge.zero)) < 0)) then true else (decide ((Edge.B (getD (Graph.Edges g) i Edge.zero)) ≤ (Edge.A (getD (Graph.Edges g) i Edge.zero))))) then true else (decide ((length (Graph.Rows g) : Int) ≤ (Edge.B (getD (Graph.Edges g) i Edge.zero))))) then true else (!(inRange (Edge.Den (getD (Graph.Edges g) i Edge.zero)) 1 1000))) then (.inr false) else (validGraph_l1 g k (i + 1))) else (.inl ()))

def validGraph (g : Graph) : Bool := (Sum.elim (fun _ => (Sum.elim (fun _ => (bif (inRange (length (Graph.Rows g) : Int) 1 5) then (decide ((length (Graph.Edges g) : Int) ≤ 6)) else false)) (fun r => r) (validGraph_l1 g ((length (Graph.Edges g)) - 0 + 1) 0))) (fun r => r) (validGraph_l0 g ((length (Graph.Rows g)) - 0 + 1) 0))

def validGraph_sp : FnSpec := mkSpec [.val (.named 1)] [.val .bool] (fun (g : Graph) => True) (fun (g : Graph) => [⟨.bool, (validGraph g)⟩])

theorem validGraph_ok : FnOK Try.prog 55 validGraph_sp := by
 have hC : CtxOK Try.prog (mkCtx tyL [(56, inRange_sp)]) := CtxOK.cons inRange_ok (CtxOK.nil tyOK); refine FnOK.of_body Try.func55 (by kernel_rfl) rfl (C := (mkCtx tyL [(56, inRange_sp)])) hC.ty (by kernel_rfl) ?_; intro (g : Graph) hwf hpre E; have hw_g : Wf ⟨(.named 1), (g : Graph)⟩ := hwf _ (List.Mem.head _); have hl_g_Rows : (length (Graph.Rows g) : Int) ≤ 9223372036854775807 := (hw_g.field (tv := ⟨(.slice (.int .i64)), Graph.Rows g⟩) (List.Mem.head _)).len; have hl_g_Edges : (length (Graph.Edges g) : Int) ≤ 9223372036854775807 := (hw_g.field (tv := ⟨(.slice (.named 0)), Graph.Edges g⟩) (List.Mem.tail _ (List.Mem.head _))).len; have e0 : validGraph g = validGraph g := rfl; refine seq (r1 hC [1] [4] ⟨[(1, .ref 4 1 0)], [(4, .box 1 [.data (.slice (.int .i64)) ((Graph.Rows g) : List Int), .data (.slice (.named 0)) ((Graph.Edges g) : List Edge)])]⟩ ?_); refine seq (seq (r1U hC [1, 3] [4] [(3, .int .i64 0)] [] ?_)); refine lpB (ζ := Unit) (fun x => ⟨[(1, .ref 4 1 0)], [(4, .box 1 [.data (.slice (.int .i64)) ((Graph.Rows g) : List Int), .data (.slice (.named 0)) ((Graph.Edges g) : List Edge)])]⟩) (fun x => True) (fun x => (.inl ())) (α := Nat) (fun x => ⟨[(1, .ref 4 1 0), (3, .int .i64 (x : Int))], [(4, .box 1 [.data (.slice (.int .i64)) ((Graph.Rows g) : List Int), .data (.slice (.named 0)) ((Graph.Edges g) : List Edge)])]⟩) (fun x => True) (fun x => (length (Graph.Rows g)) - x) (fun k x => validGraph_l0 g k x) 0 (by kernel_rfl) ?_ ?_ ?_
 · exact trivial
 ·
  intro i k30q hI0 hk28 e29; refine seq (seq (r1U hC [1, 3, 10] [4] [(10, .bool (decide ((i : Int) < (length (Graph.Rows g) : Int))))] [] ?_)); refine cdE e29 ?_ ?_
  ·
   intro h31q e32; refine kpU [1, 3] [4] [] [] ?_; refine AW.skip (seq (block (seq (r0U hC [1, 3, 19] [4] [(19, .bool (!(inRange (getD (Graph.Rows g) i 0) 1 1000)))] [] [(0 ≤ (i : Int) ∧ (i : Int) < (length (Graph.Rows g) : Int)), (True)] ?_ ?_))))
   ·
    exact ⟨(by omega), trivial, trivial⟩
   refine cdE e32 ?_ ?_
   · intro h33q e34; refine seq (r1 hC [2] [] ⟨[(2, .bool false)], []⟩ ?_); refine ret ?_; have e35 := e0.trans (elim_r e34); exact rS .bool e35
   ·
    intro h36q e37; refine kpU [1, 3] [4] [] [] ?_; refine AW.skip (r0U hC [1, 3] [4] [(3, .int .i64 ((i + 1 : Nat) : Int))] [] [(-9223372036854775808 ≤ ((i + 1 : Nat) : Int) ∧ ((i + 1 : Nat) : Int) ≤ 9223372036854775807)] ?_ ?_)
    ·
     exact ⟨(by omega), trivial⟩
    refine bk (i + 1) e37 hk28 ?_ ?_
    · assumption
    · omega
  · intro h38q e39; refine kpU [1] [4] [] [] ?_; refine exit ?_; refine meet () (by kernel_rfl) ⟨?_, e39⟩; assumption
 ·
  intro x hJ0 e40; have e41 := e0.trans (elim_l e40); refine seq (seq (r1U hC [1, 4] [4] [(4, .int .i64 0)] [] ?_)); refine lpB (ζ := Unit) (fun x => ⟨[(1, .ref 4 1 0)], [(4, .box 1 [.data (.slice (.int .i64)) ((Graph.Rows g) : List Int), .data (.slice (.named 0)) ((Graph.Edges g) : List Edge)])]⟩) (fun x => True) (fun x => (.inl ())) (α := Nat) (fun x => ⟨[(1, .ref 4 1 0), (4, .int .i64 (x : Int))], [(4, .box 1 [.data (.slice (.int .i64)) ((Graph.Rows g) : List Int), .data (.slice (.named 0)) ((Graph.Edges g) : List Edge)])]⟩) (fun x => True) (fun x => (length (Graph.Edges g)) - x) (fun k x => validGraph_l1 g k x) 0 (by kernel_rfl) ?_ ?_ ?_
  · exact trivial
  ·
   intro i k71q hI1 hk69 e70; refine seq (seq (r1U hC [1, 4, 24] [4] [(24, .bool (decide ((i : Int) < (length (Graph.Edges g) : Int))))] [] ?_)); refine cdE e70 ?_ ?_
   ·
    intro h72q e73; refine kpU [1, 4] [4] [] [] ?_; refine AW.skip (seq (block (seq (r0U hC [1, 4, 5] [4, 20] [(5, .ref 20 1 0)] [(20, .box 1 [.int .i64 (Edge.A (getD (Graph.Edges g) i Edge.zero)), .int .i64 (Edge.B (getD (Graph.Edges g) i Edge.zero)), .int .i64 (Edge.Den (getD (Graph.Edges g) i Edge.zero))])] [(0 ≤ (i : Int) ∧ (i : Int) < (length (Graph.Edges g) : Int))] ?_ ?_))))
    ·
     exact ⟨(by omega), trivial⟩
    refine seq (r0U hC [1, 4, 55] [4] [(55, .bool (bif (bif (bif (decide ((Edge.A (getD (Graph.Edges g) i Edge.zero)) < 0)) then true else (decide ((Edge.B (getD (Graph.Edges g) i Edge.zero)) ≤ (Edge.A (getD (Graph.Edges g) i Edge.zero))))) then true else (decide ((length (Graph.Rows g) : Int) ≤ (Edge.B (getD (Graph.Edges g) i Edge.zero))))) then true else (!(inRange (Edge.Den (getD (Graph.Edges g) i Edge.zero)) 1 1000))))] [] [(((decide ((Edge.A (getD (Graph.Edges g) i Edge.zero)) < 0)) = false) → (((decide ((Edge.A (getD (Graph.Edges g) i Edge.zero)) < 0)) = false))), (((decide ((Edge.A (getD (Graph.Edges g) i Edge.zero)) < 0)) = false) → (((decide ((Edge.A (getD (Graph.Edges g) i Edge.zero)) < 0)) = false))), (((decide ((Edge.A (getD (Graph.Edges g) i Edge.zero)) < 0)) = false) → (((decide ((Edge.A (getD (Graph.Edges g) i Edge.zero)) < 0)) = false))), (((decide ((Edge.A (getD (Graph.Edges g) i Edge.zero)) < 0)) = false) → (((decide ((Edge.A (getD (Graph.Edges g) i Edge.zero)) < 0)) = false))), (((decide ((Edge.A (getD (Graph.Edges g) i Edge.zero)) < 0)) = false) → (((decide ((Edge.A (getD (Graph.Edges g) i Edge.zero)) < 0)) = false))), (((bif (decide ((Edge.A (getD (Graph.Edges g) i Edge.zero)) < 0)) then true else (decide ((Edge.B (getD (Graph.Edges g) i Edge.zero)) ≤ (Edge.A (getD (Graph.Edges g) i Edge.zero))))) = false) → (((bif (decide ((Edge.A (getD (Graph.Edges g) i Edge.zero)) < 0)) then true else (decide ((Edge.B (getD (Graph.Edges g) i Edge.zero)) ≤ (Edge.A (getD (Graph.Edges g) i Edge.zero))))) = false))), (((bif (decide ((Edge.A (getD (Graph.Edges g) i Edge.zero)) < 0)) then true else (decide ((Edge.B (getD (Graph.Edges g) i Edge.zero)) ≤ (Edge.A (getD (Graph.Edges g) i Edge.zero))))) = false) → (((bif (decide ((Edge.A (getD (Graph.Edges g) i Edge.zero)) < 0)) then true else (decide ((Edge.B (getD (Graph.Edges g) i Edge.zero)) ≤ (Edge.A (getD (Graph.Edges g) i Edge.zero))))) = false))), (((bif (decide ((Edge.A (getD (Graph.Edges g) i Edge.zero)) < 0)) then true else (decide ((Edge.B (getD (Graph.Edges g) i Edge.zero)) ≤ (Edge.A (getD (Graph.Edges g) i Edge.zero))))) = false) → (((bif (decide ((Edge.A (getD (Graph.Edges g) i Edge.zero)) < 0)) then true else (decide ((Edge.B (getD (Graph.Edges g) i Edge.zero)) ≤ (Edge.A (getD (Graph.Edges g) i Edge.zero))))) = false))), (((bif (decide ((Edge.A (getD (Graph.Edges g) i Edge.zero)) < 0)) then true else (decide ((Edge.B (getD (Graph.Edges g) i Edge.zero)) ≤ (Edge.A (getD (Graph.Edges g) i Edge.zero))))) = false) → (((bif (decide ((Edge.A (getD (Graph.Edges g) i Edge.zero)) < 0)) then true else (decide ((Edge.B (getD (Graph.Edges g) i Edge.zero)) ≤ (Edge.A (getD (Graph.Edges g) i Edge.zero))))) = false))), (((bif (decide ((Edge.A (getD (Graph.Edges g) i Edge.zero)) < 0)) then true else (decide ((Edge.B (getD (Graph.Edges g) i Edge.zero)) ≤ (Edge.A (getD (Graph.Edges g) i Edge.zero))))) = false) → (((bif (decide ((Edge.A (getD (Graph.Edges g) i Edge.zero)) < 0)) then true else (decide ((Edge.B (getD (Graph.Edges g) i Edge.zero)) ≤ (Edge.A (getD (Graph.Edges g) i Edge.zero))))) = false))), (((bif (decide ((Edge.A (getD (Graph.Edges g) i Edge.zero)) < 0)) then true else (decide ((Edge.B (getD (Graph.Edges g) i Edge.zero)) ≤ (Edge.A (getD (Graph.Edges g) i Edge.zero))))) = false) → (((bif (decide ((Edge.A (getD (Graph.Edges g) i Edge.zero)) < 0)) then true else (decide ((Edge.B (getD (Graph.Edges g) i Edge.zero)) ≤ (Edge.A (getD (Graph.Edges g) i Edge.zero))))) = false))), (((bif (bif (decide ((Edge.A (getD (Graph.Edges g) i Edge.zero)) < 0)) then true else (decide ((Edge.B (getD (Graph.Edges g) i Edge.zero)) ≤ (Edge.A (getD (Graph.Edges g) i Edge.zero))))) then true else (decide ((length (Graph.Rows g) : Int) ≤ (Edge.B (getD (Graph.Edges g) i Edge.zero))))) = false) → (((bif (bif (decide ((Edge.A (getD (Graph.Edges g) i Edge.zero)) < 0)) then true else (decide ((Edge.B (getD (Graph.Edges g) i Edge.zero)) ≤ (Edge.A (getD (Graph.Edges g) i Edge.zero))))) then true else (decide ((length (Graph.Rows g) : Int) ≤ (Edge.B (getD (Graph.Edges g) i Edge.zero))))) = false))), (((bif (bif (decide ((Edge.A (getD (Graph.Edges g) i Edge.zero)) < 0)) then true else (decide ((Edge.B (getD (Graph.Edges g) i Edge.zero)) ≤ (Edge.A (getD (Graph.Edges g) i Edge.zero))))) then true else (decide ((length (Graph.Rows g) : Int) ≤ (Edge.B (getD (Graph.Edges g) i Edge.zero))))) = false) → (((bif (bif (decide ((Edge.A (getD (Graph.Edges g) i Edge.zero)) < 0)) then true else (decide ((Edge.B (getD (Graph.Edges g) i Edge.zero)) ≤ (Edge.A (getD (Graph.Edges g) i Edge.zero))))) then true else (decide ((length (Graph.Rows g) : Int) ≤ (Edge.B (getD (Graph.Edges g) i Edge.zero))))) = false))), (((bif (bif (decide ((Edge.A (getD (Graph.Edges g) i Edge.zero)) < 0)) then true else (decide ((Edge.B (getD (Graph.Edges g) i Edge.zero)) ≤ (Edge.A (getD (Graph.Edges g) i Edge.zero))))) then true else (decide ((length (Graph.Rows g) : Int) ≤ (Edge.B (getD (Graph.Edges g) i Edge.zero))))) = false) → (True)), (((bif (bif (decide ((Edge.A (getD (Graph.Edges g) i Edge.zero)) < 0)) then true else (decide ((Edge.B (getD (Graph.Edges g) i Edge.zero)) ≤ (Edge.A (getD (Graph.Edges g) i Edge.zero))))) then true else (decide ((length (Graph.Rows g) : Int) ≤ (Edge.B (getD (Graph.Edges g) i Edge.zero))))) = false) → (((bif (bif (decide ((Edge.A (getD (Graph.Edges g) i Edge.zero)) < 0)) then true else (decide ((Edge.B (getD (Graph.Edges g) i Edge.zero)) ≤ (Edge.A (getD (Graph.Edges g) i Edge.zero))))) then true else (decide ((length (Graph.Rows g) : Int) ≤ (Edge.B (getD (Graph.Edges g) i Edge.zero))))) = false))), (((bif (bif (decide ((Edge.A (getD (Graph.Edges g) i Edge.zero)) < 0)) then true else (decide ((Edge.B (getD (Graph.Edges g) i Edge.zero)) ≤ (Edge.A (getD (Graph.Edges g) i Edge.zero))))) then true else (decide ((length (Graph.Rows g) : Int) ≤ (Edge.B (getD (Graph.Edges g) i Edge.zero))))) = false) → (((bif (bif (decide ((Edge.A (getD (Graph.Edges g) i Edge.zero)) < 0)) then true else (decide ((Edge.B (getD (Graph.Edges g) i Edge.zero)) ≤ (Edge.A (getD (Graph.Edges g) i Edge.zero))))) then true else (decide ((length (Graph.Rows g) : Int) ≤ (Edge.B (getD (Graph.Edges g) i Edge.zero))))) = false)))] ?_ ?_)
    ·
     exact ⟨(by intro g74; assumption), (by intro g75; assumption), (by intro g76; assumption), (by intro g77; assumption), (by intro g78; assumption), (by intro g79; assumption), (by intro g80; assumption), (by intro g81; assumption), (by intro g82; assumption), (by intro g83; assumption), (by intro g84; assumption), (by intro g85; assumption), (by intro g86; assumption), (by intro g87; trivial), (by intro g88; assumption), (by intro g89; assumption), trivial⟩
    refine cdE e73 ?_ ?_
    · intro h90q e91; refine seq (r1 hC [2] [] ⟨[(2, .bool false)], []⟩ ?_); refine ret ?_; have e92 := e41.trans (elim_r e91); exact rS .bool e92
    ·
     intro h93q e94; refine kpU [1, 4] [4] [] [] ?_; refine AW.skip (r0U hC [1, 4] [4] [(4, .int .i64 ((i + 1 : Nat) : Int))] [] [(-9223372036854775808 ≤ ((i + 1 : Nat) : Int) ∧ ((i + 1 : Nat) : Int) ≤ 9223372036854775807)] ?_ ?_)
     ·
      exact ⟨(by omega), trivial⟩
     refine bk (i + 1) e94 hk69 ?_ ?_
     · assumption
     · omega
   · intro h95q e96; refine kpU [1] [4] [] [] ?_; refine exit ?_; refine meet () (by kernel_rfl) ⟨?_, e96⟩; assumption
  ·
   intro x hJ1 e97; have e98 := e41.trans (elim_l e97); refine seq (r0 hC [2] [] ⟨[(2, .bool (bif (inRange (length (Graph.Rows g) : Int) 1 5) then (decide ((length (Graph.Edges g) : Int) ≤ 6)) else false))], []⟩ [(True), (((inRange (length (Graph.Rows g) : Int) 1 5) = true) → (((inRange (length (Graph.Rows g) : Int) 1 5) = true))), (((inRange (length (Graph.Rows g) : Int) 1 5) = true) → (((inRange (length (Graph.Rows g) : Int) 1 5) = true))), (((inRange (length (Graph.Rows g) : Int) 1 5) = true) → (((inRange (length (Graph.Rows g) : Int) 1 5) = true))), (((inRange (length (Graph.Rows g) : Int) 1 5) = true) → (((inRange (length (Graph.Rows g) : Int) 1 5) = true)))] ?_ ?_)
   ·
    exact ⟨trivial, (by intro g99; assumption), (by intro g100; assumption), (by intro g101; assumption), (by intro g102; assumption), trivial⟩
   exact ret (rS .bool e98)

def ValidGraph_l0 (g : Graph) : Nat → Nat → Unit ⊕ Bool
 | 0, v26 => .inl ()
 | k + 1, v26 => (bif (decide ((v26 : Int) < (length (Graph.Rows g) : Int))) then (bif (bif (decide ((getD (Graph.Rows g) v26 0) < 1)) then true else (decide (1000 < (getD (Graph.Rows g) v26 0)))) then (.inr false) else (ValidGraph_l0 g k (v26 + 1))) else (.inl ()))

def ValidGraph_l1 (g : Graph) : Nat → Nat → Unit ⊕ Bool
 | 0, v40 => .inl ()
 | k + 1, v40 => (bif (decide ((v40 : Int) < (length (Graph.Edges g) : Int))) then (bif (bif (bif (bif (bif (decide ((Edge.A (getD (Graph.Edges g) v40 Edge.zero)) < 0)) then true else (decide ((Edge.B (getD (Graph.Edges g) v40 Edge.zero)) ≤ (Edge.A (getD (Graph.Edges g) v40 Edge.zero))))) then true else (decide ((length (Graph.Rows g) : Int) ≤ (Edge.B (getD (Graph.Edges g) v40 Edge.zero))))) then true else (decide ((Edge.Den (getD (Graph.Edges g) v40 Edge.zero)) < 1))) then true else (decide (1000 < (Edge.Den (getD (Graph.Edges g) v40 Edge.zero))))) then (.inr false) else (ValidGraph_l1 g k (v40 + 1))) else (.inl ()))

def ValidGraph (g : Graph) : Bool := (bif (bif (bif (decide ((length (Graph.Rows g) : Int) < 1)) then true else (decide (5 < (length (Graph.Rows g) : Int)))) then true else (decide (6 < (length (Graph.Edges g) : Int)))) then false else (Sum.elim (fun _ => (Sum.elim (fun _ => true) (fun r => r) (ValidGraph_l1 g ((length (Graph.Edges g)) - 0 + 1) 0))) (fun r => r) (ValidGraph_l0 g ((length (Graph.Rows g)) - 0 + 1) 0)))

def ValidGraph_sp : FnSpec := mkSpec [.val (.named 1)] [.val .bool] (fun (g : Graph) => True) (fun (g : Graph) => [⟨.bool, (ValidGraph g)⟩])

theorem ValidGraph_ok : FnOK Try.prog 52 ValidGraph_sp := by
 have hC : CtxOK Try.prog (mkCtx tyL []) := CtxOK.nil tyOK; refine FnOK.of_body Try.func52 (by kernel_rfl) rfl (C := (mkCtx tyL [])) hC.ty (by kernel_rfl) ?_; intro (g : Graph) hwf hpre E; have e0 : ValidGraph g = ValidGraph g := rfl; refine seq (r1 hC [1] [4] ⟨[(1, .ref 4 1 0)], [(4, .box 1 [.data (.slice (.int .i64)) ((Graph.Rows g) : List Int), .data (.slice (.named 0)) ((Graph.Edges g) : List Edge)])]⟩ ?_); refine seq (seq (r0U hC [1, 22] [4] [(22, .bool (bif (bif (decide ((length (Graph.Rows g) : Int) < 1)) then true else (decide (5 < (length (Graph.Rows g) : Int)))) then true else (decide (6 < (length (Graph.Edges g) : Int)))))] [] [(((decide ((length (Graph.Rows g) : Int) < 1)) = false) → (((decide ((length (Graph.Rows g) : Int) < 1)) = false))), (((decide ((length (Graph.Rows g) : Int) < 1)) = false) → (((decide ((length (Graph.Rows g) : Int) < 1)) = false))), (((decide ((length (Graph.Rows g) : Int) < 1)) = false) → (((decide ((length (Graph.Rows g) : Int) < 1)) = false))), (((decide ((length (Graph.Rows g) : Int) < 1)) = false) → (((decide ((length (Graph.Rows g) : Int) < 1)) = false))), (((bif (decide ((length (Graph.Rows g) : Int) < 1)) then true else (decide (5 < (length (Graph.Rows g) : Int)))) = false) → (((bif (decide ((length (Graph.Rows g) : Int) < 1)) then true else (decide (5 < (length (Graph.Rows g) : Int)))) = false))), (((bif (decide ((length (Graph.Rows g) : Int) < 1)) then true else (decide (5 < (length (Graph.Rows g) : Int)))) = false) → (((bif (decide ((length (Graph.Rows g) : Int) < 1)) then true else (decide (5 < (length (Graph.Rows g) : Int)))) = false))), (((bif (decide ((length (Graph.Rows g) : Int) < 1)) then true else (decide (5 < (length (Graph.Rows g) : Int)))) = false) → (((bif (decide ((length (Graph.Rows g) : Int) < 1)) then true else (decide (5 < (length (Graph.Rows g) : Int)))) = false))), (((bif (decide ((length (Graph.Rows g) : Int) < 1)) then true else (decide (5 < (length (Graph.Rows g) : Int)))) = false) → (((bif (decide ((length (Graph.Rows g) : Int) < 1)) then true else (decide (5 < (length (Graph.Rows g) : Int)))) = false)))] ?_ ?_))
 ·
  exact ⟨(by intro g1; assumption), (by intro g2; assumption), (by intro g3; assumption), (by intro g4; assumption), (by intro g5; assumption), (by intro g6; assumption), (by intro g7; assumption), (by intro g8; assumption), trivial⟩
 refine cdE e0 ?_ ?_
 · intro h9q e10; refine seq (r1 hC [2] [] ⟨[(2, .bool false)], []⟩ ?_); exact ret (rS .bool e10)
 ·
  intro h11q e12; refine kpU [1] [4] [] [] ?_; refine AW.skip (seq (seq (r1U hC [1, 24, 25, 26] [4] [(24, .data (.slice (.int .i64)) ((Graph.Rows g) : List Int)), (25, .int .i64 (length (Graph.Rows g) : Int)), (26, .int .i64 0)] [] ?_))); refine lpB (ζ := Unit) (fun x => ⟨[(1, .ref 4 1 0)], [(4, .box 1 [.data (.slice (.int .i64)) ((Graph.Rows g) : List Int), .data (.slice (.named 0)) ((Graph.Edges g) : List Edge)])]⟩) (fun x => True) (fun x => (.inl ())) (α := Nat) (fun x => ⟨[(1, .ref 4 1 0), (24, .data (.slice (.int .i64)) ((Graph.Rows g) : List Int)), (25, .int .i64 (length (Graph.Rows g) : Int)), (26, .int .i64 (x : Int))], [(4, .box 1 [.data (.slice (.int .i64)) ((Graph.Rows g) : List Int), .data (.slice (.named 0)) ((Graph.Edges g) : List Edge)])]⟩) (fun x => True) (fun x => (length (Graph.Rows g)) - x) (fun k x => ValidGraph_l0 g k x) 0 (by kernel_rfl) ?_ ?_ ?_
  · exact trivial
  ·
   intro v26 k42q hI0 hk40 e41; refine seq (r1U hC [1, 24, 25, 26, 27] [4] [(27, .bool (decide ((v26 : Int) < (length (Graph.Rows g) : Int))))] [] ?_); refine seq (cdE e41 ?_ ?_)
   ·
    intro h43q e44; refine kpU [1, 24, 25, 26] [4] [] [] ?_; refine AW.skip (seq (block (seq (r0U hC [1, 4, 24, 25, 26] [4] [(4, .int .i64 (getD (Graph.Rows g) v26 0))] [] [(0 ≤ (v26 : Int) ∧ (v26 : Int) < (length (Graph.Rows g) : Int))] ?_ ?_))))
    ·
     exact ⟨(by omega), trivial⟩
    refine seq (r0U hC [1, 24, 25, 26, 35] [4] [(35, .bool (bif (decide ((getD (Graph.Rows g) v26 0) < 1)) then true else (decide (1000 < (getD (Graph.Rows g) v26 0)))))] [] [(((decide ((getD (Graph.Rows g) v26 0) < 1)) = false) → (((decide ((getD (Graph.Rows g) v26 0) < 1)) = false))), (((decide ((getD (Graph.Rows g) v26 0) < 1)) = false) → (((decide ((getD (Graph.Rows g) v26 0) < 1)) = false)))] ?_ ?_)
    ·
     exact ⟨(by intro g45; assumption), (by intro g46; assumption), trivial⟩
    refine cdE e44 ?_ ?_
    · intro h47q e48; refine seq (r1 hC [2] [] ⟨[(2, .bool false)], []⟩ ?_); refine ret ?_; have e49 := e12.trans (elim_r e48); exact rS .bool e49
    ·
     intro h50q e51; refine kpU [1, 24, 25, 26] [4] [] [] ?_; refine AW.skip (r0U hC [1, 24, 25, 26] [4] [(26, .int .i64 ((v26 + 1 : Nat) : Int))] [] [(-9223372036854775808 ≤ ((v26 + 1 : Nat) : Int) ∧ ((v26 + 1 : Nat) : Int) ≤ 9223372036854775807)] ?_ ?_)
     ·
      exact ⟨(by omega), trivial⟩
     refine bk (v26 + 1) e51 hk40 ?_ ?_
     · assumption
     · omega
   · intro h52q e53; refine kpU [1] [4] [] [] ?_; refine exit ?_; refine meet () (by kernel_rfl) ⟨?_, e53⟩; assumption
  ·
   intro x hJ0 e54; have e55 := e12.trans (elim_l e54); refine seq (seq (r1U hC [1, 38, 39, 40] [4] [(38, .data (.slice (.named 0)) ((Graph.Edges g) : List Edge)), (39, .int .i64 (length (Graph.Edges g) : Int)), (40, .int .i64 0)] [] ?_)); refine lpB (ζ := Unit) (fun x => ⟨[], []⟩) (fun x => True) (fun x => (.inl ())) (α := Nat) (fun x => ⟨[(1, .ref 4 1 0), (38, .data (.slice (.named 0)) ((Graph.Edges g) : List Edge)), (39, .int .i64 (length (Graph.Edges g) : Int)), (40, .int .i64 (x : Int))], [(4, .box 1 [.data (.slice (.int .i64)) ((Graph.Rows g) : List Int), .data (.slice (.named 0)) ((Graph.Edges g) : List Edge)])]⟩) (fun x => True) (fun x => (length (Graph.Edges g)) - x) (fun k x => ValidGraph_l1 g k x) 0 (by kernel_rfl) ?_ ?_ ?_
   · exact trivial
   ·
    intro v40 k85q hI1 hk83 e84; refine seq (r1U hC [1, 38, 39, 40, 41] [4] [(41, .bool (decide ((v40 : Int) < (length (Graph.Edges g) : Int))))] [] ?_); refine seq (cdE e84 ?_ ?_)
    ·
     intro h86q e87; refine kpU [1, 38, 39, 40] [4] [] [] ?_; refine AW.skip (seq (block (seq (r0U hC [1, 6, 38, 39, 40] [4, 24] [(6, .ref 24 1 0)] [(24, .box 1 [.int .i64 (Edge.A (getD (Graph.Edges g) v40 Edge.zero)), .int .i64 (Edge.B (getD (Graph.Edges g) v40 Edge.zero)), .int .i64 (Edge.Den (getD (Graph.Edges g) v40 Edge.zero))])] [(0 ≤ (v40 : Int) ∧ (v40 : Int) < (length (Graph.Edges g) : Int))] ?_ ?_))))
     ·
      exact ⟨(by omega), trivial⟩
     refine seq (r0U hC [1, 38, 39, 40, 71] [4] [(71, .bool (bif (bif (bif (bif (decide ((Edge.A (getD (Graph.Edges g) v40 Edge.zero)) < 0)) then true else (decide ((Edge.B (getD (Graph.Edges g) v40 Edge.zero)) ≤ (Edge.A (getD (Graph.Edges g) v40 Edge.zero))))) then true else (decide ((length (Graph.Rows g) : Int) ≤ (Edge.B (getD (Graph.Edges g) v40 Edge.zero))))) then true else (decide ((Edge.Den (getD (Graph.Edges g) v40 Edge.zero)) < 1))) then true else (decide (1000 < (Edge.Den (getD (Graph.Edges g) v40 Edge.zero))))))] [] [(((decide ((Edge.A (getD (Graph.Edges g) v40 Edge.zero)) < 0)) = false) → (((decide ((Edge.A (getD (Graph.Edges g) v40 Edge.zero)) < 0)) = false))), (((decide ((Edge.A (getD (Graph.Edges g) v40 Edge.zero)) < 0)) = false) → (((decide ((Edge.A (getD (Graph.Edges g) v40 Edge.zero)) < 0)) = false))), (((decide ((Edge.A (getD (Graph.Edges g) v40 Edge.zero)) < 0)) = false) → (((decide ((Edge.A (getD (Graph.Edges g) v40 Edge.zero)) < 0)) = false))), (((decide ((Edge.A (getD (Graph.Edges g) v40 Edge.zero)) < 0)) = false) → (((decide ((Edge.A (getD (Graph.Edges g) v40 Edge.zero)) < 0)) = false))), (((decide ((Edge.A (getD (Graph.Edges g) v40 Edge.zero)) < 0)) = false) → (((decide ((Edge.A (getD (Graph.Edges g) v40 Edge.zero)) < 0)) = false))), (((bif (decide ((Edge.A (getD (Graph.Edges g) v40 Edge.zero)) < 0)) then true else (decide ((Edge.B (getD (Graph.Edges g) v40 Edge.zero)) ≤ (Edge.A (getD (Graph.Edges g) v40 Edge.zero))))) = false) → (((bif (decide ((Edge.A (getD (Graph.Edges g) v40 Edge.zero)) < 0)) then true else (decide ((Edge.B (getD (Graph.Edges g) v40 Edge.zero)) ≤ (Edge.A (getD (Graph.Edges g) v40 Edge.zero))))) = false))), (((bif (decide ((Edge.A (getD (Graph.Edges g) v40 Edge.zero)) < 0)) then true else (decide ((Edge.B (getD (Graph.Edges g) v40 Edge.zero)) ≤ (Edge.A (getD (Graph.Edges g) v40 Edge.zero))))) = false) → (((bif (decide ((Edge.A (getD (Graph.Edges g) v40 Edge.zero)) < 0)) then true else (decide ((Edge.B (getD (Graph.Edges g) v40 Edge.zero)) ≤ (Edge.A (getD (Graph.Edges g) v40 Edge.zero))))) = false))), (((bif (decide ((Edge.A (getD (Graph.Edges g) v40 Edge.zero)) < 0)) then true else (decide ((Edge.B (getD (Graph.Edges g) v40 Edge.zero)) ≤ (Edge.A (getD (Graph.Edges g) v40 Edge.zero))))) = false) → (((bif (decide ((Edge.A (getD (Graph.Edges g) v40 Edge.zero)) < 0)) then true else (decide ((Edge.B (getD (Graph.Edges g) v40 Edge.zero)) ≤ (Edge.A (getD (Graph.Edges g) v40 Edge.zero))))) = false))), (((bif (decide ((Edge.A (getD (Graph.Edges g) v40 Edge.zero)) < 0)) then true else (decide ((Edge.B (getD (Graph.Edges g) v40 Edge.zero)) ≤ (Edge.A (getD (Graph.Edges g) v40 Edge.zero))))) = false) → (((bif (decide ((Edge.A (getD (Graph.Edges g) v40 Edge.zero)) < 0)) then true else (decide ((Edge.B (getD (Graph.Edges g) v40 Edge.zero)) ≤ (Edge.A (getD (Graph.Edges g) v40 Edge.zero))))) = false))), (((bif (decide ((Edge.A (getD (Graph.Edges g) v40 Edge.zero)) < 0)) then true else (decide ((Edge.B (getD (Graph.Edges g) v40 Edge.zero)) ≤ (Edge.A (getD (Graph.Edges g) v40 Edge.zero))))) = false) → (((bif (decide ((Edge.A (getD (Graph.Edges g) v40 Edge.zero)) < 0)) then true else (decide ((Edge.B (getD (Graph.Edges g) v40 Edge.zero)) ≤ (Edge.A (getD (Graph.Edges g) v40 Edge.zero))))) = false))), (((bif (decide ((Edge.A (getD (Graph.Edges g) v40 Edge.zero)) < 0)) then true else (decide ((Edge.B (getD (Graph.Edges g) v40 Edge.zero)) ≤ (Edge.A (getD (Graph.Edges g) v40 Edge.zero))))) = false) → (((bif (decide ((Edge.A (getD (Graph.Edges g) v40 Edge.zero)) < 0)) then true else (decide ((Edge.B (getD (Graph.Edges g) v40 Edge.zero)) ≤ (Edge.A (getD (Graph.Edges g) v40 Edge.zero))))) = false))), (((bif (bif (decide ((Edge.A (getD (Graph.Edges g) v40 Edge.zero)) < 0)) then true else (decide ((Edge.B (getD (Graph.Edges g) v40 Edge.zero)) ≤ (Edge.A (getD (Graph.Edges g) v40 Edge.zero))))) then true else (decide ((length (Graph.Rows g) : Int) ≤ (Edge.B (getD (Graph.Edges g) v40 Edge.zero))))) = false) → (((bif (bif (decide ((Edge.A (getD (Graph.Edges g) v40 Edge.zero)) < 0)) then true else (decide ((Edge.B (getD (Graph.Edges g) v40 Edge.zero)) ≤ (Edge.A (getD (Graph.Edges g) v40 Edge.zero))))) then true else (decide ((length (Graph.Rows g) : Int) ≤ (Edge.B (getD (Graph.Edges g) v40 Edge.zero))))) = false))), (((bif (bif (decide ((Edge.A (getD (Graph.Edges g) v40 Edge.zero)) < 0)) then true else (decide ((Edge.B (getD (Graph.Edges g) v40 Edge.zero)) ≤ (Edge.A (getD (Graph.Edges g) v40 Edge.zero))))) then true else (decide ((length (Graph.Rows g) : Int) ≤ (Edge.B (getD (Graph.Edges g) v40 Edge.zero))))) = false) → (((bif (bif (decide ((Edge.A (getD (Graph.Edges g) v40 Edge.zero)) < 0)) then true else (decide ((Edge.B (getD (Graph.Edges g) v40 Edge.zero)) ≤ (Edge.A (getD (Graph.Edges g) v40 Edge.zero))))) then true else (decide ((length (Graph.Rows g) : Int) ≤ (Edge.B (getD (Graph.Edges g) v40 Edge.zero))))) = false))), (((bif (bif (decide ((Edge.A (getD (Graph.Edges g) v40 Edge.zero)) < 0)) then true else (decide ((Edge.B (getD (Graph.Edges g) v40 Edge.zero)) ≤ (Edge.A (getD (Graph.Edges g) v40 Edge.zero))))) then true else (decide ((length (Graph.Rows g) : Int) ≤ (Edge.B (getD (Graph.Edges g) v40 Edge.zero))))) = false) → (((bif (bif (decide ((Edge.A (getD (Graph.Edges g) v40 Edge.zero)) < 0)) then true else (decide ((Edge.B (getD (Graph.Edges g) v40 Edge.zero)) ≤ (Edge.A (getD (Graph.Edges g) v40 Edge.zero))))) then true else (decide ((length (Graph.Rows g) : Int) ≤ (Edge.B (getD (Graph.Edges g) v40 Edge.zero))))) = false))), (((bif (bif (bif (decide ((Edge.A (getD (Graph.Edges g) v40 Edge.zero)) < 0)) then true else (decide ((Edge.B (getD (Graph.Edges g) v40 Edge.zero)) ≤ (Edge.A (getD (Graph.Edges g) v40 Edge.zero))))) then true else (decide ((length (Graph.Rows g) : Int) ≤ (Edge.B (getD (Graph.Edges g) v40 Edge.zero))))) then true else (decide ((Edge.Den (getD (Graph.Edges g) v40 Edge.zero)) < 1))) = false) → (((bif (bif (bif (decide ((Edge.A (getD (Graph.Edges g) v40 Edge.zero)) < 0)) then true else (decide ((Edge.B (getD (Graph.Edges g) v40 Edge.zero)) ≤ (Edge.A (getD (Graph.Edges g) v40 Edge.zero))))) then true else (decide ((length (Graph.Rows g) : Int) ≤ (Edge.B (getD (Graph.Edges g) v40 Edge.zero))))) then true else (decide ((Edge.Den (getD (Graph.Edges g) v40 Edge.zero)) < 1))) = false))), (((bif (bif (bif (decide ((Edge.A (getD (Graph.Edges g) v40 Edge.zero)) < 0)) then true else (decide ((Edge.B (getD (Graph.Edges g) v40 Edge.zero)) ≤ (Edge.A (getD (Graph.Edges g) v40 Edge.zero))))) then true else (decide ((length (Graph.Rows g) : Int) ≤ (Edge.B (getD (Graph.Edges g) v40 Edge.zero))))) then true else (decide ((Edge.Den (getD (Graph.Edges g) v40 Edge.zero)) < 1))) = false) → (((bif (bif (bif (decide ((Edge.A (getD (Graph.Edges g) v40 Edge.zero)) < 0)) then true else (decide ((Edge.B (getD (Graph.Edges g) v40 Edge.zero)) ≤ (Edge.A (getD (Graph.Edges g) v40 Edge.zero))))) then true else (decide ((length (Graph.Rows g) : Int) ≤ (Edge.B (getD (Graph.Edges g) v40 Edge.zero))))) then true else (decide ((Edge.Den (getD (Graph.Edges g) v40 Edge.zero)) < 1))) = false))), (((bif (bif (bif (decide ((Edge.A (getD (Graph.Edges g) v40 Edge.zero)) < 0)) then true else (decide ((Edge.B (getD (Graph.Edges g) v40 Edge.zero)) ≤ (Edge.A (getD (Graph.Edges g) v40 Edge.zero))))) then true else (decide ((length (Graph.Rows g) : Int) ≤ (Edge.B (getD (Graph.Edges g) v40 Edge.zero))))) then true else (decide ((Edge.Den (getD (Graph.Edges g) v40 Edge.zero)) < 1))) = false) → (((bif (bif (bif (decide ((Edge.A (getD (Graph.Edges g) v40 Edge.zero)) < 0)) then true else (decide ((Edge.B (getD (Graph.Edges g) v40 Edge.zero)) ≤ (Edge.A (getD (Graph.Edges g) v40 Edge.zero))))) then true else (decide ((length (Graph.Rows g) : Int) ≤ (Edge.B (getD (Graph.Edges g) v40 Edge.zero))))) then true else (decide ((Edge.Den (getD (Graph.Edges g) v40 Edge.zero)) < 1))) = false)))] ?_ ?_)
     ·
      exact ⟨(by intro g88; assumption), (by intro g89; assumption), (by intro g90; assumption), (by intro g91; assumption), (by intro g92; assumption), (by intro g93; assumption), (by intro g94; assumption), (by intro g95; assumption), (by intro g96; assumption), (by intro g97; assumption), (by intro g98; assumption), (by intro g99; assumption), (by intro g100; assumption), (by intro g101; assumption), (by intro g102; assumption), (by intro g103; assumption), (by intro g104; assumption), trivial⟩
     refine cdE e87 ?_ ?_
     · intro h105q e106; refine seq (r1 hC [2] [] ⟨[(2, .bool false)], []⟩ ?_); refine ret ?_; have e107 := e55.trans (elim_r e106); exact rS .bool e107
     ·
      intro h108q e109; refine kpU [1, 38, 39, 40] [4] [] [] ?_; refine AW.skip (r0U hC [1, 38, 39, 40] [4] [(40, .int .i64 ((v40 + 1 : Nat) : Int))] [] [(-9223372036854775808 ≤ ((v40 + 1 : Nat) : Int) ∧ ((v40 + 1 : Nat) : Int) ≤ 9223372036854775807)] ?_ ?_)
      ·
       exact ⟨(by omega), trivial⟩
      refine bk (v40 + 1) e109 hk83 ?_ ?_
      · assumption
      · omega
    · intro h110q e111; refine kp [] [] ⟨[], []⟩ ?_; refine exit ?_; refine meet () (by kernel_rfl) ⟨?_, e111⟩; assumption
   · intro x hJ1 e112; have e113 := e55.trans (elim_l e112); refine seq (r1 hC [2] [] ⟨[(2, .bool true)], []⟩ ?_); exact ret (rS .bool e113)

structure VG (g : Graph) : Prop where
 n1 : 1 ≤ g.Rows.length
 n5 : g.Rows.length ≤ 5
 e6 : g.Edges.length ≤ 6
 rows : ∀ x ∈ g.Rows, 1 ≤ x ∧ x ≤ 1000
 edges : ∀ e ∈ g.Edges, 0 ≤ e.A ∧ e.A < e.B ∧ e.B < (g.Rows.length : Int) ∧ 1 ≤ e.Den ∧ e.Den ≤ 1000

theorem ValidGraph_iff {g : Graph} : ValidGraph g = true ↔ VG g := by
 unfold ValidGraph
 cases h : (bif (bif (decide ((length (Graph.Rows g) : Int) < 1)) then true else (decide (5 < (length (Graph.Rows g) : Int)))) then true else (decide (6 < (length (Graph.Edges g) : Int)))) with
 | true =>
  simp only [cond_true, Bool.false_eq_true, false_iff]; rintro ⟨h1, h2, h3, _, _⟩; rcases or_pos h with h | h
  ·
   rcases or_pos h with h | h
   · have := of_decide_eq_true h; omega
   · have := of_decide_eq_true h; omega
  · have := of_decide_eq_true h; omega
 | false =>
  have h := (or_neg h).imp_left or_neg; have a1 := of_decide_eq_false h.1.1; have a2 := of_decide_eq_false h.1.2; have a3 := of_decide_eq_false h.2; simp only [cond_false]; rcases all_loop (ValidGraph_l0 g) g.Rows.length (fun i => bif (decide ((getD (Graph.Rows g) i 0) < 1)) then true else (decide (1000 < (getD (Graph.Rows g) i 0)))) (fun k i => rfl) (g.Rows.length - 0 + 1) 0 (by omega) with ⟨h1, h2⟩ | ⟨h1, j, h2, h3, h4⟩
  ·
   rw [h1]; simp only [Sum.elim_inl]
   have hr : ∀ x ∈ g.Rows, 1 ≤ x ∧ x ≤ 1000 := (forall_getD (d := 0)).1 fun j hj => by
    have := or_neg (h2 j (by omega) hj); have b1 := of_decide_eq_false this.1; have b2 := of_decide_eq_false this.2; omega
   rcases all_loop (ValidGraph_l1 g) g.Edges.length (fun v40 => (bif (bif (bif (bif (decide ((Edge.A (getD (Graph.Edges g) v40 Edge.zero)) < 0)) then true else (decide ((Edge.B (getD (Graph.Edges g) v40 Edge.zero)) ≤ (Edge.A (getD (Graph.Edges g) v40 Edge.zero))))) then true else (decide ((length (Graph.Rows g) : Int) ≤ (Edge.B (getD (Graph.Edges g) v40 Edge.zero))))) then true else (decide ((Edge.Den (getD (Graph.Edges g) v40 Edge.zero)) < 1))) then true else (decide (1000 < (Edge.Den (getD (Graph.Edges g) v40 Edge.zero)))))) (fun k i => rfl) (g.Edges.length - 0 + 1) 0 (by omega) with ⟨e1, e2⟩ | ⟨e1, j, e2, e3, e4⟩
   · rw [e1]; simp only [Sum.elim_inl, true_iff]; refine ⟨by omega, by omega, by omega, hr, (forall_getD (d := Edge.zero)).1 fun j hj => ?_⟩; have := e2 j (by omega) hj; have := (or_neg this).imp_left or_neg; have b4 := of_decide_eq_false this.2; have b3 := of_decide_eq_false this.1.2; have := (or_neg this.1.1).imp_left or_neg; have b2 := of_decide_eq_false this.2; have b1 := of_decide_eq_false this.1.2; have b0 := of_decide_eq_false this.1.1; omega
   · rw [e1]; simp only [Sum.elim_inr, Bool.false_eq_true, false_iff]; rintro ⟨_, _, _, _, he⟩; have he := he _ (getD_mem g.Edges j Edge.zero e3); simp only [Bool.cond_true_left, Bool.or_eq_true, decide_eq_true_eq] at e4; omega
  ·
   rw [h1]; simp only [Sum.elim_inr, Bool.false_eq_true, false_iff]; rintro ⟨_, _, _, hr, _⟩; have := hr _ (getD_mem g.Rows j 0 h3); rcases or_pos h4 with h | h
   · have := of_decide_eq_true h; omega
   · have := of_decide_eq_true h; omega

theorem validGraph_iff {g : Graph} : validGraph g = true ↔ VG g := by
 unfold validGraph; rcases all_loop (validGraph_l0 g) g.Rows.length (fun i => !(inRange (getD (Graph.Rows g) i 0) 1 1000)) (fun k i => rfl) (g.Rows.length - 0 + 1) 0 (by omega) with ⟨h1, h2⟩ | ⟨h1, j, h2, h3, h4⟩
 ·
  rw [h1]; simp only [Sum.elim_inl]; have hr : ∀ x ∈ g.Rows, 1 ≤ x ∧ x ≤ 1000 := (forall_getD (d := 0)).1 fun j hj => inRange_iff.1 (not_neg (h2 j (by omega) hj)); rcases all_loop (validGraph_l1 g) g.Edges.length (fun i => (bif (bif (bif (decide ((Edge.A (getD (Graph.Edges g) i Edge.zero)) < 0)) then true else (decide ((Edge.B (getD (Graph.Edges g) i Edge.zero)) ≤ (Edge.A (getD (Graph.Edges g) i Edge.zero))))) then true else (decide ((length (Graph.Rows g) : Int) ≤ (Edge.B (getD (Graph.Edges g) i Edge.zero))))) then true else (!(inRange (Edge.Den (getD (Graph.Edges g) i Edge.zero)) 1 1000)))) (fun k i => rfl) (g.Edges.length - 0 + 1) 0 (by omega) with ⟨e1, e2⟩ | ⟨e1, j, e2, e3, e4⟩
  ·
   rw [e1]; simp only [Sum.elim_inl]
   cases hn : inRange (length (Graph.Rows g) : Int) 1 5 with
   | false =>
    simp only [cond_false, Bool.false_eq_true, false_iff]; rintro ⟨h1, h2, _, _, _⟩; have : inRange (length (Graph.Rows g) : Int) 1 5 = true := inRange_iff.2 ⟨by omega, by omega⟩
    rw [hn] at this
    cases this
   | true =>
    have hn := inRange_iff.1 hn; simp only [cond_true, decide_eq_true_eq]; constructor
    · intro h6; refine ⟨by omega, by omega, by omega, hr, (forall_getD (d := Edge.zero)).1 fun j hj => ?_⟩; have := e2 j (by omega) hj; have := (or_neg this).imp_left or_neg; have b4 := inRange_iff.1 (not_neg this.2); have b3 := of_decide_eq_false this.1.2; have := or_neg this.1.1; have b2 := of_decide_eq_false this.2; have b1 := of_decide_eq_false this.1; omega
    · rintro ⟨_, _, h, _, _⟩; omega
  · rw [e1]; simp only [Sum.elim_inr, Bool.false_eq_true, false_iff]; rintro ⟨_, _, _, _, he⟩; have he := he _ (getD_mem g.Edges j Edge.zero e3); have hd : inRange (g.Edges.getD j Edge.zero).Den 1 1000 = true := inRange_iff.2 ⟨he.2.2.2.1, he.2.2.2.2⟩; simp only [Bool.cond_true_left, Bool.or_eq_true, decide_eq_true_eq, hd, Bool.not_true, Bool.false_eq_true, or_false] at e4; omega
 ·
  rw [h1]; simp only [Sum.elim_inr, Bool.false_eq_true, false_iff]; rintro ⟨_, _, _, hr, _⟩; have := hr _ (getD_mem g.Rows j 0 h3)
  have hd : inRange (g.Rows.getD j 0) 1 1000 = true := inRange_iff.2 this
  rw [hd] at h4; cases h4

theorem vg_eq (g : Graph) : validGraph g = ValidGraph g := by
 rw [Bool.eq_iff_iff, validGraph_iff, ValidGraph_iff]

end
end Go.Proofs.Ytgbapklfgjnggaa
