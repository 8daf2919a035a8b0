/-
  A part of the proof of this claim (Ap4): what functions of the program compute, and plain facts of that. No conditions.
-/
import Derived.Test.YtodcdgolcbdkgaaApV
set_option linter.all false
namespace Go.Proofs.Ytodcdgolcbdkgaa
open Go Go.Am
noncomputable section

theorem mul_b {a b : Int} (h1 : -9999 ≤ a ∧ a ≤ 9999) (h2 : -9999 ≤ b ∧ b ≤ 9999) : -99980001 ≤ a * b ∧ a * b ≤ 99980001 := by
 have e : (a * b).natAbs = a.natAbs * b.natAbs := Int.natAbs_mul a b
 have : a.natAbs * b.natAbs ≤ 9999 * 9999 := Nat.mul_le_mul (by omega) (by omega)
 omega

def combined (kind : Int) (a : Val) (b : Val) : Val := (bif (kind == 8) then (truthValue (if (truthOf b) < (truthOf a) then (truthOf b) else (truthOf a))) else (bif (kind == 9) then (truthValue (if (truthOf b) > (truthOf a) then (truthOf b) else (truthOf a))) else (bif (bif (Val.Null a) then true else (Val.Null b)) then inull else (bif (kind == 3) then (numberOrNull ((Val.N a) + (Val.N b))) else (bif (kind == 4) then (numberOrNull ((Val.N a) - (Val.N b))) else (bif (kind == 5) then (numberOrNull ((Val.N a) * (Val.N b))) else (bif (kind == 6) then (flag ((Val.N a) == (Val.N b))) else (flag (decide ((Val.N a) < (Val.N b)))))))))))

def combined_sp : FnSpec := mkSpec [.val (.int .i64), .val (.named 0), .val (.named 0)] [.val (.named 0)] (fun (kind : Int) (a : Val) (b : Val) => ((-9999 ≤ Val.N a ∧ Val.N a ≤ 9999) ∧ (-9999 ≤ Val.N b ∧ Val.N b ≤ 9999))) (fun (kind : Int) (a : Val) (b : Val) => [⟨(.named 0), (combined kind a b)⟩])

theorem combined_ok : FnOK Try.prog 161 combined_sp := by
 have hC : CtxOK Try.prog (mkCtx tyL [(135, truthOf_sp), (136, truthValue_sp), (160, flag_sp), (162, inull_sp), (170, numberOrNull_sp)]) := CtxOK.cons truthOf_ok (CtxOK.cons truthValue_ok (CtxOK.cons flag_ok (CtxOK.cons inull_ok (CtxOK.cons numberOrNull_ok (CtxOK.nil tyOK)))))
 have hM : Try.prog.follows .mixedOrders = true := Try.checked.mixed
 refine FnOK.of_body Try.func161 (by kernel_rfl) rfl (C := (mkCtx tyL [(135, truthOf_sp), (136, truthValue_sp), (160, flag_sp), (162, inull_sp), (170, numberOrNull_sp)])) hC.ty (by kernel_rfl) ?_
 intro (kind : Int) (a : Val) (b : Val) hwf hpre E
 have hpre : ((-9999 ≤ Val.N a ∧ Val.N a ≤ 9999) ∧ (-9999 ≤ Val.N b ∧ Val.N b ≤ 9999)) := hpre
 have hw_kind : Wf ⟨(.int .i64), (kind : Int)⟩ := hwf _ (List.Mem.head _)
 have hr_kind : -9223372036854775808 ≤ kind ∧ kind ≤ 9223372036854775807 := hw_kind.int_inv
 have hw_a : Wf ⟨(.named 0), (a : Val)⟩ := hwf _ (List.Mem.tail _ (List.Mem.head _))
 have hr_a_N := Val.wfl hw_a
 have hw_b : Wf ⟨(.named 0), (b : Val)⟩ := hwf _ (List.Mem.tail _ (List.Mem.tail _ (List.Mem.head _)))
 have hr_b_N := Val.wfl hw_b
 have e0 : combined kind a b = combined kind a b := rfl
 refine AW.seq (AW.r1 hC [0, 4, 5, 6] [16, 20, 24] ⟨[(0, sI kind), (4, .ref 16 1 0), (5, .ref 20 1 0), (6, .ref 24 1 0)], [(16, .box 1 [sB (Val.Null a), sI (Val.N a)]), (20, .box 1 [sB (Val.Null b), sI (Val.N b)]), (24, .box 1 [sB false, sI 0])]⟩ ?_)
 refine AW.seq (AW.block (AW.seq (AW.r1 hC [0, 4, 5, 6, 7] [16, 20, 24] ⟨[(0, sI kind), (4, .ref 16 1 0), (5, .ref 20 1 0), (6, .ref 24 1 0), (7, sB (kind == 8))], [(16, .box 1 [sB (Val.Null a), sI (Val.N a)]), (20, .box 1 [sB (Val.Null b), sI (Val.N b)]), (24, .box 1 [sB false, sI 0])]⟩ ?_)))
 refine AW.cd (kind == 8) ?_ ?_
 ·
  intro h1
  have h1q := (Go.Am.beq_pos h1)
  have e2 := e0.trans (Go.Am.bif_t h1)
  refine AW.seq (AW.d0 hC hM [6] [24] ⟨[(6, .ref 24 1 0)], [(24, .box 1 [sB (Val.Null (truthValue (if (truthOf b) < (truthOf a) then (truthOf b) else (truthOf a)))), sI (Val.N (truthValue (if (truthOf b) < (truthOf a) then (truthOf b) else (truthOf a))))])]⟩ [(True), (True), (True)] ?_ ?_)
  ·
   refine ⟨?_, ?_, ?_, trivial⟩
   ·
    trivial
   ·
    trivial
   ·
    trivial
  exact AW.ret (AW.retE (β := Val) (fun v => [⟨(.named 0), v⟩]) (fun v => []) (v := (truthValue (if (truthOf b) < (truthOf a) then (truthOf b) else (truthOf a)))) e2 (by kernel_rfl) rfl rfl)
 ·
  intro h3
  have h3q := (Go.Am.beq_neg h3)
  have e4 := e0.trans (Go.Am.bif_f h3)
  refine AW.seq (AW.r1 hC [0, 4, 5, 6, 16] [16, 20, 24] ⟨[(0, sI kind), (4, .ref 16 1 0), (5, .ref 20 1 0), (6, .ref 24 1 0), (16, sB (kind == 9))], [(16, .box 1 [sB (Val.Null a), sI (Val.N a)]), (20, .box 1 [sB (Val.Null b), sI (Val.N b)]), (24, .box 1 [sB false, sI 0])]⟩ ?_)
  refine AW.cd (kind == 9) ?_ ?_
  ·
   intro h5
   have h5q := (Go.Am.beq_pos h5)
   have e6 := e4.trans (Go.Am.bif_t h5)
   refine AW.seq (AW.d0 hC hM [6] [24] ⟨[(6, .ref 24 1 0)], [(24, .box 1 [sB (Val.Null (truthValue (if (truthOf b) > (truthOf a) then (truthOf b) else (truthOf a)))), sI (Val.N (truthValue (if (truthOf b) > (truthOf a) then (truthOf b) else (truthOf a))))])]⟩ [(True), (True), (True)] ?_ ?_)
   ·
    refine ⟨?_, ?_, ?_, trivial⟩
    ·
     trivial
    ·
     trivial
    ·
     trivial
   exact AW.ret (AW.retE (β := Val) (fun v => [⟨(.named 0), v⟩]) (fun v => []) (v := (truthValue (if (truthOf b) > (truthOf a) then (truthOf b) else (truthOf a)))) e6 (by kernel_rfl) rfl rfl)
  ·
   intro h7
   have h7q := (Go.Am.beq_neg h7)
   have e8 := e4.trans (Go.Am.bif_f h7)
   refine AW.seq (AW.r0 hC [0, 4, 5, 6, 25] [16, 20, 24] ⟨[(0, sI kind), (4, .ref 16 1 0), (5, .ref 20 1 0), (6, .ref 24 1 0), (25, sB (bif (Val.Null a) then true else (Val.Null b)))], [(16, .box 1 [sB (Val.Null a), sI (Val.N a)]), (20, .box 1 [sB (Val.Null b), sI (Val.N b)]), (24, .box 1 [sB false, sI 0])]⟩ [(((Val.Null a) = false) → (((Val.Null a) = false))), (((Val.Null a) = false) → (((Val.Null a) = false)))] ?_ ?_)
   ·
    refine ⟨?_, ?_, trivial⟩
    ·
     intro g9
     have g9p0 : (Val.Null a) = false := g9
     assumption
    ·
     intro g10
     have g10p0 : (Val.Null a) = false := g10
     assumption
   refine AW.cd (bif (Val.Null a) then true else (Val.Null b)) ?_ ?_
   ·
    intro h11
    have h11q : ((Val.Null a) = true) ∨ ((Val.Null b) = true) := (Or.imp (fun h => h) (fun h => h) (Go.Am.or_pos h11))
    have e12 := e8.trans (Go.Am.bif_t h11)
    refine AW.seq (AW.r0 hC [6] [24] ⟨[(6, .ref 24 1 0)], [(24, .box 1 [sB (Val.Null inull), sI (Val.N inull)])]⟩ [(True)] ?_ ?_)
    ·
     refine ⟨?_, trivial⟩
     ·
      trivial
    exact AW.ret (AW.retE (β := Val) (fun v => [⟨(.named 0), v⟩]) (fun v => []) (v := inull) e12 (by kernel_rfl) rfl rfl)
   ·
    intro h13
    have h13q : ((Val.Null a) = false) ∧ ((Val.Null b) = false) := (And.imp (fun h => h) (fun h => h) (Go.Am.or_neg h13))
    have e14 := e8.trans (Go.Am.bif_f h13)
    refine AW.kp [0, 4, 5, 6] [16, 20, 24] ⟨[(0, sI kind), (4, .ref 16 1 0), (5, .ref 20 1 0), (6, .ref 24 1 0)], [(16, .box 1 [sB (Val.Null a), sI (Val.N a)]), (20, .box 1 [sB (Val.Null b), sI (Val.N b)]), (24, .box 1 [sB false, sI 0])]⟩ ?_
    refine AW.skip (AW.seq (AW.seq (AW.r1 hC [4, 5, 6, 33] [16, 20, 24] ⟨[(4, .ref 16 1 0), (5, .ref 20 1 0), (6, .ref 24 1 0), (33, sI kind)], [(16, .box 1 [sB (Val.Null a), sI (Val.N a)]), (20, .box 1 [sB (Val.Null b), sI (Val.N b)]), (24, .box 1 [sB false, sI 0])]⟩ ?_)))
    refine AW.block (AW.seq (AW.r1 hC [4, 5, 6, 33, 34] [16, 20, 24] ⟨[(4, .ref 16 1 0), (5, .ref 20 1 0), (6, .ref 24 1 0), (33, sI kind), (34, sB (kind == 3))], [(16, .box 1 [sB (Val.Null a), sI (Val.N a)]), (20, .box 1 [sB (Val.Null b), sI (Val.N b)]), (24, .box 1 [sB false, sI 0])]⟩ ?_))
    refine AW.cd (kind == 3) ?_ ?_
    ·
     intro h15
     have h15q := (Go.Am.beq_pos h15)
     have e16 := e14.trans (Go.Am.bif_t h15)
     refine AW.seq (AW.r0 hC [6] [24] ⟨[(6, .ref 24 1 0)], [(24, .box 1 [sB (Val.Null (numberOrNull ((Val.N a) + (Val.N b)))), sI (Val.N (numberOrNull ((Val.N a) + (Val.N b))))])]⟩ [R64 ((Val.N a) + (Val.N b)), (True)] ?_ ?_)
     ·
      refine ⟨?_, ?_, trivial⟩
      ·
       refine R64.of ?_
       omega
      ·
       trivial
     exact AW.ret (AW.retE (β := Val) (fun v => [⟨(.named 0), v⟩]) (fun v => []) (v := (numberOrNull ((Val.N a) + (Val.N b)))) e16 (by kernel_rfl) rfl rfl)
    ·
     intro h17
     have h17q := (Go.Am.beq_neg h17)
     have e18 := e14.trans (Go.Am.bif_f h17)
     refine AW.seq (AW.r1 hC [4, 5, 6, 33, 42] [16, 20, 24] ⟨[(4, .ref 16 1 0), (5, .ref 20 1 0), (6, .ref 24 1 0), (33, sI kind), (42, sB (kind == 4))], [(16, .box 1 [sB (Val.Null a), sI (Val.N a)]), (20, .box 1 [sB (Val.Null b), sI (Val.N b)]), (24, .box 1 [sB false, sI 0])]⟩ ?_)
     refine AW.cd (kind == 4) ?_ ?_
     ·
      intro h19
      have h19q := (Go.Am.beq_pos h19)
      have e20 := e18.trans (Go.Am.bif_t h19)
      refine AW.seq (AW.r0 hC [6] [24] ⟨[(6, .ref 24 1 0)], [(24, .box 1 [sB (Val.Null (numberOrNull ((Val.N a) - (Val.N b)))), sI (Val.N (numberOrNull ((Val.N a) - (Val.N b))))])]⟩ [R64 ((Val.N a) - (Val.N b)), (True)] ?_ ?_)
      ·
       refine ⟨?_, ?_, trivial⟩
       ·
        refine R64.of ?_
        omega
       ·
        trivial
      exact AW.ret (AW.retE (β := Val) (fun v => [⟨(.named 0), v⟩]) (fun v => []) (v := (numberOrNull ((Val.N a) - (Val.N b)))) e20 (by kernel_rfl) rfl rfl)
     ·
      intro h21
      have h21q := (Go.Am.beq_neg h21)
      have e22 := e18.trans (Go.Am.bif_f h21)
      refine AW.seq (AW.r1 hC [4, 5, 6, 33, 50] [16, 20, 24] ⟨[(4, .ref 16 1 0), (5, .ref 20 1 0), (6, .ref 24 1 0), (33, sI kind), (50, sB (kind == 5))], [(16, .box 1 [sB (Val.Null a), sI (Val.N a)]), (20, .box 1 [sB (Val.Null b), sI (Val.N b)]), (24, .box 1 [sB false, sI 0])]⟩ ?_)
      refine AW.cd (kind == 5) ?_ ?_
      ·
       intro h23
       have h23q := (Go.Am.beq_pos h23)
       have e24 := e22.trans (Go.Am.bif_t h23)
       refine AW.seq (AW.r0 hC [6] [24] ⟨[(6, .ref 24 1 0)], [(24, .box 1 [sB (Val.Null (numberOrNull ((Val.N a) * (Val.N b)))), sI (Val.N (numberOrNull ((Val.N a) * (Val.N b))))])]⟩ [R64 ((Val.N a) * (Val.N b)), (True)] ?_ ?_)
       ·
        refine ⟨?_, ?_, trivial⟩
        ·
         refine R64.of ?_
         have := mul_b hpre.1 hpre.2
         omega
        ·
         trivial
       exact AW.ret (AW.retE (β := Val) (fun v => [⟨(.named 0), v⟩]) (fun v => []) (v := (numberOrNull ((Val.N a) * (Val.N b)))) e24 (by kernel_rfl) rfl rfl)
      ·
       intro h25
       have h25q := (Go.Am.beq_neg h25)
       have e26 := e22.trans (Go.Am.bif_f h25)
       refine AW.seq (AW.r1 hC [4, 5, 6, 58] [16, 20, 24] ⟨[(4, .ref 16 1 0), (5, .ref 20 1 0), (6, .ref 24 1 0), (58, sB (kind == 6))], [(16, .box 1 [sB (Val.Null a), sI (Val.N a)]), (20, .box 1 [sB (Val.Null b), sI (Val.N b)]), (24, .box 1 [sB false, sI 0])]⟩ ?_)
       refine AW.cd (kind == 6) ?_ ?_
       ·
        intro h27
        have h27q := (Go.Am.beq_pos h27)
        have e28 := e26.trans (Go.Am.bif_t h27)
        refine AW.seq (AW.r0 hC [6] [24] ⟨[(6, .ref 24 1 0)], [(24, .box 1 [sB (Val.Null (flag ((Val.N a) == (Val.N b)))), sI (Val.N (flag ((Val.N a) == (Val.N b))))])]⟩ [(True)] ?_ ?_)
        ·
         refine ⟨?_, trivial⟩
         ·
          trivial
        exact AW.ret (AW.retE (β := Val) (fun v => [⟨(.named 0), v⟩]) (fun v => []) (v := (flag ((Val.N a) == (Val.N b)))) e28 (by kernel_rfl) rfl rfl)
       ·
        intro h29
        have h29q := (Go.Am.beq_neg h29)
        have e30 := e26.trans (Go.Am.bif_f h29)
        refine AW.kp [4, 5, 6] [16, 20, 24] ⟨[(4, .ref 16 1 0), (5, .ref 20 1 0), (6, .ref 24 1 0)], [(16, .box 1 [sB (Val.Null a), sI (Val.N a)]), (20, .box 1 [sB (Val.Null b), sI (Val.N b)]), (24, .box 1 [sB false, sI 0])]⟩ ?_
        refine AW.skip (AW.seq (AW.r0 hC [6] [24] ⟨[(6, .ref 24 1 0)], [(24, .box 1 [sB (Val.Null (flag (decide ((Val.N a) < (Val.N b))))), sI (Val.N (flag (decide ((Val.N a) < (Val.N b)))))])]⟩ [(True)] ?_ ?_))
        ·
         refine ⟨?_, trivial⟩
         ·
          trivial
        exact AW.ret (AW.retE (β := Val) (fun v => [⟨(.named 0), v⟩]) (fun v => []) (v := (flag (decide ((Val.N a) < (Val.N b))))) e30 (by kernel_rfl) rfl rfl)

def combine (kind : Int) (a : Val) (b : Val) : Val := (bif (kind == 8) then (ofTruth (andTruth (truth a) (truth b))) else (bif (kind == 9) then (ofTruth (notTruth (andTruth (notTruth (truth a)) (notTruth (truth b))))) else (bif (bif (Val.Null a) then true else (Val.Null b)) then (Val.mk true 0) else (bif (kind == 3) then (number ((Val.N a) + (Val.N b))) else (bif (kind == 4) then (number ((Val.N a) - (Val.N b))) else (bif (kind == 5) then (number ((Val.N a) * (Val.N b))) else (bif (kind == 6) then (Val.mk false (toInt ((Val.N a) == (Val.N b)))) else (Val.mk false (toInt (decide ((Val.N a) < (Val.N b))))))))))))

def combine_sp : FnSpec := mkSpec [.val (.int .i64), .val (.named 0), .val (.named 0)] [.val (.named 0)] (fun (kind : Int) (a : Val) (b : Val) => ((-9999 ≤ Val.N a ∧ Val.N a ≤ 9999) ∧ (-9999 ≤ Val.N b ∧ Val.N b ≤ 9999))) (fun (kind : Int) (a : Val) (b : Val) => [⟨(.named 0), (combine kind a b)⟩])

theorem combine_ok : FnOK Try.prog 156 combine_sp := by
 have hC : CtxOK Try.prog (mkCtx tyL [(148, toInt_sp), (149, truth_sp), (154, ofTruth_sp), (155, notTruth_sp), (167, andTruth_sp), (168, number_sp)]) := CtxOK.cons toInt_ok (CtxOK.cons truth_ok (CtxOK.cons ofTruth_ok (CtxOK.cons notTruth_ok (CtxOK.cons andTruth_ok (CtxOK.cons number_ok (CtxOK.nil tyOK))))))
 have hM : Try.prog.follows .mixedOrders = true := Try.checked.mixed
 refine FnOK.of_body Try.func156 (by kernel_rfl) rfl (C := (mkCtx tyL [(148, toInt_sp), (149, truth_sp), (154, ofTruth_sp), (155, notTruth_sp), (167, andTruth_sp), (168, number_sp)])) hC.ty (by kernel_rfl) ?_
 intro (kind : Int) (a : Val) (b : Val) hwf hpre E
 have hpre : ((-9999 ≤ Val.N a ∧ Val.N a ≤ 9999) ∧ (-9999 ≤ Val.N b ∧ Val.N b ≤ 9999)) := hpre
 have hw_kind : Wf ⟨(.int .i64), (kind : Int)⟩ := hwf _ (List.Mem.head _)
 have hr_kind : -9223372036854775808 ≤ kind ∧ kind ≤ 9223372036854775807 := hw_kind.int_inv
 have hw_a : Wf ⟨(.named 0), (a : Val)⟩ := hwf _ (List.Mem.tail _ (List.Mem.head _))
 have hr_a_N := Val.wfl hw_a
 have hw_b : Wf ⟨(.named 0), (b : Val)⟩ := hwf _ (List.Mem.tail _ (List.Mem.tail _ (List.Mem.head _)))
 have hr_b_N := Val.wfl hw_b
 have e0 : combine kind a b = combine kind a b := rfl
 refine AW.seq (AW.r1 hC [0, 4, 5, 6] [16, 20, 24] ⟨[(0, sI kind), (4, .ref 16 1 0), (5, .ref 20 1 0), (6, .ref 24 1 0)], [(16, .box 1 [sB (Val.Null a), sI (Val.N a)]), (20, .box 1 [sB (Val.Null b), sI (Val.N b)]), (24, .box 1 [sB false, sI 0])]⟩ ?_)
 refine AW.seq (AW.seq (AW.r1 hC [0, 4, 5, 6, 7] [16, 20, 24] ⟨[(0, sI kind), (4, .ref 16 1 0), (5, .ref 20 1 0), (6, .ref 24 1 0), (7, sI kind)], [(16, .box 1 [sB (Val.Null a), sI (Val.N a)]), (20, .box 1 [sB (Val.Null b), sI (Val.N b)]), (24, .box 1 [sB false, sI 0])]⟩ ?_))
 refine AW.block (AW.seq (AW.r1 hC [0, 4, 5, 6, 7, 8] [16, 20, 24] ⟨[(0, sI kind), (4, .ref 16 1 0), (5, .ref 20 1 0), (6, .ref 24 1 0), (7, sI kind), (8, sB (kind == 8))], [(16, .box 1 [sB (Val.Null a), sI (Val.N a)]), (20, .box 1 [sB (Val.Null b), sI (Val.N b)]), (24, .box 1 [sB false, sI 0])]⟩ ?_))
 refine AW.cd (kind == 8) ?_ ?_
 ·
  intro h1
  have h1q := (Go.Am.beq_pos h1)
  have e2 := e0.trans (Go.Am.bif_t h1)
  refine AW.seq (AW.d0 hC hM [6] [24] ⟨[(6, .ref 24 1 0)], [(24, .box 1 [sB (Val.Null (ofTruth (andTruth (truth a) (truth b)))), sI (Val.N (ofTruth (andTruth (truth a) (truth b))))])]⟩ [(True), (True), (True), (True)] ?_ ?_)
  ·
   refine ⟨?_, ?_, ?_, ?_, trivial⟩
   ·
    trivial
   ·
    trivial
   ·
    trivial
   ·
    trivial
  exact AW.ret (AW.retE (β := Val) (fun v => [⟨(.named 0), v⟩]) (fun v => []) (v := (ofTruth (andTruth (truth a) (truth b)))) e2 (by kernel_rfl) rfl rfl)
 ·
  intro h3
  have h3q := (Go.Am.beq_neg h3)
  have e4 := e0.trans (Go.Am.bif_f h3)
  refine AW.seq (AW.r1 hC [0, 4, 5, 6, 16] [16, 20, 24] ⟨[(0, sI kind), (4, .ref 16 1 0), (5, .ref 20 1 0), (6, .ref 24 1 0), (16, sB (kind == 9))], [(16, .box 1 [sB (Val.Null a), sI (Val.N a)]), (20, .box 1 [sB (Val.Null b), sI (Val.N b)]), (24, .box 1 [sB false, sI 0])]⟩ ?_)
  refine AW.cd (kind == 9) ?_ ?_
  ·
   intro h5
   have h5q := (Go.Am.beq_pos h5)
   have e6 := e4.trans (Go.Am.bif_t h5)
   refine AW.seq (AW.d0 hC hM [6] [24] ⟨[(6, .ref 24 1 0)], [(24, .box 1 [sB (Val.Null (ofTruth (notTruth (andTruth (notTruth (truth a)) (notTruth (truth b)))))), sI (Val.N (ofTruth (notTruth (andTruth (notTruth (truth a)) (notTruth (truth b))))))])]⟩ [(True), (0 ≤ (truth a) ∧ (truth a) ≤ 2), (True), (0 ≤ (truth b) ∧ (truth b) ≤ 2), (True), (0 ≤ (andTruth (notTruth (truth a)) (notTruth (truth b))) ∧ (andTruth (notTruth (truth a)) (notTruth (truth b))) ≤ 2), (True)] ?_ ?_)
   ·
    refine ⟨?_, ?_, ?_, ?_, ?_, ?_, ?_, trivial⟩
    ·
     trivial
    ·
     have := truth_b a; have := truth_b b; have := andTruth_b (notTruth (truth a)) (notTruth (truth b)); omega
    ·
     trivial
    ·
     have := truth_b a; have := truth_b b; have := andTruth_b (notTruth (truth a)) (notTruth (truth b)); omega
    ·
     trivial
    ·
     have := truth_b a; have := truth_b b; have := andTruth_b (notTruth (truth a)) (notTruth (truth b)); omega
    ·
     trivial
   exact AW.ret (AW.retE (β := Val) (fun v => [⟨(.named 0), v⟩]) (fun v => []) (v := (ofTruth (notTruth (andTruth (notTruth (truth a)) (notTruth (truth b)))))) e6 (by kernel_rfl) rfl rfl)
  ·
   intro h7
   have h7q := (Go.Am.beq_neg h7)
   have e8 := e4.trans (Go.Am.bif_f h7)
   refine AW.kp [0, 4, 5, 6] [16, 20, 24] ⟨[(0, sI kind), (4, .ref 16 1 0), (5, .ref 20 1 0), (6, .ref 24 1 0)], [(16, .box 1 [sB (Val.Null a), sI (Val.N a)]), (20, .box 1 [sB (Val.Null b), sI (Val.N b)]), (24, .box 1 [sB false, sI 0])]⟩ ?_
   refine AW.skip (AW.seq (AW.seq (AW.r0 hC [0, 4, 5, 6, 32] [16, 20, 24] ⟨[(0, sI kind), (4, .ref 16 1 0), (5, .ref 20 1 0), (6, .ref 24 1 0), (32, sB (bif (Val.Null a) then true else (Val.Null b)))], [(16, .box 1 [sB (Val.Null a), sI (Val.N a)]), (20, .box 1 [sB (Val.Null b), sI (Val.N b)]), (24, .box 1 [sB false, sI 0])]⟩ [(((Val.Null a) = false) → (((Val.Null a) = false))), (((Val.Null a) = false) → (((Val.Null a) = false)))] ?_ ?_)))
   ·
    refine ⟨?_, ?_, trivial⟩
    ·
     intro g9
     have g9p0 : (Val.Null a) = false := g9
     assumption
    ·
     intro g10
     have g10p0 : (Val.Null a) = false := g10
     assumption
   refine AW.cd (bif (Val.Null a) then true else (Val.Null b)) ?_ ?_
   ·
    intro h11
    have h11q : ((Val.Null a) = true) ∨ ((Val.Null b) = true) := (Or.imp (fun h => h) (fun h => h) (Go.Am.or_pos h11))
    have e12 := e8.trans (Go.Am.bif_t h11)
    refine AW.seq (AW.r1 hC [6] [24] ⟨[(6, .ref 24 1 0)], [(24, .box 1 [sB true, sI 0])]⟩ ?_)
    exact AW.ret (AW.retE (β := Val) (fun v => [⟨(.named 0), v⟩]) (fun v => []) (v := (Val.mk true 0)) e12 (by kernel_rfl) rfl rfl)
   ·
    intro h13
    have h13q : ((Val.Null a) = false) ∧ ((Val.Null b) = false) := (And.imp (fun h => h) (fun h => h) (Go.Am.or_neg h13))
    have e14 := e8.trans (Go.Am.bif_f h13)
    refine AW.kp [0, 4, 5, 6] [16, 20, 24] ⟨[(0, sI kind), (4, .ref 16 1 0), (5, .ref 20 1 0), (6, .ref 24 1 0)], [(16, .box 1 [sB (Val.Null a), sI (Val.N a)]), (20, .box 1 [sB (Val.Null b), sI (Val.N b)]), (24, .box 1 [sB false, sI 0])]⟩ ?_
    refine AW.skip (AW.seq (AW.seq (AW.r1 hC [4, 5, 6, 34] [16, 20, 24] ⟨[(4, .ref 16 1 0), (5, .ref 20 1 0), (6, .ref 24 1 0), (34, sI kind)], [(16, .box 1 [sB (Val.Null a), sI (Val.N a)]), (20, .box 1 [sB (Val.Null b), sI (Val.N b)]), (24, .box 1 [sB false, sI 0])]⟩ ?_)))
    refine AW.block (AW.seq (AW.r1 hC [4, 5, 6, 34, 35] [16, 20, 24] ⟨[(4, .ref 16 1 0), (5, .ref 20 1 0), (6, .ref 24 1 0), (34, sI kind), (35, sB (kind == 3))], [(16, .box 1 [sB (Val.Null a), sI (Val.N a)]), (20, .box 1 [sB (Val.Null b), sI (Val.N b)]), (24, .box 1 [sB false, sI 0])]⟩ ?_))
    refine AW.cd (kind == 3) ?_ ?_
    ·
     intro h15
     have h15q := (Go.Am.beq_pos h15)
     have e16 := e14.trans (Go.Am.bif_t h15)
     refine AW.seq (AW.r0 hC [6] [24] ⟨[(6, .ref 24 1 0)], [(24, .box 1 [sB (Val.Null (number ((Val.N a) + (Val.N b)))), sI (Val.N (number ((Val.N a) + (Val.N b))))])]⟩ [R64 ((Val.N a) + (Val.N b)), (True)] ?_ ?_)
     ·
      refine ⟨?_, ?_, trivial⟩
      ·
       refine R64.of ?_
       have := truth_b a; have := truth_b b; have := andTruth_b (notTruth (truth a)) (notTruth (truth b)); omega
      ·
       trivial
     exact AW.ret (AW.retE (β := Val) (fun v => [⟨(.named 0), v⟩]) (fun v => []) (v := (number ((Val.N a) + (Val.N b)))) e16 (by kernel_rfl) rfl rfl)
    ·
     intro h17
     have h17q := (Go.Am.beq_neg h17)
     have e18 := e14.trans (Go.Am.bif_f h17)
     refine AW.seq (AW.r1 hC [4, 5, 6, 34, 43] [16, 20, 24] ⟨[(4, .ref 16 1 0), (5, .ref 20 1 0), (6, .ref 24 1 0), (34, sI kind), (43, sB (kind == 4))], [(16, .box 1 [sB (Val.Null a), sI (Val.N a)]), (20, .box 1 [sB (Val.Null b), sI (Val.N b)]), (24, .box 1 [sB false, sI 0])]⟩ ?_)
     refine AW.cd (kind == 4) ?_ ?_
     ·
      intro h19
      have h19q := (Go.Am.beq_pos h19)
      have e20 := e18.trans (Go.Am.bif_t h19)
      refine AW.seq (AW.r0 hC [6] [24] ⟨[(6, .ref 24 1 0)], [(24, .box 1 [sB (Val.Null (number ((Val.N a) - (Val.N b)))), sI (Val.N (number ((Val.N a) - (Val.N b))))])]⟩ [R64 ((Val.N a) - (Val.N b)), (True)] ?_ ?_)
      ·
       refine ⟨?_, ?_, trivial⟩
       ·
        refine R64.of ?_
        have := truth_b a; have := truth_b b; have := andTruth_b (notTruth (truth a)) (notTruth (truth b)); omega
       ·
        trivial
      exact AW.ret (AW.retE (β := Val) (fun v => [⟨(.named 0), v⟩]) (fun v => []) (v := (number ((Val.N a) - (Val.N b)))) e20 (by kernel_rfl) rfl rfl)
     ·
      intro h21
      have h21q := (Go.Am.beq_neg h21)
      have e22 := e18.trans (Go.Am.bif_f h21)
      refine AW.seq (AW.r1 hC [4, 5, 6, 34, 51] [16, 20, 24] ⟨[(4, .ref 16 1 0), (5, .ref 20 1 0), (6, .ref 24 1 0), (34, sI kind), (51, sB (kind == 5))], [(16, .box 1 [sB (Val.Null a), sI (Val.N a)]), (20, .box 1 [sB (Val.Null b), sI (Val.N b)]), (24, .box 1 [sB false, sI 0])]⟩ ?_)
      refine AW.cd (kind == 5) ?_ ?_
      ·
       intro h23
       have h23q := (Go.Am.beq_pos h23)
       have e24 := e22.trans (Go.Am.bif_t h23)
       refine AW.seq (AW.r0 hC [6] [24] ⟨[(6, .ref 24 1 0)], [(24, .box 1 [sB (Val.Null (number ((Val.N a) * (Val.N b)))), sI (Val.N (number ((Val.N a) * (Val.N b))))])]⟩ [R64 ((Val.N a) * (Val.N b)), (True)] ?_ ?_)
       ·
        refine ⟨?_, ?_, trivial⟩
        ·
         refine R64.of ?_
         have := mul_b hpre.1 hpre.2
         omega
        ·
         trivial
       exact AW.ret (AW.retE (β := Val) (fun v => [⟨(.named 0), v⟩]) (fun v => []) (v := (number ((Val.N a) * (Val.N b)))) e24 (by kernel_rfl) rfl rfl)
      ·
       intro h25
       have h25q := (Go.Am.beq_neg h25)
       have e26 := e22.trans (Go.Am.bif_f h25)
       refine AW.seq (AW.r1 hC [4, 5, 6, 59] [16, 20, 24] ⟨[(4, .ref 16 1 0), (5, .ref 20 1 0), (6, .ref 24 1 0), (59, sB (kind == 6))], [(16, .box 1 [sB (Val.Null a), sI (Val.N a)]), (20, .box 1 [sB (Val.Null b), sI (Val.N b)]), (24, .box 1 [sB false, sI 0])]⟩ ?_)
       refine AW.cd (kind == 6) ?_ ?_
       ·
        intro h27
        have h27q := (Go.Am.beq_pos h27)
        have e28 := e26.trans (Go.Am.bif_t h27)
        refine AW.seq (AW.r0 hC [6] [24] ⟨[(6, .ref 24 1 0)], [(24, .box 1 [sB false, sI (toInt ((Val.N a) == (Val.N b)))])]⟩ [(True)] ?_ ?_)
        ·
         refine ⟨?_, trivial⟩
         ·
          trivial
        exact AW.ret (AW.retE (β := Val) (fun v => [⟨(.named 0), v⟩]) (fun v => []) (v := (Val.mk false (toInt ((Val.N a) == (Val.N b))))) e28 (by kernel_rfl) rfl rfl)
       ·
        intro h29
        have h29q := (Go.Am.beq_neg h29)
        have e30 := e26.trans (Go.Am.bif_f h29)
        refine AW.kp [4, 5, 6] [16, 20, 24] ⟨[(4, .ref 16 1 0), (5, .ref 20 1 0), (6, .ref 24 1 0)], [(16, .box 1 [sB (Val.Null a), sI (Val.N a)]), (20, .box 1 [sB (Val.Null b), sI (Val.N b)]), (24, .box 1 [sB false, sI 0])]⟩ ?_
        refine AW.skip (AW.seq (AW.r0 hC [6] [24] ⟨[(6, .ref 24 1 0)], [(24, .box 1 [sB false, sI (toInt (decide ((Val.N a) < (Val.N b))))])]⟩ [(True)] ?_ ?_))
        ·
         refine ⟨?_, trivial⟩
         ·
          trivial
        exact AW.ret (AW.retE (β := Val) (fun v => [⟨(.named 0), v⟩]) (fun v => []) (v := (Val.mk false (toInt (decide ((Val.N a) < (Val.N b)))))) e30 (by kernel_rfl) rfl rfl)

end
end Go.Proofs.Ytodcdgolcbdkgaa
