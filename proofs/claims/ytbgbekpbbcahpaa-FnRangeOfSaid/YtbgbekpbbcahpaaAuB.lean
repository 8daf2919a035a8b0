/-
  A part of the proof of this claim (AuB): what functions of the program compute, and plain facts of that. No conditions.
-/
import Derived.Test.YtbgbekpbbcahpaaAu8
set_option linter.all false
namespace Go.Proofs.Ytbgbekpbbcahpaa
open Go Go.Am
noncomputable section

def inumber (n : Int) : Val := (Val.mk false n)

def inumber_sp : FnSpec := mkSpec [.val (.int .i64)] [.val (.named 0)] (fun (n : Int) => True) (fun (n : Int) => [⟨(.named 0), (inumber n)⟩])

theorem inumber_ok : FnOK Try.prog 68 inumber_sp := by
 have hC : CtxOK Try.prog (mkCtx tyL []) := CtxOK.nil tyOK
 refine FnOK.of_body Try.func68 (by kernel_rfl) rfl (C := (mkCtx tyL [])) hC.ty (by kernel_rfl) ?_
 intro (n : Int) hwf hpre E
 have hpre : True := hpre
 have hw_n : Wf ⟨(.int .i64), (n : Int)⟩ := hwf _ (List.Mem.head _)
 have hr_n : -9223372036854775808 ≤ n ∧ n ≤ 9223372036854775807 := hw_n.int_inv
 have e0 : inumber n = inumber n := rfl
 refine AW.seq (AW.r1 hC [0, 2] [8] ⟨[(0, sI n), (2, .ref 8 1 0)], [(8, .box 1 [sB false, sI 0])]⟩ ?_)
 refine AW.seq (AW.r1 hC [2] [8] ⟨[(2, .ref 8 1 0)], [(8, .box 1 [sB false, sI n])]⟩ ?_)
 exact AW.ret (AW.retE (β := Val) (fun v => [⟨(.named 0), v⟩]) (fun v => []) (v := (Val.mk false n)) e0 (by kernel_rfl) rfl rfl)

def inull : Val := (Val.mk true 0)

def inull_sp : FnSpec := mkSpec [] [.val (.named 0)] (True) ([⟨(.named 0), inull⟩])

theorem inull_ok : FnOK Try.prog 67 inull_sp := by
 have hC : CtxOK Try.prog (mkCtx tyL []) := CtxOK.nil tyOK
 refine FnOK.of_body Try.func67 (by kernel_rfl) rfl (C := (mkCtx tyL [])) hC.ty (by kernel_rfl) ?_
 intro  hwf hpre E
 have hpre : True := hpre
 have e0 : inull = inull := rfl
 refine AW.seq (AW.r1 hC [0] [0] ⟨[(0, .ref 0 1 0)], [(0, .box 1 [sB false, sI 0])]⟩ ?_)
 refine AW.seq (AW.r1 hC [0] [0] ⟨[(0, .ref 0 1 0)], [(0, .box 1 [sB true, sI 0])]⟩ ?_)
 exact AW.ret (AW.retE (β := Val) (fun v => [⟨(.named 0), v⟩]) (fun v => []) (v := (Val.mk true 0)) e0 (by kernel_rfl) rfl rfl)

def numberOrNull (n : Int) : Val := (bif (valValid (inumber n)) then (inumber n) else inull)

def numberOrNull_sp : FnSpec := mkSpec [.val (.int .i64)] [.val (.named 0)] (fun (n : Int) => True) (fun (n : Int) => [⟨(.named 0), (numberOrNull n)⟩])

theorem numberOrNull_ok : FnOK Try.prog 69 numberOrNull_sp := by
 have hC : CtxOK Try.prog (mkCtx tyL [(47, valValid_sp), (67, inull_sp), (68, inumber_sp)]) := CtxOK.cons valValid_ok (CtxOK.cons inull_ok (CtxOK.cons inumber_ok (CtxOK.nil tyOK)))
 refine FnOK.of_body Try.func69 (by kernel_rfl) rfl (C := (mkCtx tyL [(47, valValid_sp), (67, inull_sp), (68, inumber_sp)])) hC.ty (by kernel_rfl) ?_
 intro (n : Int) hwf hpre E
 have hpre : True := hpre
 have hw_n : Wf ⟨(.int .i64), (n : Int)⟩ := hwf _ (List.Mem.head _)
 have hr_n : -9223372036854775808 ≤ n ∧ n ≤ 9223372036854775807 := hw_n.int_inv
 have e0 : numberOrNull n = numberOrNull n := rfl
 refine AW.seq (AW.r1 hC [0, 2] [8] ⟨[(0, sI n), (2, .ref 8 1 0)], [(8, .box 1 [sB false, sI 0])]⟩ ?_)
 refine AW.seq (AW.seq (AW.r0 hC [2, 3] [8, 12] ⟨[(2, .ref 8 1 0), (3, .ref 12 1 0)], [(8, .box 1 [sB false, sI 0]), (12, .box 1 [sB (Val.Null (inumber n)), sI (Val.N (inumber n))])]⟩ [(True)] ?_ ?_))
 ·
  refine ⟨?_, trivial⟩
  ·
   trivial
 refine AW.seq (AW.r0 hC [2, 3, 7] [8, 12] ⟨[(2, .ref 8 1 0), (3, .ref 12 1 0), (7, sB (valValid (inumber n)))], [(8, .box 1 [sB false, sI 0]), (12, .box 1 [sB (Val.Null (inumber n)), sI (Val.N (inumber n))])]⟩ [(True)] ?_ ?_)
 ·
  refine ⟨?_, trivial⟩
  ·
   trivial
 refine AW.cd (valValid (inumber n)) ?_ ?_
 ·
  intro h1
  have h1q : (valValid (inumber n)) = true := h1
  have e2 := e0.trans (Go.Am.bif_t h1)
  refine AW.seq (AW.r1 hC [2] [8] ⟨[(2, .ref 8 1 0)], [(8, .box 1 [sB (Val.Null (inumber n)), sI (Val.N (inumber n))])]⟩ ?_)
  exact AW.ret (AW.retE (β := Val) (fun v => [⟨(.named 0), v⟩]) (fun v => []) (v := (inumber n)) e2 (by kernel_rfl) rfl rfl)
 ·
  intro h3
  have h3q : (valValid (inumber n)) = false := h3
  have e4 := e0.trans (Go.Am.bif_f h3)
  refine AW.kp [2] [8] ⟨[(2, .ref 8 1 0)], [(8, .box 1 [sB false, sI 0])]⟩ ?_
  refine AW.skip (AW.seq (AW.r0 hC [2] [8] ⟨[(2, .ref 8 1 0)], [(8, .box 1 [sB (Val.Null inull), sI (Val.N inull)])]⟩ [(True)] ?_ ?_))
  ·
   refine ⟨?_, trivial⟩
   ·
    trivial
  exact AW.ret (AW.retE (β := Val) (fun v => [⟨(.named 0), v⟩]) (fun v => []) (v := inull) e4 (by kernel_rfl) rfl rfl)

def flag (holds : Bool) : Val := (bif holds then (inumber 1) else (inumber 0))

def flag_sp : FnSpec := mkSpec [.val .bool] [.val (.named 0)] (fun (holds : Bool) => True) (fun (holds : Bool) => [⟨(.named 0), (flag holds)⟩])

theorem flag_ok : FnOK Try.prog 62 flag_sp := by
 have hC : CtxOK Try.prog (mkCtx tyL [(68, inumber_sp)]) := CtxOK.cons inumber_ok (CtxOK.nil tyOK)
 refine FnOK.of_body Try.func62 (by kernel_rfl) rfl (C := (mkCtx tyL [(68, inumber_sp)])) hC.ty (by kernel_rfl) ?_
 intro (holds : Bool) hwf hpre E
 have hpre : True := hpre
 have hw_holds : Wf ⟨.bool, (holds : Bool)⟩ := hwf _ (List.Mem.head _)
 have e0 : flag holds = flag holds := rfl
 refine AW.seq (AW.r1 hC [0, 2] [8] ⟨[(0, sB holds), (2, .ref 8 1 0)], [(8, .box 1 [sB false, sI 0])]⟩ ?_)
 refine AW.seq (AW.seq (AW.r1 hC [2, 3] [8] ⟨[(2, .ref 8 1 0), (3, sB holds)], [(8, .box 1 [sB false, sI 0])]⟩ ?_))
 refine AW.cd holds ?_ ?_
 ·
  intro h1
  have h1q : holds = true := h1
  have e2 := e0.trans (Go.Am.bif_t h1)
  refine AW.seq (AW.r0 hC [2] [8] ⟨[(2, .ref 8 1 0)], [(8, .box 1 [sB (Val.Null (inumber 1)), sI (Val.N (inumber 1))])]⟩ [(True)] ?_ ?_)
  ·
   refine ⟨?_, trivial⟩
   ·
    trivial
  exact AW.ret (AW.retE (β := Val) (fun v => [⟨(.named 0), v⟩]) (fun v => []) (v := (inumber 1)) e2 (by kernel_rfl) rfl rfl)
 ·
  intro h3
  have h3q : holds = false := h3
  have e4 := e0.trans (Go.Am.bif_f h3)
  refine AW.kp [2] [8] ⟨[(2, .ref 8 1 0)], [(8, .box 1 [sB false, sI 0])]⟩ ?_
  refine AW.skip (AW.seq (AW.r0 hC [2] [8] ⟨[(2, .ref 8 1 0)], [(8, .box 1 [sB (Val.Null (inumber 0)), sI (Val.N (inumber 0))])]⟩ [(True)] ?_ ?_))
  ·
   refine ⟨?_, trivial⟩
   ·
    trivial
  exact AW.ret (AW.retE (β := Val) (fun v => [⟨(.named 0), v⟩]) (fun v => []) (v := (inumber 0)) e4 (by kernel_rfl) rfl rfl)

def truthOf (v : Val) : Int := (bif (Val.Null v) then 1 else (bif ((Val.N v) == 0) then 0 else 2))

def truthOf_sp : FnSpec := mkSpec [.val (.named 0)] [.val (.int .i64)] (fun (v : Val) => True) (fun (v : Val) => [⟨(.int .i64), (truthOf v)⟩])

theorem truthOf_ok : FnOK Try.prog 60 truthOf_sp := by
 have hC : CtxOK Try.prog (mkCtx tyL []) := CtxOK.nil tyOK
 refine FnOK.of_body Try.func60 (by kernel_rfl) rfl (C := (mkCtx tyL [])) hC.ty (by kernel_rfl) ?_
 intro (v : Val) hwf hpre E
 have hpre : True := hpre
 have hw_v : Wf ⟨(.named 0), (v : Val)⟩ := hwf _ (List.Mem.head _)
 have hr_v_N := Val.wfl hw_v
 have e0 : truthOf v = truthOf v := rfl
 refine AW.seq (AW.r1 hC [1] [4] ⟨[(1, .ref 4 1 0)], [(4, .box 1 [sB (Val.Null v), sI (Val.N v)])]⟩ ?_)
 refine AW.seq (AW.block (AW.seq (AW.r1 hC [1, 3] [4] ⟨[(1, .ref 4 1 0), (3, sB (Val.Null v))], [(4, .box 1 [sB (Val.Null v), sI (Val.N v)])]⟩ ?_)))
 refine AW.cd (Val.Null v) ?_ ?_
 ·
  intro h1
  have h1q : (Val.Null v) = true := h1
  have e2 := e0.trans (Go.Am.bif_t h1)
  refine AW.seq (AW.r1 hC [2] [] ⟨[(2, sI 1)], []⟩ ?_)
  exact AW.ret (AW.rI 1 e2)
 ·
  intro h3
  have h3q : (Val.Null v) = false := h3
  have e4 := e0.trans (Go.Am.bif_f h3)
  refine AW.seq (AW.r1 hC [6] [] ⟨[(6, sB ((Val.N v) == 0))], []⟩ ?_)
  refine AW.cd ((Val.N v) == 0) ?_ ?_
  ·
   intro h5
   have h5q := (Go.Am.beq_pos h5)
   have e6 := e4.trans (Go.Am.bif_t h5)
   refine AW.seq (AW.r1 hC [2] [] ⟨[(2, sI 0)], []⟩ ?_)
   exact AW.ret (AW.rI 0 e6)
  ·
   intro h7
   have h7q := (Go.Am.beq_neg h7)
   have e8 := e4.trans (Go.Am.bif_f h7)
   refine AW.kp [] [] ⟨[], []⟩ ?_
   refine AW.skip (AW.seq (AW.r1 hC [2] [] ⟨[(2, sI 2)], []⟩ ?_))
   exact AW.ret (AW.rI 2 e8)

def truthValue (t : Int) : Val := (bif (t == 1) then inull else (flag (t == 2)))

def truthValue_sp : FnSpec := mkSpec [.val (.int .i64)] [.val (.named 0)] (fun (t : Int) => True) (fun (t : Int) => [⟨(.named 0), (truthValue t)⟩])

theorem truthValue_ok : FnOK Try.prog 61 truthValue_sp := by
 have hC : CtxOK Try.prog (mkCtx tyL [(62, flag_sp), (67, inull_sp)]) := CtxOK.cons flag_ok (CtxOK.cons inull_ok (CtxOK.nil tyOK))
 refine FnOK.of_body Try.func61 (by kernel_rfl) rfl (C := (mkCtx tyL [(62, flag_sp), (67, inull_sp)])) hC.ty (by kernel_rfl) ?_
 intro (t : Int) hwf hpre E
 have hpre : True := hpre
 have hw_t : Wf ⟨(.int .i64), (t : Int)⟩ := hwf _ (List.Mem.head _)
 have hr_t : -9223372036854775808 ≤ t ∧ t ≤ 9223372036854775807 := hw_t.int_inv
 have e0 : truthValue t = truthValue t := rfl
 refine AW.seq (AW.r1 hC [0, 2] [8] ⟨[(0, sI t), (2, .ref 8 1 0)], [(8, .box 1 [sB false, sI 0])]⟩ ?_)
 refine AW.seq (AW.seq (AW.r1 hC [0, 2, 4] [8] ⟨[(0, sI t), (2, .ref 8 1 0), (4, sB (t == 1))], [(8, .box 1 [sB false, sI 0])]⟩ ?_))
 refine AW.cd (t == 1) ?_ ?_
 ·
  intro h1
  have h1q := (Go.Am.beq_pos h1)
  have e2 := e0.trans (Go.Am.bif_t h1)
  refine AW.seq (AW.r0 hC [2] [8] ⟨[(2, .ref 8 1 0)], [(8, .box 1 [sB (Val.Null inull), sI (Val.N inull)])]⟩ [(True)] ?_ ?_)
  ·
   refine ⟨?_, trivial⟩
   ·
    trivial
  exact AW.ret (AW.retE (β := Val) (fun v => [⟨(.named 0), v⟩]) (fun v => []) (v := inull) e2 (by kernel_rfl) rfl rfl)
 ·
  intro h3
  have h3q := (Go.Am.beq_neg h3)
  have e4 := e0.trans (Go.Am.bif_f h3)
  refine AW.kp [0, 2] [8] ⟨[(0, sI t), (2, .ref 8 1 0)], [(8, .box 1 [sB false, sI 0])]⟩ ?_
  refine AW.skip (AW.seq (AW.r0 hC [2] [8] ⟨[(2, .ref 8 1 0)], [(8, .box 1 [sB (Val.Null (flag (t == 2))), sI (Val.N (flag (t == 2)))])]⟩ [(True)] ?_ ?_))
  ·
   refine ⟨?_, trivial⟩
   ·
    trivial
  exact AW.ret (AW.retE (β := Val) (fun v => [⟨(.named 0), v⟩]) (fun v => []) (v := (flag (t == 2))) e4 (by kernel_rfl) rfl rfl)

theorem mul_b {a b : Int} (h1 : -9999 ≤ a ∧ a ≤ 9999) (h2 : -9999 ≤ b ∧ b ≤ 9999) : -99980001 ≤ a * b ∧ a * b ≤ 99980001 := by
 have e : (a * b).natAbs = a.natAbs * b.natAbs := Int.natAbs_mul a b
 have : a.natAbs * b.natAbs ≤ 9999 * 9999 := Nat.mul_le_mul (by omega) (by omega)
 omega

def combined (kind : Int) (a : Val) (b : Val) : Val := (bif (kind == 8) then (truthValue (if (truthOf b) < (truthOf a) then (truthOf b) else (truthOf a))) else (bif (kind == 9) then (truthValue (if (truthOf b) > (truthOf a) then (truthOf b) else (truthOf a))) else (bif (bif (Val.Null a) then true else (Val.Null b)) then inull else (bif (kind == 3) then (numberOrNull ((Val.N a) + (Val.N b))) else (bif (kind == 4) then (numberOrNull ((Val.N a) - (Val.N b))) else (bif (kind == 5) then (numberOrNull ((Val.N a) * (Val.N b))) else (bif (kind == 6) then (flag ((Val.N a) == (Val.N b))) else (flag (decide ((Val.N a) < (Val.N b)))))))))))

def combined_sp : FnSpec := mkSpec [.val (.int .i64), .val (.named 0), .val (.named 0)] [.val (.named 0)] (fun (kind : Int) (a : Val) (b : Val) => ((-9999 ≤ Val.N a ∧ Val.N a ≤ 9999) ∧ (-9999 ≤ Val.N b ∧ Val.N b ≤ 9999))) (fun (kind : Int) (a : Val) (b : Val) => [⟨(.named 0), (combined kind a b)⟩])

theorem combined_ok : FnOK Try.prog 63 combined_sp := by
 have hC : CtxOK Try.prog (mkCtx tyL [(60, truthOf_sp), (61, truthValue_sp), (62, flag_sp), (67, inull_sp), (69, numberOrNull_sp)]) := CtxOK.cons truthOf_ok (CtxOK.cons truthValue_ok (CtxOK.cons flag_ok (CtxOK.cons inull_ok (CtxOK.cons numberOrNull_ok (CtxOK.nil tyOK)))))
 have hM : Try.prog.follows .mixedOrders = true := Try.checked.mixed
 refine FnOK.of_body Try.func63 (by kernel_rfl) rfl (C := (mkCtx tyL [(60, truthOf_sp), (61, truthValue_sp), (62, flag_sp), (67, inull_sp), (69, numberOrNull_sp)])) hC.ty (by kernel_rfl) ?_
 intro (kind : Int) (a : Val) (b : Val) hwf hpre E
 have hpre : ((-9999 ≤ Val.N a ∧ Val.N a ≤ 9999) ∧ (-9999 ≤ Val.N b ∧ Val.N b ≤ 9999)) := hpre
 have hw_kind : Wf ⟨(.int .i64), (kind : Int)⟩ := hwf _ (List.Mem.head _)
 have hr_kind : -9223372036854775808 ≤ kind ∧ kind ≤ 9223372036854775807 := hw_kind.int_inv
 have hw_a : Wf ⟨(.named 0), (a : Val)⟩ := hwf _ (List.Mem.tail _ (List.Mem.head _))
 have hr_a_N := Val.wfl hw_a
 have hw_b : Wf ⟨(.named 0), (b : Val)⟩ := hwf _ (List.Mem.tail _ (List.Mem.tail _ (List.Mem.head _)))
 have hr_b_N := Val.wfl hw_b
 have e0 : combined kind a b = combined kind a b := rfl
 refine AW.seq (AW.r1 hC [0, 4, 5, 6] [16, 20, 24] ⟨[(0, sI kind), (4, .ref 16 1 0), (5, .ref 20 1 0), (6, .ref 24 1 0)], [(16, .box 1 [sB (Val.Null a), sI (Val.N a)]), (20, .box 1 [sB (Val.Null b), sI (Val.N b)]), (24, .box 1 [sB false, sI 0])]⟩ ?_)
 refine AW.seq (AW.block (AW.seq (AW.r1 hC [0, 4, 5, 6, 7] [16, 20, 24] ⟨[(0, sI kind), (4, .ref 16 1 0), (5, .ref 20 1 0), (6, .ref 24 1 0), (7, sB (kind == 8))], [(16, .box 1 [sB (Val.Null a), sI (Val.N a)]), (20, .box 1 [sB (Val.Null b), sI (Val.N b)]), (24, .box 1 [sB false, sI 0])]⟩ ?_)))
 refine AW.cd (kind == 8) ?_ ?_
 ·
  intro h1
  have h1q := (Go.Am.beq_pos h1)
  have e2 := e0.trans (Go.Am.bif_t h1)
  refine AW.seq (AW.d0 hC hM [6] [24] ⟨[(6, .ref 24 1 0)], [(24, .box 1 [sB (Val.Null (truthValue (if (truthOf b) < (truthOf a) then (truthOf b) else (truthOf a)))), sI (Val.N (truthValue (if (truthOf b) < (truthOf a) then (truthOf b) else (truthOf a))))])]⟩ [(True), (True), (True)] ?_ ?_)
  ·
   refine ⟨?_, ?_, ?_, trivial⟩
   ·
    trivial
   ·
    trivial
   ·
    trivial
  exact AW.ret (AW.retE (β := Val) (fun v => [⟨(.named 0), v⟩]) (fun v => []) (v := (truthValue (if (truthOf b) < (truthOf a) then (truthOf b) else (truthOf a)))) e2 (by kernel_rfl) rfl rfl)
 ·
  intro h3
  have h3q := (Go.Am.beq_neg h3)
  have e4 := e0.trans (Go.Am.bif_f h3)
  refine AW.seq (AW.r1 hC [0, 4, 5, 6, 16] [16, 20, 24] ⟨[(0, sI kind), (4, .ref 16 1 0), (5, .ref 20 1 0), (6, .ref 24 1 0), (16, sB (kind == 9))], [(16, .box 1 [sB (Val.Null a), sI (Val.N a)]), (20, .box 1 [sB (Val.Null b), sI (Val.N b)]), (24, .box 1 [sB false, sI 0])]⟩ ?_)
  refine AW.cd (kind == 9) ?_ ?_
  ·
   intro h5
   have h5q := (Go.Am.beq_pos h5)
   have e6 := e4.trans (Go.Am.bif_t h5)
   refine AW.seq (AW.d0 hC hM [6] [24] ⟨[(6, .ref 24 1 0)], [(24, .box 1 [sB (Val.Null (truthValue (if (truthOf b) > (truthOf a) then (truthOf b) else (truthOf a)))), sI (Val.N (truthValue (if (truthOf b) > (truthOf a) then (truthOf b) else (truthOf a))))])]⟩ [(True), (True), (True)] ?_ ?_)
   ·
    refine ⟨?_, ?_, ?_, trivial⟩
    ·
     trivial
    ·
     trivial
    ·
     trivial
   exact AW.ret (AW.retE (β := Val) (fun v => [⟨(.named 0), v⟩]) (fun v => []) (v := (truthValue (if (truthOf b) > (truthOf a) then (truthOf b) else (truthOf a)))) e6 (by kernel_rfl) rfl rfl)
  ·
   intro h7
   have h7q := (Go.Am.beq_neg h7)
   have e8 := e4.trans (Go.Am.bif_f h7)
   refine AW.seq (AW.r0 hC [0, 4, 5, 6, 25] [16, 20, 24] ⟨[(0, sI kind), (4, .ref 16 1 0), (5, .ref 20 1 0), (6, .ref 24 1 0), (25, sB (bif (Val.Null a) then true else (Val.Null b)))], [(16, .box 1 [sB (Val.Null a), sI (Val.N a)]), (20, .box 1 [sB (Val.Null b), sI (Val.N b)]), (24, .box 1 [sB false, sI 0])]⟩ [(((Val.Null a) = false) → (((Val.Null a) = false))), (((Val.Null a) = false) → (((Val.Null a) = false)))] ?_ ?_)
   ·
    refine ⟨?_, ?_, trivial⟩
    ·
     intro g9
     have g9p0 : (Val.Null a) = false := g9
     assumption
    ·
     intro g10
     have g10p0 : (Val.Null a) = false := g10
     assumption
   refine AW.cd (bif (Val.Null a) then true else (Val.Null b)) ?_ ?_
   ·
    intro h11
    have h11q : ((Val.Null a) = true) ∨ ((Val.Null b) = true) := (Or.imp (fun h => h) (fun h => h) (Go.Am.or_pos h11))
    have e12 := e8.trans (Go.Am.bif_t h11)
    refine AW.seq (AW.r0 hC [6] [24] ⟨[(6, .ref 24 1 0)], [(24, .box 1 [sB (Val.Null inull), sI (Val.N inull)])]⟩ [(True)] ?_ ?_)
    ·
     refine ⟨?_, trivial⟩
     ·
      trivial
    exact AW.ret (AW.retE (β := Val) (fun v => [⟨(.named 0), v⟩]) (fun v => []) (v := inull) e12 (by kernel_rfl) rfl rfl)
   ·
    intro h13
    have h13q : ((Val.Null a) = false) ∧ ((Val.Null b) = false) := (And.imp (fun h => h) (fun h => h) (Go.Am.or_neg h13))
    have e14 := e8.trans (Go.Am.bif_f h13)
    refine AW.kp [0, 4, 5, 6] [16, 20, 24] ⟨[(0, sI kind), (4, .ref 16 1 0), (5, .ref 20 1 0), (6, .ref 24 1 0)], [(16, .box 1 [sB (Val.Null a), sI (Val.N a)]), (20, .box 1 [sB (Val.Null b), sI (Val.N b)]), (24, .box 1 [sB false, sI 0])]⟩ ?_
    refine AW.skip (AW.seq (AW.seq (AW.r1 hC [4, 5, 6, 33] [16, 20, 24] ⟨[(4, .ref 16 1 0), (5, .ref 20 1 0), (6, .ref 24 1 0), (33, sI kind)], [(16, .box 1 [sB (Val.Null a), sI (Val.N a)]), (20, .box 1 [sB (Val.Null b), sI (Val.N b)]), (24, .box 1 [sB false, sI 0])]⟩ ?_)))
    refine AW.block (AW.seq (AW.r1 hC [4, 5, 6, 33, 34] [16, 20, 24] ⟨[(4, .ref 16 1 0), (5, .ref 20 1 0), (6, .ref 24 1 0), (33, sI kind), (34, sB (kind == 3))], [(16, .box 1 [sB (Val.Null a), sI (Val.N a)]), (20, .box 1 [sB (Val.Null b), sI (Val.N b)]), (24, .box 1 [sB false, sI 0])]⟩ ?_))
    refine AW.cd (kind == 3) ?_ ?_
    ·
     intro h15
     have h15q := (Go.Am.beq_pos h15)
     have e16 := e14.trans (Go.Am.bif_t h15)
     refine AW.seq (AW.r0 hC [6] [24] ⟨[(6, .ref 24 1 0)], [(24, .box 1 [sB (Val.Null (numberOrNull ((Val.N a) + (Val.N b)))), sI (Val.N (numberOrNull ((Val.N a) + (Val.N b))))])]⟩ [R64 ((Val.N a) + (Val.N b)), (True)] ?_ ?_)
     ·
      refine ⟨?_, ?_, trivial⟩
      ·
       refine R64.of ?_
       omega
      ·
       trivial
     exact AW.ret (AW.retE (β := Val) (fun v => [⟨(.named 0), v⟩]) (fun v => []) (v := (numberOrNull ((Val.N a) + (Val.N b)))) e16 (by kernel_rfl) rfl rfl)
    ·
     intro h17
     have h17q := (Go.Am.beq_neg h17)
     have e18 := e14.trans (Go.Am.bif_f h17)
     refine AW.seq (AW.r1 hC [4, 5, 6, 33, 42] [16, 20, 24] ⟨[(4, .ref 16 1 0), (5, .ref 20 1 0), (6, .ref 24 1 0), (33, sI kind), (42, sB (kind == 4))], [(16, .box 1 [sB (Val.Null a), sI (Val.N a)]), (20, .box 1 [sB (Val.Null b), sI (Val.N b)]), (24, .box 1 [sB false, sI 0])]⟩ ?_)
     refine AW.cd (kind == 4) ?_ ?_
     ·
      intro h19
      have h19q := (Go.Am.beq_pos h19)
      have e20 := e18.trans (Go.Am.bif_t h19)
      refine AW.seq (AW.r0 hC [6] [24] ⟨[(6, .ref 24 1 0)], [(24, .box 1 [sB (Val.Null (numberOrNull ((Val.N a) - (Val.N b)))), sI (Val.N (numberOrNull ((Val.N a) - (Val.N b))))])]⟩ [R64 ((Val.N a) - (Val.N b)), (True)] ?_ ?_)
      ·
       refine ⟨?_, ?_, trivial⟩
       ·
        refine R64.of ?_
        omega
       ·
        trivial
      exact AW.ret (AW.retE (β := Val) (fun v => [⟨(.named 0), v⟩]) (fun v => []) (v := (numberOrNull ((Val.N a) - (Val.N b)))) e20 (by kernel_rfl) rfl rfl)
     ·
      intro h21
      have h21q := (Go.Am.beq_neg h21)
      have e22 := e18.trans (Go.Am.bif_f h21)
      refine AW.seq (AW.r1 hC [4, 5, 6, 33, 50] [16, 20, 24] ⟨[(4, .ref 16 1 0), (5, .ref 20 1 0), (6, .ref 24 1 0), (33, sI kind), (50, sB (kind == 5))], [(16, .box 1 [sB (Val.Null a), sI (Val.N a)]), (20, .box 1 [sB (Val.Null b), sI (Val.N b)]), (24, .box 1 [sB false, sI 0])]⟩ ?_)
      refine AW.cd (kind == 5) ?_ ?_
      ·
       intro h23
       have h23q := (Go.Am.beq_pos h23)
       have e24 := e22.trans (Go.Am.bif_t h23)
       refine AW.seq (AW.r0 hC [6] [24] ⟨[(6, .ref 24 1 0)], [(24, .box 1 [sB (Val.Null (numberOrNull ((Val.N a) * (Val.N b)))), sI (Val.N (numberOrNull ((Val.N a) * (Val.N b))))])]⟩ [R64 ((Val.N a) * (Val.N b)), (True)] ?_ ?_)
       ·
        refine ⟨?_, ?_, trivial⟩
        ·
         refine R64.of ?_
         have := mul_b hpre.1 hpre.2
         omega
        ·
         trivial
       exact AW.ret (AW.retE (β := Val) (fun v => [⟨(.named 0), v⟩]) (fun v => []) (v := (numberOrNull ((Val.N a) * (Val.N b)))) e24 (by kernel_rfl) rfl rfl)
      ·
       intro h25
       have h25q := (Go.Am.beq_neg h25)
       have e26 := e22.trans (Go.Am.bif_f h25)
       refine AW.seq (AW.r1 hC [4, 5, 6, 58] [16, 20, 24] ⟨[(4, .ref 16 1 0), (5, .ref 20 1 0), (6, .ref 24 1 0), (58, sB (kind == 6))], [(16, .box 1 [sB (Val.Null a), sI (Val.N a)]), (20, .box 1 [sB (Val.Null b), sI (Val.N b)]), (24, .box 1 [sB false, sI 0])]⟩ ?_)
       refine AW.cd (kind == 6) ?_ ?_
       ·
        intro h27
        have h27q := (Go.Am.beq_pos h27)
        have e28 := e26.trans (Go.Am.bif_t h27)
        refine AW.seq (AW.r0 hC [6] [24] ⟨[(6, .ref 24 1 0)], [(24, .box 1 [sB (Val.Null (flag ((Val.N a) == (Val.N b)))), sI (Val.N (flag ((Val.N a) == (Val.N b))))])]⟩ [(True)] ?_ ?_)
        ·
         refine ⟨?_, trivial⟩
         ·
          trivial
        exact AW.ret (AW.retE (β := Val) (fun v => [⟨(.named 0), v⟩]) (fun v => []) (v := (flag ((Val.N a) == (Val.N b)))) e28 (by kernel_rfl) rfl rfl)
       ·
        intro h29
        have h29q := (Go.Am.beq_neg h29)
        have e30 := e26.trans (Go.Am.bif_f h29)
        refine AW.kp [4, 5, 6] [16, 20, 24] ⟨[(4, .ref 16 1 0), (5, .ref 20 1 0), (6, .ref 24 1 0)], [(16, .box 1 [sB (Val.Null a), sI (Val.N a)]), (20, .box 1 [sB (Val.Null b), sI (Val.N b)]), (24, .box 1 [sB false, sI 0])]⟩ ?_
        refine AW.skip (AW.seq (AW.r0 hC [6] [24] ⟨[(6, .ref 24 1 0)], [(24, .box 1 [sB (Val.Null (flag (decide ((Val.N a) < (Val.N b))))), sI (Val.N (flag (decide ((Val.N a) < (Val.N b)))))])]⟩ [(True)] ?_ ?_))
        ·
         refine ⟨?_, trivial⟩
         ·
          trivial
        exact AW.ret (AW.retE (β := Val) (fun v => [⟨(.named 0), v⟩]) (fun v => []) (v := (flag (decide ((Val.N a) < (Val.N b))))) e30 (by kernel_rfl) rfl rfl)

def VRw (row : List Val) : Prop := ∀ j, j < row.length → VV (row.getD j Val.zero)
def VXr (row : List Val) (e : Xpr) : Prop := VRw row ∧ ∃ l, VE ((row.length : Nat) : Int) l e

theorem VXr.kid {row : List Val} {e : Xpr} (h : VXr row e) {i : Nat} (hi : i < e.Kids.length) : VXr row (e.Kids.getD i Xpr.zero) := by
 obtain ⟨h1, l, h2⟩ := h
 exact ⟨h1, h2.kid hi⟩

theorem VXr.node {row : List Val} {e : Xpr} (h : VXr row e) : Node ((row.length : Nat) : Int) e := by
 obtain ⟨h1, l, h2⟩ := h
 exact h2.node

theorem VV.n {v : Val} (h : VV v) : -9999 ≤ v.N ∧ v.N ≤ 9999 := by
 unfold VV at h
 split at h
 ·
  omega
 ·
  exact h

theorem truthOf_b (v : Val) : 0 ≤ truthOf v ∧ truthOf v ≤ 2 := by
 unfold truthOf
 cases v.Null with
 | true => rw [cond_true]; decide
 | false =>
  rw [cond_false]
  cases (v.N == 0) <;> simp only [cond_true, cond_false] <;> decide

theorem truthValue_vv (t : Int) : VV (truthValue t) := by
 unfold truthValue flag inull inumber VV
 cases (t == 1) with
 | true => simp
 | false =>
  rw [cond_false]
  cases (t == 2) <;> simp

theorem flag_vv (b : Bool) : VV (flag b) := by
 unfold flag inumber VV
 cases b <;> simp

theorem numberOrNull_vv (n : Int) : VV (numberOrNull n) := by
 unfold numberOrNull
 cases h : valValid (inumber n) with
 | true => exact valValid_iff.1 h
 | false => exact (by unfold inull VV; simp)

theorem combined_vv (k : Int) (a b : Val) : VV (combined k a b) := by
 unfold combined
 cases (k == 8) with
 | true => exact truthValue_vv _
 | false =>
  rw [cond_false]
  cases (k == 9) with
  | true => exact truthValue_vv _
  | false =>
   rw [cond_false]
   cases (bif Val.Null a then true else Val.Null b) with
   | true => exact (by rw [cond_true]; unfold inull VV; simp)
   | false =>
    rw [cond_false]
    cases (k == 3) <;> cases (k == 4) <;> cases (k == 5) <;> cases (k == 6) <;> simp only [cond_true, cond_false] <;> first | exact numberOrNull_vv _ | exact flag_vv _

def value_r : Nat → Xpr → (List Val) → Val
 | 0, e, row => Val.zero
 | fuel + 1, e, row => (bif ((Xpr.Kind e) == 1) then (List.getD row (Int.toNat (Xpr.Col e)) Val.zero) else (bif ((Xpr.Kind e) == 2) then (Xpr.V e) else (bif ((Xpr.Kind e) == 10) then (truthValue (2 - (truthOf ((value_r fuel) (List.getD (Xpr.Kids e) 0 Xpr.zero) row)))) else (bif ((Xpr.Kind e) == 11) then (flag (Val.Null ((value_r fuel) (List.getD (Xpr.Kids e) 0 Xpr.zero) row))) else (combined (Xpr.Kind e) ((value_r fuel) (List.getD (Xpr.Kids e) 0 Xpr.zero) row) ((value_r fuel) (List.getD (Xpr.Kids e) 1 Xpr.zero) row))))))

def value (e : Xpr) (row : List Val) : Val := value_r (SizeOf.sizeOf e + 1) e row

def value_spn (fuel : Nat) : FnSpec := mkSpec [.rd (.named 1), .val (.slice (.named 0))] [.val (.named 0)] (fun (e : Xpr) (row : List Val) => (VXr row e) ∧ SizeOf.sizeOf e < fuel) (fun (e : Xpr) (row : List Val) => [⟨(.named 0), (value_r fuel e row)⟩])

def value_sp : FnSpec := mkSpec [.rd (.named 1), .val (.slice (.named 0))] [.val (.named 0)] (fun (e : Xpr) (row : List Val) => VXr row e) (fun (e : Xpr) (row : List Val) => [⟨(.named 0), (value e row)⟩])

theorem value_vv : ∀ (f : Nat) (e : Xpr) (row : List Val), VXr row e → VV (value_r f e row) := by
 intro f
 induction f with
 | zero => intro e row h; exact (by show VV Val.zero; unfold VV Val.zero; simp)
 | succ f ih =>
  intro e row h
  have hn := h.node
  unfold value_r
  by_cases h1 : e.Kind = 1
  ·
   rw [show (e.Kind == 1) = true from beq_iff_eq.2 h1, cond_true]
   have hc := hn.col h1
   exact h.1 _ (by omega)
  ·
   rw [show (e.Kind == 1) = false from beq_false_of_ne h1, cond_false]
   by_cases h2 : e.Kind = 2
   ·
    rw [show (e.Kind == 2) = true from beq_iff_eq.2 h2, cond_true]
    exact hn.val h2
   ·
    rw [show (e.Kind == 2) = false from beq_false_of_ne h2, cond_false]
    cases (e.Kind == 10) with
    | true => exact truthValue_vv _
    | false =>
     rw [cond_false]
     cases (e.Kind == 11) with
     | true => exact flag_vv _
     | false => exact combined_vv _ _ _

theorem value_okn (fuel : Nat) : FnOK Try.prog 50 (value_spn fuel) := by
 induction fuel with
 | zero => exact FnOK.never Try.func50 (by kernel_rfl) rfl (fun _ _ h => absurd h.2 (Nat.not_lt_zero _))
 | succ fuel ih => ?_
 have hC : CtxOK Try.prog (mkCtx tyL [(50, (value_spn fuel)), (60, truthOf_sp), (61, truthValue_sp), (62, flag_sp), (63, combined_sp)]) := CtxOK.cons ih (CtxOK.cons truthOf_ok (CtxOK.cons truthValue_ok (CtxOK.cons flag_ok (CtxOK.cons combined_ok (CtxOK.nil tyOK)))))
 have hM : Try.prog.follows .mixedOrders = true := Try.checked.mixed
 refine FnOK.of_body Try.func50 (by kernel_rfl) rfl (C := (mkCtx tyL [(50, (value_spn fuel)), (60, truthOf_sp), (61, truthValue_sp), (62, flag_sp), (63, combined_sp)])) hC.ty (by kernel_rfl) ?_
 intro (e : Xpr) (row : List Val) hwf hpre E
 have hpre : (VXr row e) ∧ SizeOf.sizeOf e < fuel + 1 := hpre
 have hw_e : Wf ⟨(.named 1), (e : Xpr)⟩ := hwf _ (List.Mem.head _)
 obtain ⟨hr_e_Kind, hr_e_Col, hl_e_Kids⟩ := Xpr.wfl hw_e
 have hw_row : Wf ⟨(.slice (.named 0)), (row : List Val)⟩ := hwf _ (List.Mem.tail _ (List.Mem.head _))
 have hl_row : ((List.length row : Nat) : Int) ≤ 9223372036854775807 := hw_row.len
 have hn := hpre.1.node
 have hnk := hn.kids
 have hkc := kids_cases (Xpr.Kind e)
 have hcol := hn.col
 have e0 : value_r (fuel + 1) e row = value_r (fuel + 1) e row := rfl
 refine AW.seq (AW.r1 hC [0, 1, 4] [16] ⟨[(0, sR4 e), (1, sD10 row), (4, .ref 16 1 0)], [(16, .box 1 [sB false, sI 0])]⟩ ?_)
 refine AW.seq (AW.seq (AW.r1 hC [0, 1, 4, 9] [16] ⟨[(0, sR4 e), (1, sD10 row), (4, .ref 16 1 0), (9, sI (Xpr.Kind e))], [(16, .box 1 [sB false, sI 0])]⟩ ?_))
 refine AW.block (AW.seq (AW.r1 hC [0, 1, 4, 9, 10] [16] ⟨[(0, sR4 e), (1, sD10 row), (4, .ref 16 1 0), (9, sI (Xpr.Kind e)), (10, sB ((Xpr.Kind e) == 1))], [(16, .box 1 [sB false, sI 0])]⟩ ?_))
 refine AW.cd ((Xpr.Kind e) == 1) ?_ ?_
 ·
  intro h1
  have h1q := (Go.Am.beq_pos h1)
  have e2 := e0.trans (Go.Am.bif_t h1)
  refine AW.seq (AW.r0 hC [4] [16] ⟨[(4, .ref 16 1 0)], [(16, .box 1 [sB (Val.Null (List.getD row (Int.toNat (Xpr.Col e)) Val.zero)), sI (Val.N (List.getD row (Int.toNat (Xpr.Col e)) Val.zero))])]⟩ [IX (Xpr.Col e) ((List.length row : Nat) : Int)] ?_ ?_)
  ·
   refine ⟨?_, trivial⟩
   ·
    refine IX.of ?_
    omega
  exact AW.ret (AW.retE (β := Val) (fun v => [⟨(.named 0), v⟩]) (fun v => []) (v := (List.getD row (Int.toNat (Xpr.Col e)) Val.zero)) e2 (by kernel_rfl) rfl rfl)
 ·
  intro h3
  have h3q := (Go.Am.beq_neg h3)
  have e4 := e0.trans (Go.Am.bif_f h3)
  refine AW.seq (AW.r1 hC [0, 1, 4, 19] [16] ⟨[(0, sR4 e), (1, sD10 row), (4, .ref 16 1 0), (19, sB ((Xpr.Kind e) == 2))], [(16, .box 1 [sB false, sI 0])]⟩ ?_)
  refine AW.cd ((Xpr.Kind e) == 2) ?_ ?_
  ·
   intro h5
   have h5q := (Go.Am.beq_pos h5)
   have e6 := e4.trans (Go.Am.bif_t h5)
   refine AW.seq (AW.r1 hC [4] [16] ⟨[(4, .ref 16 1 0)], [(16, .box 1 [sB (Val.Null (Xpr.V e)), sI (Val.N (Xpr.V e))])]⟩ ?_)
   exact AW.ret (AW.retE (β := Val) (fun v => [⟨(.named 0), v⟩]) (fun v => []) (v := (Xpr.V e)) e6 (by kernel_rfl) rfl rfl)
  ·
   intro h7
   have h7q := (Go.Am.beq_neg h7)
   have e8 := e4.trans (Go.Am.bif_f h7)
   refine AW.kp [0, 1, 4] [16] ⟨[(0, sR4 e), (1, sD10 row), (4, .ref 16 1 0)], [(16, .box 1 [sB false, sI 0])]⟩ ?_
   refine AW.skip (AW.seq (AW.r0 hC [0, 1, 4, 5] [16, 20] ⟨[(0, sR4 e), (1, sD10 row), (4, .ref 16 1 0), (5, .ref 20 1 0)], [(16, .box 1 [sB false, sI 0]), (20, .box 1 [sB (Val.Null ((value_r fuel) (List.getD (Xpr.Kids e) 0 Xpr.zero) row)), sI (Val.N ((value_r fuel) (List.getD (Xpr.Kids e) 0 Xpr.zero) row))])]⟩ [IX (0 : Int) ((List.length (Xpr.Kids e) : Nat) : Int), ((VXr row (List.getD (Xpr.Kids e) 0 Xpr.zero)) ∧ SizeOf.sizeOf (List.getD (Xpr.Kids e) 0 Xpr.zero) < fuel)] ?_ ?_))
   ·
    refine ⟨?_, ?_, trivial⟩
    ·
     refine IX.of ?_
     omega
    ·
     exact ⟨hpre.1.kid (by omega), Nat.lt_of_lt_of_le (kid_lt (by omega)) (Nat.le_of_lt_succ hpre.2)⟩
   refine AW.seq (AW.seq (AW.r1 hC [0, 1, 4, 5, 35] [16, 20] ⟨[(0, sR4 e), (1, sD10 row), (4, .ref 16 1 0), (5, .ref 20 1 0), (35, sI (Xpr.Kind e))], [(16, .box 1 [sB false, sI 0]), (20, .box 1 [sB (Val.Null ((value_r fuel) (List.getD (Xpr.Kids e) 0 Xpr.zero) row)), sI (Val.N ((value_r fuel) (List.getD (Xpr.Kids e) 0 Xpr.zero) row))])]⟩ ?_))
   refine AW.block (AW.seq (AW.r1 hC [0, 1, 4, 5, 35, 36] [16, 20] ⟨[(0, sR4 e), (1, sD10 row), (4, .ref 16 1 0), (5, .ref 20 1 0), (35, sI (Xpr.Kind e)), (36, sB ((Xpr.Kind e) == 10))], [(16, .box 1 [sB false, sI 0]), (20, .box 1 [sB (Val.Null ((value_r fuel) (List.getD (Xpr.Kids e) 0 Xpr.zero) row)), sI (Val.N ((value_r fuel) (List.getD (Xpr.Kids e) 0 Xpr.zero) row))])]⟩ ?_))
   refine AW.cd ((Xpr.Kind e) == 10) ?_ ?_
   ·
    intro h9
    have h9q := (Go.Am.beq_pos h9)
    have e10 := e8.trans (Go.Am.bif_t h9)
    refine AW.seq (AW.r0 hC [4] [16] ⟨[(4, .ref 16 1 0)], [(16, .box 1 [sB (Val.Null (truthValue (2 - (truthOf ((value_r fuel) (List.getD (Xpr.Kids e) 0 Xpr.zero) row))))), sI (Val.N (truthValue (2 - (truthOf ((value_r fuel) (List.getD (Xpr.Kids e) 0 Xpr.zero) row)))))])]⟩ [(True), R64 (2 - (truthOf ((value_r fuel) (List.getD (Xpr.Kids e) 0 Xpr.zero) row))), (True)] ?_ ?_)
    ·
     refine ⟨?_, ?_, ?_, trivial⟩
     ·
      trivial
     ·
      refine R64.of ?_
      have := truthOf_b ((value_r fuel) (List.getD (Xpr.Kids e) 0 Xpr.zero) row); omega
     ·
      trivial
    exact AW.ret (AW.retE (β := Val) (fun v => [⟨(.named 0), v⟩]) (fun v => []) (v := (truthValue (2 - (truthOf ((value_r fuel) (List.getD (Xpr.Kids e) 0 Xpr.zero) row))))) e10 (by kernel_rfl) rfl rfl)
   ·
    intro h11
    have h11q := (Go.Am.beq_neg h11)
    have e12 := e8.trans (Go.Am.bif_f h11)
    refine AW.seq (AW.r1 hC [0, 1, 4, 5, 42] [16, 20] ⟨[(0, sR4 e), (1, sD10 row), (4, .ref 16 1 0), (5, .ref 20 1 0), (42, sB ((Xpr.Kind e) == 11))], [(16, .box 1 [sB false, sI 0]), (20, .box 1 [sB (Val.Null ((value_r fuel) (List.getD (Xpr.Kids e) 0 Xpr.zero) row)), sI (Val.N ((value_r fuel) (List.getD (Xpr.Kids e) 0 Xpr.zero) row))])]⟩ ?_)
    refine AW.cd ((Xpr.Kind e) == 11) ?_ ?_
    ·
     intro h13
     have h13q := (Go.Am.beq_pos h13)
     have e14 := e12.trans (Go.Am.bif_t h13)
     refine AW.seq (AW.r0 hC [4] [16] ⟨[(4, .ref 16 1 0)], [(16, .box 1 [sB (Val.Null (flag (Val.Null ((value_r fuel) (List.getD (Xpr.Kids e) 0 Xpr.zero) row)))), sI (Val.N (flag (Val.Null ((value_r fuel) (List.getD (Xpr.Kids e) 0 Xpr.zero) row))))])]⟩ [(True)] ?_ ?_)
     ·
      refine ⟨?_, trivial⟩
      ·
       trivial
     exact AW.ret (AW.retE (β := Val) (fun v => [⟨(.named 0), v⟩]) (fun v => []) (v := (flag (Val.Null ((value_r fuel) (List.getD (Xpr.Kids e) 0 Xpr.zero) row)))) e14 (by kernel_rfl) rfl rfl)
    ·
     intro h15
     have h15q := (Go.Am.beq_neg h15)
     have e16 := e12.trans (Go.Am.bif_f h15)
     refine AW.kp [0, 1, 4, 5] [16, 20] ⟨[(0, sR4 e), (1, sD10 row), (4, .ref 16 1 0), (5, .ref 20 1 0)], [(16, .box 1 [sB false, sI 0]), (20, .box 1 [sB (Val.Null ((value_r fuel) (List.getD (Xpr.Kids e) 0 Xpr.zero) row)), sI (Val.N ((value_r fuel) (List.getD (Xpr.Kids e) 0 Xpr.zero) row))])]⟩ ?_
     refine AW.skip (AW.seq (AW.d0 hC hM [4] [16] ⟨[(4, .ref 16 1 0)], [(16, .box 1 [sB (Val.Null (combined (Xpr.Kind e) ((value_r fuel) (List.getD (Xpr.Kids e) 0 Xpr.zero) row) ((value_r fuel) (List.getD (Xpr.Kids e) 1 Xpr.zero) row))), sI (Val.N (combined (Xpr.Kind e) ((value_r fuel) (List.getD (Xpr.Kids e) 0 Xpr.zero) row) ((value_r fuel) (List.getD (Xpr.Kids e) 1 Xpr.zero) row)))])]⟩ [IX (1 : Int) ((List.length (Xpr.Kids e) : Nat) : Int), ((VXr row (List.getD (Xpr.Kids e) 1 Xpr.zero)) ∧ SizeOf.sizeOf (List.getD (Xpr.Kids e) 1 Xpr.zero) < fuel), (((-9999 ≤ Val.N ((value_r fuel) (List.getD (Xpr.Kids e) 0 Xpr.zero) row) ∧ Val.N ((value_r fuel) (List.getD (Xpr.Kids e) 0 Xpr.zero) row) ≤ 9999) ∧ (-9999 ≤ Val.N ((value_r fuel) (List.getD (Xpr.Kids e) 1 Xpr.zero) row) ∧ Val.N ((value_r fuel) (List.getD (Xpr.Kids e) 1 Xpr.zero) row) ≤ 9999)))] ?_ ?_))
     ·
      refine ⟨?_, ?_, ?_, trivial⟩
      ·
       refine IX.of ?_
       omega
      ·
       exact ⟨hpre.1.kid (by omega), Nat.lt_of_lt_of_le (kid_lt (by omega)) (Nat.le_of_lt_succ hpre.2)⟩
      ·
       exact ⟨(value_vv fuel _ _ (hpre.1.kid (by omega))).n, (value_vv fuel _ _ (hpre.1.kid (by omega))).n⟩
     exact AW.ret (AW.retE (β := Val) (fun v => [⟨(.named 0), v⟩]) (fun v => []) (v := (combined (Xpr.Kind e) ((value_r fuel) (List.getD (Xpr.Kids e) 0 Xpr.zero) row) ((value_r fuel) (List.getD (Xpr.Kids e) 1 Xpr.zero) row))) e16 (by kernel_rfl) rfl rfl)

theorem value_fu : AllTV (value_sp.ps.map PK.ty) (fun tvs => value_sp.pre tvs → ∃ k, (value_spn k).pre tvs ∧ (value_spn k).fn tvs = value_sp.fn tvs ∧ (value_spn k).bx tvs = value_sp.bx tvs) :=
 (fun (e : Xpr) (row : List Val) h => ⟨SizeOf.sizeOf e + 1, (show (VXr row e) ∧ SizeOf.sizeOf e < SizeOf.sizeOf e + 1 from ⟨h, Nat.lt_succ_self _⟩), (show (value_spn (SizeOf.sizeOf e + 1)).fn [⟨(.named 1), (e : Xpr)⟩, ⟨(.slice (.named 0)), (row : List Val)⟩] = ([⟨(.named 0), (value_r (SizeOf.sizeOf e + 1) e row)⟩] : List TV) from by kernel_rfl).trans (show ([⟨(.named 0), (value_r (SizeOf.sizeOf e + 1) e row)⟩] : List TV) = value_sp.fn [⟨(.named 1), (e : Xpr)⟩, ⟨(.slice (.named 0)), (row : List Val)⟩] from by kernel_rfl), by kernel_rfl⟩)

theorem value_ok : FnOK Try.prog 50 value_sp := FnOK.of_fuel value_okn (fun _ => rfl) (fun _ => rfl) (AllTV.get value_fu)

def validRow_l0 (row : List Val) : Nat → Nat → Unit ⊕ Bool
 | 0, v11 => .inl ()
 | k + 1, v11 => (bif (decide (((v11 : Nat) : Int) < ((List.length row : Nat) : Int))) then (bif (!(valValid (List.getD row v11 Val.zero))) then (.inr false) else (validRow_l0 row k (v11 + 1))) else (.inl ()))

def validRow (row : List Val) : Bool := (bif (!(validWidth ((List.length row : Nat) : Int))) then false else (Sum.elim (fun _ => true) (fun r => r) (validRow_l0 row ((List.length row) - 0 + 1) 0)))

def validRow_sp : FnSpec := mkSpec [.val (.slice (.named 0))] [.val .bool] (fun (row : List Val) => True) (fun (row : List Val) => [⟨.bool, (validRow row)⟩])

theorem validRow_ok : FnOK Try.prog 35 validRow_sp := by
 have hC : CtxOK Try.prog (mkCtx tyL [(34, validWidth_sp), (47, valValid_sp)]) := CtxOK.cons validWidth_ok (CtxOK.cons valValid_ok (CtxOK.nil tyOK))
 refine FnOK.of_body Try.func35 (by kernel_rfl) rfl (C := (mkCtx tyL [(34, validWidth_sp), (47, valValid_sp)])) hC.ty (by kernel_rfl) ?_
 intro (row : List Val) hwf hpre E
 have hpre : True := hpre
 have hw_row : Wf ⟨(.slice (.named 0)), (row : List Val)⟩ := hwf _ (List.Mem.head _)
 have hl_row : ((List.length row : Nat) : Int) ≤ 9223372036854775807 := hw_row.len
 have e0 : validRow row = validRow row := rfl
 refine AW.seq (AW.r1 hC [0] [] ⟨[(0, sD10 row)], []⟩ ?_)
 refine AW.seq (AW.seq (AW.r0 hC [0, 8] [] ⟨[(0, sD10 row), (8, sB (!(validWidth ((List.length row : Nat) : Int))))], []⟩ [(True)] ?_ ?_))
 ·
  refine ⟨?_, trivial⟩
  ·
   trivial
 refine AW.cd (!(validWidth ((List.length row : Nat) : Int))) ?_ ?_
 ·
  intro h1
  have h1q := (Go.Am.not_pos h1)
  have e2 := e0.trans (Go.Am.bif_t h1)
  refine AW.seq (AW.r1 hC [2] [] ⟨[(2, sB false)], []⟩ ?_)
  exact AW.ret (AW.rB false e2)
 ·
  intro h3
  have h3q := (Go.Am.not_neg h3)
  have e4 := e0.trans (Go.Am.bif_f h3)
  refine AW.kp [0] [] ⟨[(0, sD10 row)], []⟩ ?_
  refine AW.skip (AW.seq (AW.seq (AW.r1 hC [9, 10, 11] [] ⟨[(9, sD10 row), (10, sI ((List.length row : Nat) : Int)), (11, sI 0)], []⟩ ?_)))
  refine AW.cutQ (α := Unit) (fun x => ⟨[], []⟩) (fun x => (True) ∧ (validRow_l0 row ((List.length row) - 0 + 1) 0) = (.inl ())) ?_ ?_
  ·
   skip
   refine AW.block (AW.loop (α := Nat) (fun x => ⟨[(9, sD10 row), (10, sI ((List.length row : Nat) : Int)), (11, sI ((x : Nat) : Int))], []⟩) (fun x => (True) ∧ ∃ k, (List.length row) - x < k ∧ (validRow_l0 row ((List.length row) - 0 + 1) 0) = validRow_l0 row k x) (fun x => (List.length row) - x) 0 (by kernel_rfl) ⟨?_, _, Nat.lt_succ_self _, rfl⟩ ?_)
   ·
    show True
    exact trivial
   ·
    intro v11 hR
    obtain ⟨hI0, k34, hk32, e33⟩ := hR
    replace hI0 : True := hI0
    replace hk32 : (List.length row) - v11 < k34 := hk32
    obtain ⟨k34q, rfl⟩ : ∃ k, k34 = k + 1 := ⟨k34 - 1, by omega⟩
    refine AW.seq (AW.r1 hC [9, 10, 11, 12] [] ⟨[(9, sD10 row), (10, sI ((List.length row : Nat) : Int)), (11, sI ((v11 : Nat) : Int)), (12, sB (decide (((v11 : Nat) : Int) < ((List.length row : Nat) : Int))))], []⟩ ?_)
    refine AW.seq (AW.cd (decide (((v11 : Nat) : Int) < ((List.length row : Nat) : Int))) ?_ ?_)
    ·
     intro h35
     have h35q := (of_decide_eq_true h35)
     have e36 := e33.trans (Go.Am.bif_t h35)
     refine AW.kp [9, 10, 11] [] ⟨[(9, sD10 row), (10, sI ((List.length row : Nat) : Int)), (11, sI ((v11 : Nat) : Int))], []⟩ ?_
     refine AW.skip (AW.seq (AW.block (AW.seq (AW.r0 hC [4, 9, 10, 11] [16] ⟨[(4, .ref 16 1 0), (9, sD10 row), (10, sI ((List.length row : Nat) : Int)), (11, sI ((v11 : Nat) : Int))], [(16, .box 1 [sB (Val.Null (List.getD row v11 Val.zero)), sI (Val.N (List.getD row v11 Val.zero))])]⟩ [IX ((v11 : Nat) : Int) ((List.length row : Nat) : Int)] ?_ ?_))))
     ·
      refine ⟨?_, trivial⟩
      ·
       refine IX.of ?_
       omega
     refine AW.seq (AW.r0 hC [9, 10, 11, 17] [] ⟨[(9, sD10 row), (10, sI ((List.length row : Nat) : Int)), (11, sI ((v11 : Nat) : Int)), (17, sB (!(valValid (List.getD row v11 Val.zero))))], []⟩ [(True)] ?_ ?_)
     ·
      refine ⟨?_, trivial⟩
      ·
       trivial
     refine AW.cd (!(valValid (List.getD row v11 Val.zero))) ?_ ?_
     ·
      intro h37
      have h37q := (Go.Am.not_pos h37)
      have e38 := e36.trans (Go.Am.bif_t h37)
      refine AW.seq (AW.r1 hC [2] [] ⟨[(2, sB false)], []⟩ ?_)
      refine AW.ret ?_
      have e39 := e4.trans (Go.Am.elim_r e38)
      exact AW.rB false e39
     ·
      intro h40
      have h40q := (Go.Am.not_neg h40)
      have e41 := e36.trans (Go.Am.bif_f h40)
      refine AW.kp [9, 10, 11] [] ⟨[(9, sD10 row), (10, sI ((List.length row : Nat) : Int)), (11, sI ((v11 : Nat) : Int))], []⟩ ?_
      refine AW.skip (AW.r0 hC [9, 10, 11] [] ⟨[(9, sD10 row), (10, sI ((List.length row : Nat) : Int)), (11, sI ((v11 + 1 : Nat) : Int))], []⟩ [R64 ((v11 + 1 : Nat) : Int)] ?_ ?_)
      ·
       refine ⟨?_, trivial⟩
       ·
        refine R64.of ?_
        omega
      refine AW.back (x := v11) (v11 + 1) (by kernel_rfl) ⟨?_, k34q, ?_, e41⟩ ?_
      ·
       show True
       assumption
      ·
       show (List.length row) - (v11 + 1) < k34q
       omega
      ·
       show (List.length row) - (v11 + 1) < (List.length row) - v11
       omega
    ·
     intro h42
     have h42q := (of_decide_eq_false h42)
     have e43 := e33.trans (Go.Am.bif_f h42)
     refine AW.kp [] [] ⟨[], []⟩ ?_
     refine AW.exit ?_
     refine AW.meet () (by kernel_rfl) ⟨?_, e43⟩
     show True
     assumption
  ·
   intro x hR
   obtain ⟨hJ0, e44⟩ := hR
   replace hJ0 : True := hJ0
   have e45 := e4.trans (Go.Am.elim_l e44)
   refine AW.seq (AW.r1 hC [2] [] ⟨[(2, sB true)], []⟩ ?_)
   exact AW.ret (AW.rB true e45)

theorem validRow_iff {row : List Val} : validRow row = true ↔ (1 ≤ ((row.length : Nat) : Int) ∧ ((row.length : Nat) : Int) ≤ 6) ∧ VRw row := by
 unfold validRow
 have h := loop_iff (validRow_l0 row) row.length (fun i => valValid (List.getD row i Val.zero)) true (fun k i => rfl)
 cases hw : validWidth ((List.length row : Nat) : Int) with
 | false =>
  refine ⟨fun h => absurd h (by simp), fun h => ?_⟩
  rw [validWidth_iff.2 h.1] at hw
  cases hw
 | true =>
  rw [Bool.not_true, cond_false, h]
  exact ⟨fun h => ⟨validWidth_iff.1 hw, fun j hj => valValid_iff.1 (h.2 j hj)⟩, fun h => ⟨rfl, fun j hj => valValid_iff.2 (h.2 j hj)⟩⟩

def EvalExpr (e : Xpr) (row : List Val) : Val × Bool := (bif (bif (!(validRow row)) then true else (!(iValidExpr (Xpr.mk (Xpr.Kind e) (Xpr.Col e) (Xpr.V e) (Xpr.Kids e)) ((List.length row : Nat) : Int)))) then ((Val.mk false 0), false) else ((value (Xpr.mk (Xpr.Kind e) (Xpr.Col e) (Xpr.V e) (Xpr.Kids e)) row), true))

def EvalExpr_sp : FnSpec := mkSpec [.val (.named 1), .val (.slice (.named 0))] [.val (.named 0), .val .bool] (fun (e : Xpr) (row : List Val) => True) (fun (e : Xpr) (row : List Val) => [⟨(.named 0), ((EvalExpr e row).1)⟩, ⟨.bool, ((EvalExpr e row).2)⟩])

theorem EvalExpr_ok : FnOK Try.prog 37 EvalExpr_sp := by
 have hC : CtxOK Try.prog (mkCtx tyL [(23, iValidExpr_sp), (35, validRow_sp), (50, value_sp)]) := CtxOK.cons iValidExpr_ok (CtxOK.cons validRow_ok (CtxOK.cons value_ok (CtxOK.nil tyOK)))
 refine FnOK.of_body Try.func37 (by kernel_rfl) rfl (C := (mkCtx tyL [(23, iValidExpr_sp), (35, validRow_sp), (50, value_sp)])) hC.ty (by kernel_rfl) ?_
 intro (e : Xpr) (row : List Val) hwf hpre E
 have hpre : True := hpre
 have hw_e : Wf ⟨(.named 1), (e : Xpr)⟩ := hwf _ (List.Mem.head _)
 obtain ⟨hr_e_Kind, hr_e_Col, hl_e_Kids⟩ := Xpr.wfl hw_e
 have hw_row : Wf ⟨(.slice (.named 0)), (row : List Val)⟩ := hwf _ (List.Mem.tail _ (List.Mem.head _))
 have hl_row : ((List.length row : Nat) : Int) ≤ 9223372036854775807 := hw_row.len
 have e0 : EvalExpr e row = EvalExpr e row := rfl
 refine AW.seq (AW.r1 hC [1, 2, 4] [8, 16] ⟨[(1, sD10 row), (2, .ref 8 1 0), (4, .ref 16 1 0)], [(8, .box 1 [sI (Xpr.Kind e), sI (Xpr.Col e), sB (Val.Null (Xpr.V e)), sI (Val.N (Xpr.V e)), sD11 (Xpr.Kids e)]), (16, .box 1 [sB false, sI 0])]⟩ ?_)
 refine AW.seq (AW.seq (AW.r0 hC [1, 2, 4, 15] [8, 16] ⟨[(1, sD10 row), (2, .ref 8 1 0), (4, .ref 16 1 0), (15, sB (bif (!(validRow row)) then true else (!(iValidExpr (Xpr.mk (Xpr.Kind e) (Xpr.Col e) (Xpr.V e) (Xpr.Kids e)) ((List.length row : Nat) : Int)))))], [(8, .box 1 [sI (Xpr.Kind e), sI (Xpr.Col e), sB (Val.Null (Xpr.V e)), sI (Val.N (Xpr.V e)), sD11 (Xpr.Kids e)]), (16, .box 1 [sB false, sI 0])]⟩ [(True), (((!(validRow row)) = false) → (((!(validRow row)) = false))), (((!(validRow row)) = false) → (((!(validRow row)) = false))), (((!(validRow row)) = false) → (((!(validRow row)) = false))), (((!(validRow row)) = false) → (True)), (((!(validRow row)) = false) → (((!(validRow row)) = false))), (((!(validRow row)) = false) → (((!(validRow row)) = false)))] ?_ ?_))
 ·
  refine ⟨?_, ?_, ?_, ?_, ?_, ?_, ?_, trivial⟩
  ·
   trivial
  ·
   intro g1
   have g1p0 : (validRow row) = true := (Go.Am.not_neg g1)
   assumption
  ·
   intro g2
   have g2p0 : (validRow row) = true := (Go.Am.not_neg g2)
   assumption
  ·
   intro g3
   have g3p0 : (validRow row) = true := (Go.Am.not_neg g3)
   assumption
  ·
   intro g4
   have g4p0 : (validRow row) = true := (Go.Am.not_neg g4)
   trivial
  ·
   intro g5
   have g5p0 : (validRow row) = true := (Go.Am.not_neg g5)
   assumption
  ·
   intro g6
   have g6p0 : (validRow row) = true := (Go.Am.not_neg g6)
   assumption
 refine AW.cd (bif (!(validRow row)) then true else (!(iValidExpr (Xpr.mk (Xpr.Kind e) (Xpr.Col e) (Xpr.V e) (Xpr.Kids e)) ((List.length row : Nat) : Int)))) ?_ ?_
 ·
  intro h7
  have h7q : ((validRow row) = false) ∨ ((iValidExpr (Xpr.mk (Xpr.Kind e) (Xpr.Col e) (Xpr.V e) (Xpr.Kids e)) ((List.length row : Nat) : Int)) = false) := (Or.imp (fun h => (Go.Am.not_pos h)) (fun h => (Go.Am.not_pos h)) (Go.Am.or_pos h7))
  have e8 := e0.trans (Go.Am.bif_t h7)
  refine AW.seq (AW.r1 hC [4, 5] [16] ⟨[(4, .ref 16 1 0), (5, sB false)], [(16, .box 1 [sB false, sI 0])]⟩ ?_)
  exact AW.ret (AW.retE (β := Val × Bool) (fun v => [⟨(.named 0), v.1⟩, ⟨.bool, v.2⟩]) (fun v => []) (v := ((Val.mk false 0), false)) e8 (by kernel_rfl) rfl rfl)
 ·
  intro h9
  have h9q : ((validRow row) = true) ∧ ((iValidExpr (Xpr.mk (Xpr.Kind e) (Xpr.Col e) (Xpr.V e) (Xpr.Kids e)) ((List.length row : Nat) : Int)) = true) := (And.imp (fun h => (Go.Am.not_neg h)) (fun h => (Go.Am.not_neg h)) (Go.Am.or_neg h9))
  have e10 := e0.trans (Go.Am.bif_f h9)
  refine AW.kp [1, 2, 4] [8, 16] ⟨[(1, sD10 row), (2, .ref 8 1 0), (4, .ref 16 1 0)], [(8, .box 1 [sI (Xpr.Kind e), sI (Xpr.Col e), sB (Val.Null (Xpr.V e)), sI (Val.N (Xpr.V e)), sD11 (Xpr.Kids e)]), (16, .box 1 [sB false, sI 0])]⟩ ?_
  refine AW.skip (AW.seq (AW.r0 hC [4, 5] [16] ⟨[(4, .ref 16 1 0), (5, sB true)], [(16, .box 1 [sB (Val.Null (value (Xpr.mk (Xpr.Kind e) (Xpr.Col e) (Xpr.V e) (Xpr.Kids e)) row)), sI (Val.N (value (Xpr.mk (Xpr.Kind e) (Xpr.Col e) (Xpr.V e) (Xpr.Kids e)) row))])]⟩ [(VXr row (Xpr.mk (Xpr.Kind e) (Xpr.Col e) (Xpr.V e) (Xpr.Kids e)))] ?_ ?_))
  ·
   refine ⟨?_, trivial⟩
   ·
    rw [Xpr.eta]
    exact ⟨(validRow_iff.1 h9q.1).2, 8, (iValidExpr_iff.1 (Xpr.eta e ▸ h9q.2)).2⟩
  exact AW.ret (AW.retE (β := Val × Bool) (fun v => [⟨(.named 0), v.1⟩, ⟨.bool, v.2⟩]) (fun v => []) (v := ((value (Xpr.mk (Xpr.Kind e) (Xpr.Col e) (Xpr.V e) (Xpr.Kids e)) row), true)) e10 (by kernel_rfl) rfl rfl)

theorem EvalExpr_eq {e : Xpr} {row : List Val} (h : 1 ≤ ((row.length : Nat) : Int) ∧ ((row.length : Nat) : Int) ≤ 6) (hV : VRw row) (hE : VE ((row.length : Nat) : Int) 8 e) : EvalExpr e row = (value e row, true) := by
 unfold EvalExpr
 rw [Xpr.eta, validRow_iff.2 ⟨h, hV⟩, iValidExpr_iff.2 ⟨h, hE⟩]
 rfl

def isTrue (e : Xpr) (row : List Val) : Bool := (bif (bif ((EvalExpr (Xpr.mk (Xpr.Kind e) (Xpr.Col e) (Xpr.V e) (Xpr.Kids e)) row).2) then (!(Val.Null ((EvalExpr (Xpr.mk (Xpr.Kind e) (Xpr.Col e) (Xpr.V e) (Xpr.Kids e)) row).1))) else false) then ((Val.N ((EvalExpr (Xpr.mk (Xpr.Kind e) (Xpr.Col e) (Xpr.V e) (Xpr.Kids e)) row).1)) != 0) else false)

def isTrue_sp : FnSpec := mkSpec [.val (.named 1), .val (.slice (.named 0))] [.val .bool] (fun (e : Xpr) (row : List Val) => True) (fun (e : Xpr) (row : List Val) => [⟨.bool, (isTrue e row)⟩])

theorem isTrue_ok : FnOK Try.prog 13 isTrue_sp := by
 have hC : CtxOK Try.prog (mkCtx tyL [(37, EvalExpr_sp)]) := CtxOK.cons EvalExpr_ok (CtxOK.nil tyOK)
 refine FnOK.of_body Try.func13 (by kernel_rfl) rfl (C := (mkCtx tyL [(37, EvalExpr_sp)])) hC.ty (by kernel_rfl) ?_
 intro (e : Xpr) (row : List Val) hwf hpre E
 have hpre : True := hpre
 have hw_e : Wf ⟨(.named 1), (e : Xpr)⟩ := hwf _ (List.Mem.head _)
 obtain ⟨hr_e_Kind, hr_e_Col, hl_e_Kids⟩ := Xpr.wfl hw_e
 have hw_row : Wf ⟨(.slice (.named 0)), (row : List Val)⟩ := hwf _ (List.Mem.tail _ (List.Mem.head _))
 have hl_row : ((List.length row : Nat) : Int) ≤ 9223372036854775807 := hw_row.len
 have e0 : isTrue e row = isTrue e row := rfl
 refine AW.seq (AW.r1 hC [1, 2] [8] ⟨[(1, sD10 row), (2, .ref 8 1 0)], [(8, .box 1 [sI (Xpr.Kind e), sI (Xpr.Col e), sB (Val.Null (Xpr.V e)), sI (Val.N (Xpr.V e)), sD11 (Xpr.Kids e)])]⟩ ?_)
 refine AW.seq (AW.r0 hC [5, 6] [20] ⟨[(5, .ref 20 1 0), (6, sB ((EvalExpr (Xpr.mk (Xpr.Kind e) (Xpr.Col e) (Xpr.V e) (Xpr.Kids e)) row).2))], [(20, .box 1 [sB (Val.Null ((EvalExpr (Xpr.mk (Xpr.Kind e) (Xpr.Col e) (Xpr.V e) (Xpr.Kids e)) row).1)), sI (Val.N ((EvalExpr (Xpr.mk (Xpr.Kind e) (Xpr.Col e) (Xpr.V e) (Xpr.Kids e)) row).1))])]⟩ [(True)] ?_ ?_)
 ·
  refine ⟨?_, trivial⟩
  ·
   trivial
 refine AW.seq (AW.r0 hC [4] [] ⟨[(4, sB (bif (bif ((EvalExpr (Xpr.mk (Xpr.Kind e) (Xpr.Col e) (Xpr.V e) (Xpr.Kids e)) row).2) then (!(Val.Null ((EvalExpr (Xpr.mk (Xpr.Kind e) (Xpr.Col e) (Xpr.V e) (Xpr.Kids e)) row).1))) else false) then ((Val.N ((EvalExpr (Xpr.mk (Xpr.Kind e) (Xpr.Col e) (Xpr.V e) (Xpr.Kids e)) row).1)) != 0) else false))], []⟩ [((((EvalExpr (Xpr.mk (Xpr.Kind e) (Xpr.Col e) (Xpr.V e) (Xpr.Kids e)) row).2) = true) → ((((EvalExpr (Xpr.mk (Xpr.Kind e) (Xpr.Col e) (Xpr.V e) (Xpr.Kids e)) row).2) = true))), ((((EvalExpr (Xpr.mk (Xpr.Kind e) (Xpr.Col e) (Xpr.V e) (Xpr.Kids e)) row).2) = true) → ((((EvalExpr (Xpr.mk (Xpr.Kind e) (Xpr.Col e) (Xpr.V e) (Xpr.Kids e)) row).2) = true))), ((((EvalExpr (Xpr.mk (Xpr.Kind e) (Xpr.Col e) (Xpr.V e) (Xpr.Kids e)) row).2) = true) → ((((EvalExpr (Xpr.mk (Xpr.Kind e) (Xpr.Col e) (Xpr.V e) (Xpr.Kids e)) row).2) = true))), (((bif ((EvalExpr (Xpr.mk (Xpr.Kind e) (Xpr.Col e) (Xpr.V e) (Xpr.Kids e)) row).2) then (!(Val.Null ((EvalExpr (Xpr.mk (Xpr.Kind e) (Xpr.Col e) (Xpr.V e) (Xpr.Kids e)) row).1))) else false) = true) → (((bif ((EvalExpr (Xpr.mk (Xpr.Kind e) (Xpr.Col e) (Xpr.V e) (Xpr.Kids e)) row).2) then (!(Val.Null ((EvalExpr (Xpr.mk (Xpr.Kind e) (Xpr.Col e) (Xpr.V e) (Xpr.Kids e)) row).1))) else false) = true))), (((bif ((EvalExpr (Xpr.mk (Xpr.Kind e) (Xpr.Col e) (Xpr.V e) (Xpr.Kids e)) row).2) then (!(Val.Null ((EvalExpr (Xpr.mk (Xpr.Kind e) (Xpr.Col e) (Xpr.V e) (Xpr.Kids e)) row).1))) else false) = true) → (((bif ((EvalExpr (Xpr.mk (Xpr.Kind e) (Xpr.Col e) (Xpr.V e) (Xpr.Kids e)) row).2) then (!(Val.Null ((EvalExpr (Xpr.mk (Xpr.Kind e) (Xpr.Col e) (Xpr.V e) (Xpr.Kids e)) row).1))) else false) = true))), (((bif ((EvalExpr (Xpr.mk (Xpr.Kind e) (Xpr.Col e) (Xpr.V e) (Xpr.Kids e)) row).2) then (!(Val.Null ((EvalExpr (Xpr.mk (Xpr.Kind e) (Xpr.Col e) (Xpr.V e) (Xpr.Kids e)) row).1))) else false) = true) → (((bif ((EvalExpr (Xpr.mk (Xpr.Kind e) (Xpr.Col e) (Xpr.V e) (Xpr.Kids e)) row).2) then (!(Val.Null ((EvalExpr (Xpr.mk (Xpr.Kind e) (Xpr.Col e) (Xpr.V e) (Xpr.Kids e)) row).1))) else false) = true)))] ?_ ?_)
 ·
  refine ⟨?_, ?_, ?_, ?_, ?_, ?_, trivial⟩
  ·
   intro g1
   have g1p0 : ((EvalExpr (Xpr.mk (Xpr.Kind e) (Xpr.Col e) (Xpr.V e) (Xpr.Kids e)) row).2) = true := g1
   assumption
  ·
   intro g2
   have g2p0 : ((EvalExpr (Xpr.mk (Xpr.Kind e) (Xpr.Col e) (Xpr.V e) (Xpr.Kids e)) row).2) = true := g2
   assumption
  ·
   intro g3
   have g3p0 : ((EvalExpr (Xpr.mk (Xpr.Kind e) (Xpr.Col e) (Xpr.V e) (Xpr.Kids e)) row).2) = true := g3
   assumption
  ·
   intro g4
   have g4p0 : (((EvalExpr (Xpr.mk (Xpr.Kind e) (Xpr.Col e) (Xpr.V e) (Xpr.Kids e)) row).2) = true) ∧ ((Val.Null ((EvalExpr (Xpr.mk (Xpr.Kind e) (Xpr.Col e) (Xpr.V e) (Xpr.Kids e)) row).1)) = false) := (And.imp (fun h => h) (fun h => (Go.Am.not_pos h)) (Go.Am.and_pos g4))
   assumption
  ·
   intro g5
   have g5p0 : (((EvalExpr (Xpr.mk (Xpr.Kind e) (Xpr.Col e) (Xpr.V e) (Xpr.Kids e)) row).2) = true) ∧ ((Val.Null ((EvalExpr (Xpr.mk (Xpr.Kind e) (Xpr.Col e) (Xpr.V e) (Xpr.Kids e)) row).1)) = false) := (And.imp (fun h => h) (fun h => (Go.Am.not_pos h)) (Go.Am.and_pos g5))
   assumption
  ·
   intro g6
   have g6p0 : (((EvalExpr (Xpr.mk (Xpr.Kind e) (Xpr.Col e) (Xpr.V e) (Xpr.Kids e)) row).2) = true) ∧ ((Val.Null ((EvalExpr (Xpr.mk (Xpr.Kind e) (Xpr.Col e) (Xpr.V e) (Xpr.Kids e)) row).1)) = false) := (And.imp (fun h => h) (fun h => (Go.Am.not_pos h)) (Go.Am.and_pos g6))
   assumption
 exact AW.ret (AW.rB (bif (bif ((EvalExpr (Xpr.mk (Xpr.Kind e) (Xpr.Col e) (Xpr.V e) (Xpr.Kids e)) row).2) then (!(Val.Null ((EvalExpr (Xpr.mk (Xpr.Kind e) (Xpr.Col e) (Xpr.V e) (Xpr.Kids e)) row).1))) else false) then ((Val.N ((EvalExpr (Xpr.mk (Xpr.Kind e) (Xpr.Col e) (Xpr.V e) (Xpr.Kids e)) row).1)) != 0) else false) e0)

end
end Go.Proofs.Ytbgbekpbbcahpaa
