/-
  A part of the proof of this claim (Ap4): what functions of the program compute, and plain facts of that. No conditions.
-/
import Derived.Test.YtodcdgolcbdkgaaAp3
set_option linter.all false
namespace Go.Proofs.Ytodcdgolcbdkgaa
open Go Go.Am
open Go.Am.AW (seq r1U ret kpU cdE r0U r1 rI block rS r0 kp)
noncomputable section

def inumber (n : Int) : Val := (Val.mk false n)

def inumber_sp : FnSpec := mkSpec [.val (.int .i64)] [.val (.named 0)] (fun (n : Int) => True) (fun (n : Int) => [⟨(.named 0), (inumber n)⟩])

theorem inumber_ok : FnOK Try.prog 169 inumber_sp := by
 have hC : CtxOK Try.prog (mkCtx tyL []) := CtxOK.nil tyOK; refine FnOK.of_body Try.func169 (by kernel_rfl) rfl (C := (mkCtx tyL [])) hC.ty (by kernel_rfl) ?_; intro (n : Int) hwf hpre E; have e0 : inumber n = inumber n := rfl; refine seq (r1U hC [0, 2] [8] [(2, .ref 8 1 0)] [(8, .box 1 [sB false, sI 0])] ?_); refine seq (r1U hC [2] [8] [] [(8, .box 1 [sB false, sI n])] ?_); exact ret (rS (.named 0) e0)

def inull : Val := (Val.mk true 0)

def inull_sp : FnSpec := mkSpec [] [.val (.named 0)] (True) ([⟨(.named 0), inull⟩])

theorem inull_ok : FnOK Try.prog 162 inull_sp := by
 have hC : CtxOK Try.prog (mkCtx tyL []) := CtxOK.nil tyOK; refine FnOK.of_body Try.func162 (by kernel_rfl) rfl (C := (mkCtx tyL [])) hC.ty (by kernel_rfl) ?_; intro  hwf hpre E; have e0 : inull = inull := rfl; refine seq (r1 hC [0] [0] ⟨[(0, .ref 0 1 0)], [(0, .box 1 [sB false, sI 0])]⟩ ?_); refine seq (r1U hC [0] [0] [] [(0, .box 1 [sB true, sI 0])] ?_); exact ret (rS (.named 0) e0)

def numberOrNull (n : Int) : Val := (bif (valValid (inumber n)) then (inumber n) else inull)

def numberOrNull_sp : FnSpec := mkSpec [.val (.int .i64)] [.val (.named 0)] (fun (n : Int) => True) (fun (n : Int) => [⟨(.named 0), (numberOrNull n)⟩])

theorem numberOrNull_ok : FnOK Try.prog 170 numberOrNull_sp := by
 have hC : CtxOK Try.prog (mkCtx tyL [(158, valValid_sp), (162, inull_sp), (169, inumber_sp)]) := CtxOK.cons valValid_ok (CtxOK.cons inull_ok (CtxOK.cons inumber_ok (CtxOK.nil tyOK))); refine FnOK.of_body Try.func170 (by kernel_rfl) rfl (C := (mkCtx tyL [(158, valValid_sp), (162, inull_sp), (169, inumber_sp)])) hC.ty (by kernel_rfl) ?_; intro (n : Int) hwf hpre E; have e0 : numberOrNull n = numberOrNull n := rfl; refine seq (r1U hC [0, 2] [8] [(2, .ref 8 1 0)] [(8, .box 1 [sB false, sI 0])] ?_); refine seq (seq (r0U hC [2, 3] [8, 12] [(3, .ref 12 1 0)] [(12, .box 1 [sB (Val.Null (inumber n)), sI (Val.N (inumber n))])] [(True)] ?_ ?_))
 ·
  exact ⟨trivial, trivial⟩
 refine seq (r0U hC [2, 3, 7] [8, 12] [(7, sB (valValid (inumber n)))] [] [(True)] ?_ ?_)
 ·
  exact ⟨trivial, trivial⟩
 refine cdE e0 ?_ ?_
 · intro h1q e2; refine seq (r1U hC [2] [8] [] [(8, .box 1 [sB (Val.Null (inumber n)), sI (Val.N (inumber n))])] ?_); exact ret (rS (.named 0) e2)
 ·
  intro h3q e4; refine kpU [2] [8] [] [] ?_; refine AW.skip (seq (r0U hC [2] [8] [] [(8, .box 1 [sB (Val.Null inull), sI (Val.N inull)])] [(True)] ?_ ?_))
  ·
   exact ⟨trivial, trivial⟩
  exact ret (rS (.named 0) e4)

def flag (holds : Bool) : Val := (bif holds then (inumber 1) else (inumber 0))

def flag_sp : FnSpec := mkSpec [.val .bool] [.val (.named 0)] (fun (holds : Bool) => True) (fun (holds : Bool) => [⟨(.named 0), (flag holds)⟩])

theorem flag_ok : FnOK Try.prog 160 flag_sp := by
 have hC : CtxOK Try.prog (mkCtx tyL [(169, inumber_sp)]) := CtxOK.cons inumber_ok (CtxOK.nil tyOK); refine FnOK.of_body Try.func160 (by kernel_rfl) rfl (C := (mkCtx tyL [(169, inumber_sp)])) hC.ty (by kernel_rfl) ?_; intro (holds : Bool) hwf hpre E; have e0 : flag holds = flag holds := rfl; refine seq (r1U hC [0, 2] [8] [(2, .ref 8 1 0)] [(8, .box 1 [sB false, sI 0])] ?_); refine seq (seq (r1U hC [2, 3] [8] [(3, sB holds)] [] ?_)); refine cdE e0 ?_ ?_
 ·
  intro h1q e2; refine seq (r0U hC [2] [8] [] [(8, .box 1 [sB (Val.Null (inumber 1)), sI (Val.N (inumber 1))])] [(True)] ?_ ?_)
  ·
   exact ⟨trivial, trivial⟩
  exact ret (rS (.named 0) e2)
 ·
  intro h3q e4; refine kpU [2] [8] [] [] ?_; refine AW.skip (seq (r0U hC [2] [8] [] [(8, .box 1 [sB (Val.Null (inumber 0)), sI (Val.N (inumber 0))])] [(True)] ?_ ?_))
  ·
   exact ⟨trivial, trivial⟩
  exact ret (rS (.named 0) e4)

def truthOf (v : Val) : Int := (bif (Val.Null v) then 1 else (bif ((Val.N v) == 0) then 0 else 2))

def truthOf_sp : FnSpec := mkSpec [.val (.named 0)] [.val (.int .i64)] (fun (v : Val) => True) (fun (v : Val) => [⟨(.int .i64), (truthOf v)⟩])

theorem truthOf_ok : FnOK Try.prog 135 truthOf_sp := by
 have hC : CtxOK Try.prog (mkCtx tyL []) := CtxOK.nil tyOK; refine FnOK.of_body Try.func135 (by kernel_rfl) rfl (C := (mkCtx tyL [])) hC.ty (by kernel_rfl) ?_; intro (v : Val) hwf hpre E; have hw_v : Wf ⟨(.named 0), (v : Val)⟩ := hwf _ (List.Mem.head _); have hr_v_N := Val.wfl hw_v; have e0 : truthOf v = truthOf v := rfl; refine seq (r1 hC [1] [4] ⟨[(1, .ref 4 1 0)], [(4, .box 1 [sB (Val.Null v), sI (Val.N v)])]⟩ ?_); refine seq (block (seq (r1U hC [1, 3] [4] [(3, sB (Val.Null v))] [] ?_))); refine cdE e0 ?_ ?_
 · intro h1q e2; refine seq (r1 hC [2] [] ⟨[(2, sI 1)], []⟩ ?_); exact ret (rI 1 e2)
 ·
  intro h3q e4; refine seq (r1 hC [6] [] ⟨[(6, sB ((Val.N v) == 0))], []⟩ ?_); refine cdE e4 ?_ ?_
  · intro h5q e6; refine seq (r1 hC [2] [] ⟨[(2, sI 0)], []⟩ ?_); exact ret (rI 0 e6)
  · intro h7q e8; refine kp [] [] ⟨[], []⟩ ?_; refine AW.skip (seq (r1 hC [2] [] ⟨[(2, sI 2)], []⟩ ?_)); exact ret (rI 2 e8)

def truthValue (t : Int) : Val := (bif (t == 1) then inull else (flag (t == 2)))

def truthValue_sp : FnSpec := mkSpec [.val (.int .i64)] [.val (.named 0)] (fun (t : Int) => True) (fun (t : Int) => [⟨(.named 0), (truthValue t)⟩])

theorem truthValue_ok : FnOK Try.prog 136 truthValue_sp := by
 have hC : CtxOK Try.prog (mkCtx tyL [(160, flag_sp), (162, inull_sp)]) := CtxOK.cons flag_ok (CtxOK.cons inull_ok (CtxOK.nil tyOK)); refine FnOK.of_body Try.func136 (by kernel_rfl) rfl (C := (mkCtx tyL [(160, flag_sp), (162, inull_sp)])) hC.ty (by kernel_rfl) ?_; intro (t : Int) hwf hpre E; have e0 : truthValue t = truthValue t := rfl; refine seq (r1U hC [0, 2] [8] [(2, .ref 8 1 0)] [(8, .box 1 [sB false, sI 0])] ?_); refine seq (seq (r1U hC [0, 2, 4] [8] [(4, sB (t == 1))] [] ?_)); refine cdE e0 ?_ ?_
 ·
  intro h1q e2; refine seq (r0U hC [2] [8] [] [(8, .box 1 [sB (Val.Null inull), sI (Val.N inull)])] [(True)] ?_ ?_)
  ·
   exact ⟨trivial, trivial⟩
  exact ret (rS (.named 0) e2)
 ·
  intro h3q e4; refine kpU [0, 2] [8] [] [] ?_; refine AW.skip (seq (r0U hC [2] [8] [] [(8, .box 1 [sB (Val.Null (flag (t == 2))), sI (Val.N (flag (t == 2)))])] [(True)] ?_ ?_))
  ·
   exact ⟨trivial, trivial⟩
  exact ret (rS (.named 0) e4)

def istateOf (v : Val) : Int := (bif (Val.Null v) then 4 else (bif ((Val.N v) == 0) then 1 else 2))

def istateOf_sp : FnSpec := mkSpec [.val (.named 0)] [.val (.int .i64)] (fun (v : Val) => True) (fun (v : Val) => [⟨(.int .i64), (istateOf v)⟩])

theorem istateOf_ok : FnOK Try.prog 139 istateOf_sp := by
 have hC : CtxOK Try.prog (mkCtx tyL []) := CtxOK.nil tyOK; refine FnOK.of_body Try.func139 (by kernel_rfl) rfl (C := (mkCtx tyL [])) hC.ty (by kernel_rfl) ?_; intro (v : Val) hwf hpre E; have hw_v : Wf ⟨(.named 0), (v : Val)⟩ := hwf _ (List.Mem.head _); have hr_v_N := Val.wfl hw_v; have e0 : istateOf v = istateOf v := rfl; refine seq (r1 hC [1] [4] ⟨[(1, .ref 4 1 0)], [(4, .box 1 [sB (Val.Null v), sI (Val.N v)])]⟩ ?_); refine seq (block (seq (r1U hC [1, 3] [4] [(3, sB (Val.Null v))] [] ?_))); refine cdE e0 ?_ ?_
 · intro h1q e2; refine seq (r1 hC [2] [] ⟨[(2, sI 4)], []⟩ ?_); exact ret (rI 4 e2)
 ·
  intro h3q e4; refine seq (r1 hC [6] [] ⟨[(6, sB ((Val.N v) == 0))], []⟩ ?_); refine cdE e4 ?_ ?_
  · intro h5q e6; refine seq (r1 hC [2] [] ⟨[(2, sI 1)], []⟩ ?_); exact ret (rI 1 e6)
  · intro h7q e8; refine kp [] [] ⟨[], []⟩ ?_; refine AW.skip (seq (r1 hC [2] [] ⟨[(2, sI 2)], []⟩ ?_)); exact ret (rI 2 e8)

def stateOf (v : Val) : Int := (bif (Val.Null v) then 4 else (bif ((Val.N v) == 0) then 1 else 2))

def stateOf_sp : FnSpec := mkSpec [.val (.named 0)] [.val (.int .i64)] (fun (v : Val) => True) (fun (v : Val) => [⟨(.int .i64), (stateOf v)⟩])

theorem stateOf_ok : FnOK Try.prog 137 stateOf_sp := by
 have hC : CtxOK Try.prog (mkCtx tyL []) := CtxOK.nil tyOK; refine FnOK.of_body Try.func137 (by kernel_rfl) rfl (C := (mkCtx tyL [])) hC.ty (by kernel_rfl) ?_; intro (v : Val) hwf hpre E; have hw_v : Wf ⟨(.named 0), (v : Val)⟩ := hwf _ (List.Mem.head _); have hr_v_N := Val.wfl hw_v; have e0 : stateOf v = stateOf v := rfl; refine seq (r1 hC [1] [4] ⟨[(1, .ref 4 1 0)], [(4, .box 1 [sB (Val.Null v), sI (Val.N v)])]⟩ ?_); refine seq (block (seq (r1U hC [1, 3] [4] [(3, sB (Val.Null v))] [] ?_))); refine cdE e0 ?_ ?_
 · intro h1q e2; refine seq (r1 hC [2] [] ⟨[(2, sI 4)], []⟩ ?_); exact ret (rI 4 e2)
 ·
  intro h3q e4; refine seq (r1 hC [6] [] ⟨[(6, sB ((Val.N v) == 0))], []⟩ ?_); refine cdE e4 ?_ ?_
  · intro h5q e6; refine seq (r1 hC [2] [] ⟨[(2, sI 1)], []⟩ ?_); exact ret (rI 1 e6)
  · intro h7q e8; refine kp [] [] ⟨[], []⟩ ?_; refine AW.skip (seq (r1 hC [2] [] ⟨[(2, sI 2)], []⟩ ?_)); exact ret (rI 2 e8)

def truth (v : Val) : Int := (bif (Val.Null v) then 2 else (bif ((Val.N v) == 0) then 0 else 1))

def truth_sp : FnSpec := mkSpec [.val (.named 0)] [.val (.int .i64)] (fun (v : Val) => True) (fun (v : Val) => [⟨(.int .i64), (truth v)⟩])

theorem truth_ok : FnOK Try.prog 149 truth_sp := by
 have hC : CtxOK Try.prog (mkCtx tyL []) := CtxOK.nil tyOK; refine FnOK.of_body Try.func149 (by kernel_rfl) rfl (C := (mkCtx tyL [])) hC.ty (by kernel_rfl) ?_; intro (v : Val) hwf hpre E; have hw_v : Wf ⟨(.named 0), (v : Val)⟩ := hwf _ (List.Mem.head _); have hr_v_N := Val.wfl hw_v; have e0 : truth v = truth v := rfl; refine seq (r1 hC [1] [4] ⟨[(1, .ref 4 1 0)], [(4, .box 1 [sB (Val.Null v), sI (Val.N v)])]⟩ ?_); refine seq (block (seq (r1U hC [1, 3] [4] [(3, sB (Val.Null v))] [] ?_))); refine cdE e0 ?_ ?_
 · intro h1q e2; refine seq (r1 hC [2] [] ⟨[(2, sI 2)], []⟩ ?_); exact ret (rI 2 e2)
 ·
  intro h3q e4; refine seq (r1 hC [6] [] ⟨[(6, sB ((Val.N v) == 0))], []⟩ ?_); refine cdE e4 ?_ ?_
  · intro h5q e6; refine seq (r1 hC [2] [] ⟨[(2, sI 0)], []⟩ ?_); exact ret (rI 0 e6)
  · intro h7q e8; refine kp [] [] ⟨[], []⟩ ?_; refine AW.skip (seq (r1 hC [2] [] ⟨[(2, sI 1)], []⟩ ?_)); exact ret (rI 1 e8)

def ofTruth (n : Int) : Val := (bif (n == 2) then (Val.mk true 0) else (Val.mk false n))

def ofTruth_sp : FnSpec := mkSpec [.val (.int .i64)] [.val (.named 0)] (fun (n : Int) => True) (fun (n : Int) => [⟨(.named 0), (ofTruth n)⟩])

theorem ofTruth_ok : FnOK Try.prog 154 ofTruth_sp := by
 have hC : CtxOK Try.prog (mkCtx tyL []) := CtxOK.nil tyOK; refine FnOK.of_body Try.func154 (by kernel_rfl) rfl (C := (mkCtx tyL [])) hC.ty (by kernel_rfl) ?_; intro (n : Int) hwf hpre E; have e0 : ofTruth n = ofTruth n := rfl; refine seq (r1U hC [0, 2] [8] [(2, .ref 8 1 0)] [(8, .box 1 [sB false, sI 0])] ?_); refine seq (seq (r1U hC [0, 2, 4] [8] [(4, sB (n == 2))] [] ?_)); refine cdE e0 ?_ ?_
 · intro h1q e2; refine seq (r1U hC [2] [8] [] [(8, .box 1 [sB true, sI 0])] ?_); exact ret (rS (.named 0) e2)
 · intro h3q e4; refine kpU [0, 2] [8] [] [] ?_; refine AW.skip (seq (r1U hC [2] [8] [] [(8, .box 1 [sB false, sI n])] ?_)); exact ret (rS (.named 0) e4)

def andTruth (a : Int) (b : Int) : Int := (bif (bif (a == 0) then true else (b == 0)) then 0 else (bif (bif (a == 1) then (b == 1) else false) then 1 else 2))

def andTruth_sp : FnSpec := mkSpec [.val (.int .i64), .val (.int .i64)] [.val (.int .i64)] (fun (a : Int) (b : Int) => True) (fun (a : Int) (b : Int) => [⟨(.int .i64), (andTruth a b)⟩])

theorem andTruth_ok : FnOK Try.prog 167 andTruth_sp := by
 have hC : CtxOK Try.prog (mkCtx tyL []) := CtxOK.nil tyOK; refine FnOK.of_body Try.func167 (by kernel_rfl) rfl (C := (mkCtx tyL [])) hC.ty (by kernel_rfl) ?_; intro (a : Int) (b : Int) hwf hpre E; have e0 : andTruth a b = andTruth a b := rfl; refine seq (r1U hC [0, 1] [] [] [] ?_); refine seq (block (seq (r0U hC [0, 1, 5] [] [(5, sB (bif (a == 0) then true else (b == 0)))] [] [(((a == 0) = false) → (((a == 0) = false))), (((a == 0) = false) → (((a == 0) = false)))] ?_ ?_)))
 ·
  exact ⟨(by intro g1; assumption), (by intro g2; assumption), trivial⟩
 refine cdE e0 ?_ ?_
 · intro h3q e4; refine seq (r1 hC [4] [] ⟨[(4, sI 0)], []⟩ ?_); exact ret (rI 0 e4)
 ·
  intro h5q e6; refine seq (r0 hC [12] [] ⟨[(12, sB (bif (a == 1) then (b == 1) else false))], []⟩ [(((a == 1) = true) → (((a == 1) = true))), (((a == 1) = true) → (((a == 1) = true)))] ?_ ?_)
  ·
   exact ⟨(by intro g7; assumption), (by intro g8; assumption), trivial⟩
  refine cdE e6 ?_ ?_
  · intro h9q e10; refine seq (r1 hC [4] [] ⟨[(4, sI 1)], []⟩ ?_); exact ret (rI 1 e10)
  · intro h11q e12; refine kp [] [] ⟨[], []⟩ ?_; refine AW.skip (seq (r1 hC [4] [] ⟨[(4, sI 2)], []⟩ ?_)); exact ret (rI 2 e12)

def notTruth (a : Int) : Int := (bif (a == 2) then 2 else (1 - a))

def notTruth_sp : FnSpec := mkSpec [.val (.int .i64)] [.val (.int .i64)] (fun (a : Int) => 0 ≤ a ∧ a ≤ 2) (fun (a : Int) => [⟨(.int .i64), (notTruth a)⟩])

theorem notTruth_ok : FnOK Try.prog 155 notTruth_sp := by
 have hC : CtxOK Try.prog (mkCtx tyL []) := CtxOK.nil tyOK; refine FnOK.of_body Try.func155 (by kernel_rfl) rfl (C := (mkCtx tyL [])) hC.ty (by kernel_rfl) ?_; intro (a : Int) hwf hpre E; have hpre : 0 ≤ a ∧ a ≤ 2 := hpre; have e0 : notTruth a = notTruth a := rfl; refine seq (r1U hC [0] [] [] [] ?_); refine seq (seq (r1U hC [0, 4] [] [(4, sB (a == 2))] [] ?_)); refine cdE e0 ?_ ?_
 · intro h1q e2; refine seq (r1 hC [2] [] ⟨[(2, sI 2)], []⟩ ?_); exact ret (rI 2 e2)
 ·
  intro h3q e4; refine kpU [0] [] [] [] ?_; refine AW.skip (seq (r0 hC [2] [] ⟨[(2, sI (1 - a))], []⟩ [R64 (1 - a)] ?_ ?_))
  ·
   exact ⟨R64.of (by omega), trivial⟩
  exact ret (rI _ e4)

def toInt (b : Bool) : Int := (bif b then 1 else 0)

def toInt_sp : FnSpec := mkSpec [.val .bool] [.val (.int .i64)] (fun (b : Bool) => True) (fun (b : Bool) => [⟨(.int .i64), (toInt b)⟩])

theorem toInt_ok : FnOK Try.prog 148 toInt_sp := by
 have hC : CtxOK Try.prog (mkCtx tyL []) := CtxOK.nil tyOK; refine FnOK.of_body Try.func148 (by kernel_rfl) rfl (C := (mkCtx tyL [])) hC.ty (by kernel_rfl) ?_; intro (b : Bool) hwf hpre E; have e0 : toInt b = toInt b := rfl; refine seq (r1U hC [0] [] [] [] ?_); refine seq (seq (r1 hC [3] [] ⟨[(3, sB b)], []⟩ ?_)); refine cdE e0 ?_ ?_
 · intro h1q e2; refine seq (r1 hC [2] [] ⟨[(2, sI 1)], []⟩ ?_); exact ret (rI 1 e2)
 · intro h3q e4; refine kp [] [] ⟨[], []⟩ ?_; refine AW.skip (seq (r1 hC [2] [] ⟨[(2, sI 0)], []⟩ ?_)); exact ret (rI 0 e4)

def number (n : Int) : Val := (bif (!(inRange n (-9999) 9999)) then (Val.mk true 0) else (Val.mk false n))

def number_sp : FnSpec := mkSpec [.val (.int .i64)] [.val (.named 0)] (fun (n : Int) => True) (fun (n : Int) => [⟨(.named 0), (number n)⟩])

theorem number_ok : FnOK Try.prog 168 number_sp := by
 have hC : CtxOK Try.prog (mkCtx tyL [(88, inRange_sp)]) := CtxOK.cons inRange_ok (CtxOK.nil tyOK); refine FnOK.of_body Try.func168 (by kernel_rfl) rfl (C := (mkCtx tyL [(88, inRange_sp)])) hC.ty (by kernel_rfl) ?_; intro (n : Int) hwf hpre E; have e0 : number n = number n := rfl; refine seq (r1U hC [0, 2] [8] [(2, .ref 8 1 0)] [(8, .box 1 [sB false, sI 0])] ?_); refine seq (seq (r0U hC [0, 2, 5] [8] [(5, sB (!(inRange n (-9999) 9999)))] [] [(True)] ?_ ?_))
 ·
  exact ⟨trivial, trivial⟩
 refine cdE e0 ?_ ?_
 · intro h1q e2; refine seq (r1U hC [2] [8] [] [(8, .box 1 [sB true, sI 0])] ?_); exact ret (rS (.named 0) e2)
 · intro h3q e4; refine kpU [0, 2] [8] [] [] ?_; refine AW.skip (seq (r1U hC [2] [8] [] [(8, .box 1 [sB false, sI n])] ?_)); exact ret (rS (.named 0) e4)

def valueOf (state : Int) : Val := (bif (state == 4) then (Val.mk true 0) else (bif (state == 2) then (Val.mk false 1) else (Val.mk false 0)))

def valueOf_sp : FnSpec := mkSpec [.val (.int .i64)] [.val (.named 0)] (fun (state : Int) => True) (fun (state : Int) => [⟨(.named 0), (valueOf state)⟩])

theorem valueOf_ok : FnOK Try.prog 163 valueOf_sp := by
 have hC : CtxOK Try.prog (mkCtx tyL []) := CtxOK.nil tyOK; refine FnOK.of_body Try.func163 (by kernel_rfl) rfl (C := (mkCtx tyL [])) hC.ty (by kernel_rfl) ?_; intro (state : Int) hwf hpre E; have e0 : valueOf state = valueOf state := rfl; refine seq (r1U hC [0, 2] [8] [(2, .ref 8 1 0)] [(8, .box 1 [sB false, sI 0])] ?_); refine seq (seq (r1U hC [2, 3] [8] [(3, sI state)] [] ?_)); refine block (seq (r1U hC [2, 3, 4] [8] [(4, sB (state == 4))] [] ?_)); refine cdE e0 ?_ ?_
 · intro h1q e2; refine seq (r1U hC [2] [8] [] [(8, .box 1 [sB true, sI 0])] ?_); exact ret (rS (.named 0) e2)
 ·
  intro h3q e4; refine seq (r1U hC [2, 7] [8] [(7, sB (state == 2))] [] ?_); refine cdE e4 ?_ ?_
  · intro h5q e6; refine seq (r1U hC [2] [8] [] [(8, .box 1 [sB false, sI 1])] ?_); exact ret (rS (.named 0) e6)
  · intro h7q e8; refine kpU [2] [8] [] [] ?_; refine AW.skip (seq (r1U hC [2] [8] [] [] ?_)); exact ret (rS (.named 0) e8)

theorem truth_b (v : Val) : 0 ≤ truth v ∧ truth v ≤ 2 := by
 unfold truth
 cases v.Null with
 | true => simp only [cond_true]; omega
 | false =>
  rw [cond_false]; cases (v.N == 0) <;> simp only [cond_true, cond_false] <;> omega

theorem andTruth_b (a b : Int) : 0 ≤ andTruth a b ∧ andTruth a b ≤ 2 := by
 unfold andTruth; cases (bif (a == 0) then true else (b == 0)) <;> cases (bif (a == 1) then (b == 1) else false) <;> simp

end
end Go.Proofs.Ytodcdgolcbdkgaa


namespace Go.Proofs.Ytodcdgolcbdkgaa
open Go Go.Am
open Go.Am.AW (seq r1U ret kpU cdE r0U r1 meet block rS bk exit lpB r0 kp d0U)
open List (length getD)
noncomputable section

theorem mul_b {a b : Int} (h1 : -9999 ≤ a ∧ a ≤ 9999) (h2 : -9999 ≤ b ∧ b ≤ 9999) : -99980001 ≤ a * b ∧ a * b ≤ 99980001 := by
 have e : (a * b).natAbs = a.natAbs * b.natAbs := Int.natAbs_mul a b; have : a.natAbs * b.natAbs ≤ 9999 * 9999 := Nat.mul_le_mul (by omega) (by omega); omega

def combined (kind : Int) (a : Val) (b : Val) : Val := (bif (kind == 8) then (truthValue (if (truthOf b) < (truthOf a) then (truthOf b) else (truthOf a))) else (bif (kind == 9) then (truthValue (if (truthOf b) > (truthOf a) then (truthOf b) else (truthOf a))) else (bif (bif (Val.Null a) then true else (Val.Null b)) then inull else (bif (kind == 3) then (numberOrNull ((Val.N a) + (Val.N b))) else (bif (kind == 4) then (numberOrNull ((Val.N a) - (Val.N b))) else (bif (kind == 5) then (numberOrNull ((Val.N a) * (Val.N b))) else (bif (kind == 6) then (flag ((Val.N a) == (Val.N b))) else (flag (decide ((Val.N a) < (Val.N b)))))))))))

def combined_sp : FnSpec := mkSpec [.val (.int .i64), .val (.named 0), .val (.named 0)] [.val (.named 0)] (fun (kind : Int) (a : Val) (b : Val) => ((-9999 ≤ Val.N a ∧ Val.N a ≤ 9999) ∧ (-9999 ≤ Val.N b ∧ Val.N b ≤ 9999))) (fun (kind : Int) (a : Val) (b : Val) => [⟨(.named 0), (combined kind a b)⟩])

theorem combined_ok : FnOK Try.prog 161 combined_sp := by
 have hC : CtxOK Try.prog (mkCtx tyL [(135, truthOf_sp), (136, truthValue_sp), (160, flag_sp), (162, inull_sp), (170, numberOrNull_sp)]) := CtxOK.cons truthOf_ok (CtxOK.cons truthValue_ok (CtxOK.cons flag_ok (CtxOK.cons inull_ok (CtxOK.cons numberOrNull_ok (CtxOK.nil tyOK))))); have hM : Try.prog.follows .mixedOrders = true := Try.checked.mixed; refine FnOK.of_body Try.func161 (by kernel_rfl) rfl (C := (mkCtx tyL [(135, truthOf_sp), (136, truthValue_sp), (160, flag_sp), (162, inull_sp), (170, numberOrNull_sp)])) hC.ty (by kernel_rfl) ?_; intro (kind : Int) (a : Val) (b : Val) hwf hpre E; have hpre : ((-9999 ≤ Val.N a ∧ Val.N a ≤ 9999) ∧ (-9999 ≤ Val.N b ∧ Val.N b ≤ 9999)) := hpre; have hw_kind : Wf ⟨(.int .i64), (kind : Int)⟩ := hwf _ (List.Mem.head _); have hr_kind : -9223372036854775808 ≤ kind ∧ kind ≤ 9223372036854775807 := hw_kind.int_inv; have hw_a : Wf ⟨(.named 0), (a : Val)⟩ := hwf _ (List.Mem.tail _ (List.Mem.head _)); have hr_a_N := Val.wfl hw_a; have hw_b : Wf ⟨(.named 0), (b : Val)⟩ := hwf _ (List.Mem.tail _ (List.Mem.tail _ (List.Mem.head _))); have hr_b_N := Val.wfl hw_b; have e0 : combined kind a b = combined kind a b := rfl; refine seq (r1U hC [0, 4, 5, 6] [16, 20, 24] [(4, .ref 16 1 0), (5, .ref 20 1 0), (6, .ref 24 1 0)] [(16, .box 1 [sB (Val.Null a), sI (Val.N a)]), (20, .box 1 [sB (Val.Null b), sI (Val.N b)]), (24, .box 1 [sB false, sI 0])] ?_); refine seq (block (seq (r1U hC [0, 4, 5, 6, 7] [16, 20, 24] [(7, sB (kind == 8))] [] ?_))); refine cdE e0 ?_ ?_
 ·
  intro h1q e2; refine seq (d0U hC hM [6] [24] [] [(24, .box 1 [sB (Val.Null (truthValue (if (truthOf b) < (truthOf a) then (truthOf b) else (truthOf a)))), sI (Val.N (truthValue (if (truthOf b) < (truthOf a) then (truthOf b) else (truthOf a))))])] [(True), (True), (True)] ?_ ?_)
  ·
   exact ⟨trivial, trivial, trivial, trivial⟩
  exact ret (rS (.named 0) e2)
 ·
  intro h3q e4; refine seq (r1U hC [0, 4, 5, 6, 16] [16, 20, 24] [(16, sB (kind == 9))] [] ?_); refine cdE e4 ?_ ?_
  ·
   intro h5q e6; refine seq (d0U hC hM [6] [24] [] [(24, .box 1 [sB (Val.Null (truthValue (if (truthOf b) > (truthOf a) then (truthOf b) else (truthOf a)))), sI (Val.N (truthValue (if (truthOf b) > (truthOf a) then (truthOf b) else (truthOf a))))])] [(True), (True), (True)] ?_ ?_)
   ·
    exact ⟨trivial, trivial, trivial, trivial⟩
   exact ret (rS (.named 0) e6)
  ·
   intro h7q e8; refine seq (r0U hC [0, 4, 5, 6, 25] [16, 20, 24] [(25, sB (bif (Val.Null a) then true else (Val.Null b)))] [] [(((Val.Null a) = false) → (((Val.Null a) = false))), (((Val.Null a) = false) → (((Val.Null a) = false)))] ?_ ?_)
   ·
    exact ⟨(by intro g9; assumption), (by intro g10; assumption), trivial⟩
   refine cdE e8 ?_ ?_
   ·
    intro h11q e12; refine seq (r0U hC [6] [24] [] [(24, .box 1 [sB (Val.Null inull), sI (Val.N inull)])] [(True)] ?_ ?_)
    ·
     exact ⟨trivial, trivial⟩
    exact ret (rS (.named 0) e12)
   ·
    intro h13q e14; refine kpU [0, 4, 5, 6] [16, 20, 24] [] [] ?_; refine AW.skip (seq (seq (r1U hC [4, 5, 6, 33] [16, 20, 24] [(33, sI kind)] [] ?_))); refine block (seq (r1U hC [4, 5, 6, 33, 34] [16, 20, 24] [(34, sB (kind == 3))] [] ?_)); refine cdE e14 ?_ ?_
    ·
     intro h15q e16; refine seq (r0U hC [6] [24] [] [(24, .box 1 [sB (Val.Null (numberOrNull ((Val.N a) + (Val.N b)))), sI (Val.N (numberOrNull ((Val.N a) + (Val.N b))))])] [R64 ((Val.N a) + (Val.N b)), (True)] ?_ ?_)
     ·
      exact ⟨R64.of (by omega), trivial, trivial⟩
     exact ret (rS (.named 0) e16)
    ·
     intro h17q e18; refine seq (r1U hC [4, 5, 6, 33, 42] [16, 20, 24] [(42, sB (kind == 4))] [] ?_); refine cdE e18 ?_ ?_
     ·
      intro h19q e20; refine seq (r0U hC [6] [24] [] [(24, .box 1 [sB (Val.Null (numberOrNull ((Val.N a) - (Val.N b)))), sI (Val.N (numberOrNull ((Val.N a) - (Val.N b))))])] [R64 ((Val.N a) - (Val.N b)), (True)] ?_ ?_)
      ·
       exact ⟨R64.of (by omega), trivial, trivial⟩
      exact ret (rS (.named 0) e20)
     ·
      intro h21q e22; refine seq (r1U hC [4, 5, 6, 33, 50] [16, 20, 24] [(50, sB (kind == 5))] [] ?_); refine cdE e22 ?_ ?_
      ·
       intro h23q e24; refine seq (r0U hC [6] [24] [] [(24, .box 1 [sB (Val.Null (numberOrNull ((Val.N a) * (Val.N b)))), sI (Val.N (numberOrNull ((Val.N a) * (Val.N b))))])] [R64 ((Val.N a) * (Val.N b)), (True)] ?_ ?_)
       ·
        exact ⟨R64.of (by have := mul_b hpre.1 hpre.2; omega), trivial, trivial⟩
       exact ret (rS (.named 0) e24)
      ·
       intro h25q e26; refine seq (r1U hC [4, 5, 6, 58] [16, 20, 24] [(58, sB (kind == 6))] [] ?_); refine cdE e26 ?_ ?_
       ·
        intro h27q e28; refine seq (r0 hC [6] [24] ⟨[(6, .ref 24 1 0)], [(24, .box 1 [sB (Val.Null (flag ((Val.N a) == (Val.N b)))), sI (Val.N (flag ((Val.N a) == (Val.N b))))])]⟩ [(True)] ?_ ?_)
        ·
         exact ⟨trivial, trivial⟩
        exact ret (rS (.named 0) e28)
       ·
        intro h29q e30; refine kp [4, 5, 6] [16, 20, 24] ⟨[(4, .ref 16 1 0), (5, .ref 20 1 0), (6, .ref 24 1 0)], [(16, .box 1 [sB (Val.Null a), sI (Val.N a)]), (20, .box 1 [sB (Val.Null b), sI (Val.N b)]), (24, .box 1 [sB false, sI 0])]⟩ ?_; refine AW.skip (seq (r0U hC [6] [24] [] [(24, .box 1 [sB (Val.Null (flag (decide ((Val.N a) < (Val.N b))))), sI (Val.N (flag (decide ((Val.N a) < (Val.N b)))))])] [(True)] ?_ ?_))
        ·
         exact ⟨trivial, trivial⟩
        exact ret (rS (.named 0) e30)

def combine (kind : Int) (a : Val) (b : Val) : Val := (bif (kind == 8) then (ofTruth (andTruth (truth a) (truth b))) else (bif (kind == 9) then (ofTruth (notTruth (andTruth (notTruth (truth a)) (notTruth (truth b))))) else (bif (bif (Val.Null a) then true else (Val.Null b)) then (Val.mk true 0) else (bif (kind == 3) then (number ((Val.N a) + (Val.N b))) else (bif (kind == 4) then (number ((Val.N a) - (Val.N b))) else (bif (kind == 5) then (number ((Val.N a) * (Val.N b))) else (bif (kind == 6) then (Val.mk false (toInt ((Val.N a) == (Val.N b)))) else (Val.mk false (toInt (decide ((Val.N a) < (Val.N b))))))))))))

def combine_sp : FnSpec := mkSpec [.val (.int .i64), .val (.named 0), .val (.named 0)] [.val (.named 0)] (fun (kind : Int) (a : Val) (b : Val) => ((-9999 ≤ Val.N a ∧ Val.N a ≤ 9999) ∧ (-9999 ≤ Val.N b ∧ Val.N b ≤ 9999))) (fun (kind : Int) (a : Val) (b : Val) => [⟨(.named 0), (combine kind a b)⟩])

theorem combine_ok : FnOK Try.prog 156 combine_sp := by
 have hC : CtxOK Try.prog (mkCtx tyL [(148, toInt_sp), (149, truth_sp), (154, ofTruth_sp), (155, notTruth_sp), (167, andTruth_sp), (168, number_sp)]) := CtxOK.cons toInt_ok (CtxOK.cons truth_ok (CtxOK.cons ofTruth_ok (CtxOK.cons notTruth_ok (CtxOK.cons andTruth_ok (CtxOK.cons number_ok (CtxOK.nil tyOK)))))); have hM : Try.prog.follows .mixedOrders = true := Try.checked.mixed; refine FnOK.of_body Try.func156 (by kernel_rfl) rfl (C := (mkCtx tyL [(148, toInt_sp), (149, truth_sp), (154, ofTruth_sp), (155, notTruth_sp), (167, andTruth_sp), (168, number_sp)])) hC.ty (by kernel_rfl) ?_; intro (kind : Int) (a : Val) (b : Val) hwf hpre E; have hpre : ((-9999 ≤ Val.N a ∧ Val.N a ≤ 9999) ∧ (-9999 ≤ Val.N b ∧ Val.N b ≤ 9999)) := hpre; have hw_kind : Wf ⟨(.int .i64), (kind : Int)⟩ := hwf _ (List.Mem.head _); have hr_kind : -9223372036854775808 ≤ kind ∧ kind ≤ 9223372036854775807 := hw_kind.int_inv; have hw_a : Wf ⟨(.named 0), (a : Val)⟩ := hwf _ (List.Mem.tail _ (List.Mem.head _)); have hr_a_N := Val.wfl hw_a; have hw_b : Wf ⟨(.named 0), (b : Val)⟩ := hwf _ (List.Mem.tail _ (List.Mem.tail _ (List.Mem.head _))); have hr_b_N := Val.wfl hw_b; have e0 : combine kind a b = combine kind a b := rfl; refine seq (r1U hC [0, 4, 5, 6] [16, 20, 24] [(4, .ref 16 1 0), (5, .ref 20 1 0), (6, .ref 24 1 0)] [(16, .box 1 [sB (Val.Null a), sI (Val.N a)]), (20, .box 1 [sB (Val.Null b), sI (Val.N b)]), (24, .box 1 [sB false, sI 0])] ?_); refine seq (seq (r1U hC [0, 4, 5, 6, 7] [16, 20, 24] [(7, sI kind)] [] ?_)); refine block (seq (r1U hC [0, 4, 5, 6, 7, 8] [16, 20, 24] [(8, sB (kind == 8))] [] ?_)); refine cdE e0 ?_ ?_
 ·
  intro h1q e2; refine seq (d0U hC hM [6] [24] [] [(24, .box 1 [sB (Val.Null (ofTruth (andTruth (truth a) (truth b)))), sI (Val.N (ofTruth (andTruth (truth a) (truth b))))])] [(True), (True), (True), (True)] ?_ ?_)
  ·
   exact ⟨trivial, trivial, trivial, trivial, trivial⟩
  exact ret (rS (.named 0) e2)
 ·
  intro h3q e4; refine seq (r1U hC [0, 4, 5, 6, 16] [16, 20, 24] [(16, sB (kind == 9))] [] ?_); refine cdE e4 ?_ ?_
  ·
   intro h5q e6; refine seq (d0U hC hM [6] [24] [] [(24, .box 1 [sB (Val.Null (ofTruth (notTruth (andTruth (notTruth (truth a)) (notTruth (truth b)))))), sI (Val.N (ofTruth (notTruth (andTruth (notTruth (truth a)) (notTruth (truth b))))))])] [(True), (0 ≤ (truth a) ∧ (truth a) ≤ 2), (True), (0 ≤ (truth b) ∧ (truth b) ≤ 2), (True), (0 ≤ (andTruth (notTruth (truth a)) (notTruth (truth b))) ∧ (andTruth (notTruth (truth a)) (notTruth (truth b))) ≤ 2), (True)] ?_ ?_)
   ·
    exact ⟨trivial, (by have := truth_b a; have := truth_b b; have := andTruth_b (notTruth (truth a)) (notTruth (truth b)); omega), trivial, (by have := truth_b a; have := truth_b b; have := andTruth_b (notTruth (truth a)) (notTruth (truth b)); omega), trivial, (by have := truth_b a; have := truth_b b; have := andTruth_b (notTruth (truth a)) (notTruth (truth b)); omega), trivial, trivial⟩
   exact ret (rS (.named 0) e6)
  ·
   intro h7q e8; refine kpU [0, 4, 5, 6] [16, 20, 24] [] [] ?_; refine AW.skip (seq (seq (r0U hC [0, 4, 5, 6, 32] [16, 20, 24] [(32, sB (bif (Val.Null a) then true else (Val.Null b)))] [] [(((Val.Null a) = false) → (((Val.Null a) = false))), (((Val.Null a) = false) → (((Val.Null a) = false)))] ?_ ?_)))
   ·
    exact ⟨(by intro g9; assumption), (by intro g10; assumption), trivial⟩
   refine cdE e8 ?_ ?_
   · intro h11q e12; refine seq (r1U hC [6] [24] [] [(24, .box 1 [sB true, sI 0])] ?_); exact ret (rS (.named 0) e12)
   ·
    intro h13q e14; refine kpU [0, 4, 5, 6] [16, 20, 24] [] [] ?_; refine AW.skip (seq (seq (r1U hC [4, 5, 6, 34] [16, 20, 24] [(34, sI kind)] [] ?_))); refine block (seq (r1U hC [4, 5, 6, 34, 35] [16, 20, 24] [(35, sB (kind == 3))] [] ?_)); refine cdE e14 ?_ ?_
    ·
     intro h15q e16; refine seq (r0U hC [6] [24] [] [(24, .box 1 [sB (Val.Null (number ((Val.N a) + (Val.N b)))), sI (Val.N (number ((Val.N a) + (Val.N b))))])] [R64 ((Val.N a) + (Val.N b)), (True)] ?_ ?_)
     ·
      exact ⟨R64.of (by have := truth_b a; have := truth_b b; have := andTruth_b (notTruth (truth a)) (notTruth (truth b)); omega), trivial, trivial⟩
     exact ret (rS (.named 0) e16)
    ·
     intro h17q e18; refine seq (r1U hC [4, 5, 6, 34, 43] [16, 20, 24] [(43, sB (kind == 4))] [] ?_); refine cdE e18 ?_ ?_
     ·
      intro h19q e20; refine seq (r0 hC [6] [24] ⟨[(6, .ref 24 1 0)], [(24, .box 1 [sB (Val.Null (number ((Val.N a) - (Val.N b)))), sI (Val.N (number ((Val.N a) - (Val.N b))))])]⟩ [R64 ((Val.N a) - (Val.N b)), (True)] ?_ ?_)
      ·
       exact ⟨R64.of (by have := truth_b a; have := truth_b b; have := andTruth_b (notTruth (truth a)) (notTruth (truth b)); omega), trivial, trivial⟩
      exact ret (rS (.named 0) e20)
     ·
      intro h21q e22; refine seq (r1 hC [4, 5, 6, 34, 51] [16, 20, 24] ⟨[(4, .ref 16 1 0), (5, .ref 20 1 0), (6, .ref 24 1 0), (34, sI kind), (51, sB (kind == 5))], [(16, .box 1 [sB (Val.Null a), sI (Val.N a)]), (20, .box 1 [sB (Val.Null b), sI (Val.N b)]), (24, .box 1 [sB false, sI 0])]⟩ ?_); refine cdE e22 ?_ ?_
      ·
       intro h23q e24; refine seq (r0U hC [6] [24] [] [(24, .box 1 [sB (Val.Null (number ((Val.N a) * (Val.N b)))), sI (Val.N (number ((Val.N a) * (Val.N b))))])] [R64 ((Val.N a) * (Val.N b)), (True)] ?_ ?_)
       ·
        exact ⟨R64.of (by have := mul_b hpre.1 hpre.2; omega), trivial, trivial⟩
       exact ret (rS (.named 0) e24)
      ·
       intro h25q e26; refine seq (r1U hC [4, 5, 6, 59] [16, 20, 24] [(59, sB (kind == 6))] [] ?_); refine cdE e26 ?_ ?_
       ·
        intro h27q e28; refine seq (r0U hC [6] [24] [] [(24, .box 1 [sB false, sI (toInt ((Val.N a) == (Val.N b)))])] [(True)] ?_ ?_)
        ·
         exact ⟨trivial, trivial⟩
        exact ret (rS (.named 0) e28)
       ·
        intro h29q e30; refine kpU [4, 5, 6] [16, 20, 24] [] [] ?_; refine AW.skip (seq (r0U hC [6] [24] [] [(24, .box 1 [sB false, sI (toInt (decide ((Val.N a) < (Val.N b))))])] [(True)] ?_ ?_))
        ·
         exact ⟨trivial, trivial⟩
        exact ret (rS (.named 0) e30)

def examples_l0 (set : Int) : Nat → Nat → (List Val) → (List Val)
 | 0, v11, list => list
 | k + 1, v11, list => (bif (decide ((v11 : Int) < (length ([(inumber 0), (inumber 1), inull] : List Val) : Int))) then (bif ((bits .and .i64 set (istateOf (getD ([(inumber 0), (inumber 1), inull] : List Val) v11 Val.zero))) != 0) then (examples_l0 set k (v11 + 1) (list ++ ([(getD ([(inumber 0), (inumber 1), inull] : List Val) v11 Val.zero)] : List Val))) else (examples_l0 set k (v11 + 1) list)) else list)

def examples (set : Int) : (List Val) := (andThen (examples_l0 set ((length ([(inumber 0), (inumber 1), inull] : List Val)) - 0 + 1) 0 ([] : List Val)) (fun z => (fun (list : List Val) => list) z))

def examples_sp : FnSpec := mkSpec [.val (.int .i64)] [.own (.named 0)] (fun (set : Int) => True) (fun (set : Int) => [⟨(.slice (.named 0)), (examples set)⟩])

theorem examples_ok : FnOK Try.prog 164 examples_sp := by
 have hC : CtxOK Try.prog (mkCtx tyL [(139, istateOf_sp), (162, inull_sp), (169, inumber_sp)]) := CtxOK.cons istateOf_ok (CtxOK.cons inull_ok (CtxOK.cons inumber_ok (CtxOK.nil tyOK))); refine FnOK.of_body Try.func164 (by kernel_rfl) rfl (C := (mkCtx tyL [(139, istateOf_sp), (162, inull_sp), (169, inumber_sp)])) hC.ty (by kernel_rfl) ?_; intro (set : Int) hwf hpre E; have e0 : examples set = examples set := rfl; refine seq (r1U hC [0] [] [] [] ?_); refine seq (r1U hC [0, 3] [] [(3, .nilsl)] [] ?_); refine seq (seq (r0U hC [0, 3, 9, 10, 11] [36] [(9, .arr 36 1), (10, sI (length ([(inumber 0), (inumber 1), inull] : List Val) : Int)), (11, sI 0)] [(36, .arr 1 (.named 0) (([(inumber 0), (inumber 1), inull] : List Val) : List Val))] [(True), (True), (True)] ?_ ?_))
 ·
  exact ⟨trivial, trivial, trivial, trivial⟩
 refine AW.adopt 3 92 (.named 0) (by kernel_rfl) (by kernel_rfl) ?_; refine kp [0, 3, 9, 10, 11] [36, 92] ⟨[(0, sI set), (3, .arr 92 1), (9, .arr 36 1), (10, sI (length ([(inumber 0), (inumber 1), inull] : List Val) : Int)), (11, sI 0)], [(36, .arr 1 (.named 0) (([(inumber 0), (inumber 1), inull] : List Val) : List Val)), (92, .arr 1 (.named 0) (([] : List Val) : List Val))]⟩ ?_; refine lpB (ζ := (List Val)) (fun x => ⟨[(3, .arr 92 1)], [(92, .arr 1 (.named 0) (x : List Val))]⟩) (fun x => True) (fun x => x) (α := Nat × (List Val)) (fun x => ⟨[(0, sI set), (3, .arr 92 1), (9, .arr 36 1), (10, sI (length ([(inumber 0), (inumber 1), inull] : List Val) : Int)), (11, sI ((x.1 : Nat) : Int))], [(36, .arr 1 (.named 0) (([(inumber 0), (inumber 1), inull] : List Val) : List Val)), (92, .arr 1 (.named 0) (x.2 : List Val))]⟩) (fun x => (length x.2 : Int) ≤ x.1) (fun x => (length ([(inumber 0), (inumber 1), inull] : List Val)) - x.1) (fun k x => examples_l0 set k x.1 x.2) (0, ([] : List Val)) (by kernel_rfl) ?_ ?_ ?_
 · simp
 ·
  intro x k35q hI0 hk33 e34; obtain ⟨v11, list⟩ := x; refine seq (r1U hC [0, 3, 9, 10, 11, 12] [36, 92] [(12, sB (decide ((v11 : Int) < (length ([(inumber 0), (inumber 1), inull] : List Val) : Int))))] [] ?_); refine seq (cdE e34 ?_ ?_)
  ·
   intro h36q e37; refine kpU [0, 3, 9, 10, 11] [36, 92] [] [] ?_; refine AW.skip (seq (block (seq (r0U hC [0, 3, 5, 9, 10, 11] [20, 36, 92] [(5, .ref 20 1 0)] [(20, .box 1 [sB (Val.Null (getD ([(inumber 0), (inumber 1), inull] : List Val) v11 Val.zero)), sI (Val.N (getD ([(inumber 0), (inumber 1), inull] : List Val) v11 Val.zero))])] [IX (v11 : Int) (length ([(inumber 0), (inumber 1), inull] : List Val) : Int)] ?_ ?_))))
   ·
    exact ⟨IX.of (by omega), trivial⟩
   refine seq (r0U hC [0, 3, 5, 9, 10, 11, 19] [20, 36, 92] [(19, sB ((bits .and .i64 set (istateOf (getD ([(inumber 0), (inumber 1), inull] : List Val) v11 Val.zero))) != 0))] [] [(True)] ?_ ?_)
   ·
    exact ⟨trivial, trivial⟩
   refine cdE e37 ?_ ?_
   ·
    intro h38q e39; refine r0U hC [0, 3, 9, 10, 11] [36, 92] [] [(92, .arr 1 (.named 0) ((list ++ ([(getD ([(inumber 0), (inumber 1), inull] : List Val) v11 Val.zero)] : List Val)) : List Val))] [((length list : Int) + (length ([(getD ([(inumber 0), (inumber 1), inull] : List Val) v11 Val.zero)] : List Val) : Int) ≤ 4294967296)] ?_ ?_
    ·
     exact ⟨(by (simp only [List.length_append, List.length_cons, List.length_nil] at *; omega)), trivial⟩
    refine r0U hC [0, 3, 9, 10, 11] [36, 92] [(11, sI ((v11 + 1 : Nat) : Int))] [] [R64 ((v11 + 1 : Nat) : Int)] ?_ ?_
    ·
     exact ⟨R64.of (by (simp only [List.length_append, List.length_cons, List.length_nil] at *; omega)), trivial⟩
    refine bk (v11 + 1, (list ++ ([(getD ([(inumber 0), (inumber 1), inull] : List Val) v11 Val.zero)] : List Val))) e39 hk33 ?_ ?_
    · simp only [lens] at *; omega
    · omega
   ·
    intro h40q e41; refine kpU [0, 3, 9, 10, 11] [36, 92] [] [] ?_; refine AW.skip (r0U hC [0, 3, 9, 10, 11] [36, 92] [(11, sI ((v11 + 1 : Nat) : Int))] [] [R64 ((v11 + 1 : Nat) : Int)] ?_ ?_)
    ·
     exact ⟨R64.of (by (simp only [List.length_append, List.length_cons, List.length_nil] at *; omega)), trivial⟩
    refine bk (v11 + 1, list) e41 hk33 ?_ ?_
    · simp only [lens] at *; omega
    · omega
  · intro h42q e43; refine kpU [3] [92] [] [] ?_; refine exit ?_; refine meet list (by kernel_rfl) ⟨?_, e43⟩; assumption
 · intro list hJ0 e44; have e45 := e0.trans (then_eq e44); refine seq (r1U hC [2] [92] [(2, .arr 92 1)] [] ?_); exact ret (rS (.slice (.named 0)) e45)

end
end Go.Proofs.Ytodcdgolcbdkgaa
