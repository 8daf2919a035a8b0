/-
  A part of the proof of this claim (Av2): what functions of the program compute, and plain facts of that. No conditions.
-/
import Derived.Test.YtdcnkekcdncelaaDoorAv1
import Derived.Test.YtdcnkekcdncelaaDoorAvI
set_option linter.all false
namespace Go.Proofs.YtdcnkekcdncelaaDoor
open Go Go.Am
open Go.Am.AW (seq r1U ret kpU cdE r0U r1 rB rS r0 kp)
noncomputable section

def inull : Val := (Val.mk true 0)

def inull_sp : FnSpec := mkSpec [] [.val (.named 0)] (True) ([⟨(.named 0), inull⟩])

theorem inull_ok : FnOK Tryd.prog 17 inull_sp := by
 have hC : CtxOK Tryd.prog (mkCtx tyL []) := CtxOK.nil tyOK; refine FnOK.of_body Tryd.func17 (by kernel_rfl) rfl (C := (mkCtx tyL [])) hC.ty (by kernel_rfl) ?_; intro  hwf hpre E; have e0 : inull = inull := rfl; refine seq (r1 hC [0] [0] ⟨[(0, .ref 0 1 0)], [(0, .box 1 [sB false, sI 0])]⟩ ?_); refine seq (r1U hC [0] [0] [] [(0, .box 1 [sB true, sI 0])] ?_); exact ret (rS (.named 0) e0)

def inumber (n : Int) : Val := (Val.mk false n)

def inumber_sp : FnSpec := mkSpec [.val (.int .i64)] [.val (.named 0)] (fun (n : Int) => True) (fun (n : Int) => [⟨(.named 0), (inumber n)⟩])

theorem inumber_ok : FnOK Tryd.prog 19 inumber_sp := by
 have hC : CtxOK Tryd.prog (mkCtx tyL []) := CtxOK.nil tyOK; refine FnOK.of_body Tryd.func19 (by kernel_rfl) rfl (C := (mkCtx tyL [])) hC.ty (by kernel_rfl) ?_; intro (n : Int) hwf hpre E; have e0 : inumber n = inumber n := rfl; refine seq (r1U hC [0, 2] [8] [(2, .ref 8 1 0)] [(8, .box 1 [sB false, sI 0])] ?_); refine seq (r1U hC [2] [8] [] [(8, .box 1 [sB false, sI n])] ?_); exact ret (rS (.named 0) e0)

def ivalid (v : Val) : Bool := (bif (Val.Null v) then ((Val.N v) == 0) else (bif (decide ((-9999) ≤ (Val.N v))) then (decide ((Val.N v) ≤ 9999)) else false))

def ivalid_sp : FnSpec := mkSpec [.val (.named 0)] [.val .bool] (fun (v : Val) => True) (fun (v : Val) => [⟨.bool, (ivalid v)⟩])

theorem ivalid_ok : FnOK Tryd.prog 22 ivalid_sp := by
 have hC : CtxOK Tryd.prog (mkCtx tyL []) := CtxOK.nil tyOK; refine FnOK.of_body Tryd.func22 (by kernel_rfl) rfl (C := (mkCtx tyL [])) hC.ty (by kernel_rfl) ?_; intro (v : Val) hwf hpre E; have hw_v : Wf ⟨(.named 0), (v : Val)⟩ := hwf _ (List.Mem.head _); have hr_v_N := Val.wfl hw_v; have e0 : ivalid v = ivalid v := rfl; refine seq (r1 hC [1] [4] ⟨[(1, .ref 4 1 0)], [(4, .box 1 [sB (Val.Null v), sI (Val.N v)])]⟩ ?_); refine seq (seq (r1U hC [1, 4] [4] [(4, sB (Val.Null v))] [] ?_)); refine cdE e0 ?_ ?_
 · intro h1q e2; refine seq (r1 hC [2] [] ⟨[(2, sB ((Val.N v) == 0))], []⟩ ?_); exact ret (rB _ e2)
 ·
  intro h3q e4; refine kpU [1] [4] [] [] ?_; refine AW.skip (seq (r0 hC [2] [] ⟨[(2, sB (bif (decide ((-9999) ≤ (Val.N v))) then (decide ((Val.N v) ≤ 9999)) else false))], []⟩ [(((decide ((-9999) ≤ (Val.N v))) = true) → (((decide ((-9999) ≤ (Val.N v))) = true))), (((decide ((-9999) ≤ (Val.N v))) = true) → (((decide ((-9999) ≤ (Val.N v))) = true))), (((decide ((-9999) ≤ (Val.N v))) = true) → (((decide ((-9999) ≤ (Val.N v))) = true)))] ?_ ?_))
  ·
   exact ⟨(by intro g5; have g5p0 : (-9999) ≤ (Val.N v) := (of_decide_eq_true g5); assumption), (by intro g6; have g6p0 : (-9999) ≤ (Val.N v) := (of_decide_eq_true g6); assumption), (by intro g7; have g7p0 : (-9999) ≤ (Val.N v) := (of_decide_eq_true g7); assumption), trivial⟩
  exact ret (rB _ e4)

def iValidValue (v : Val) : Bool := (ivalid v)

def iValidValue_sp : FnSpec := mkSpec [.val (.named 0)] [.val .bool] (fun (v : Val) => True) (fun (v : Val) => [⟨.bool, (iValidValue v)⟩])

theorem iValidValue_ok : FnOK Tryd.prog 12 iValidValue_sp := by
 have hC : CtxOK Tryd.prog (mkCtx tyL [(22, ivalid_sp)]) := CtxOK.cons ivalid_ok (CtxOK.nil tyOK); refine FnOK.of_body Tryd.func12 (by kernel_rfl) rfl (C := (mkCtx tyL [(22, ivalid_sp)])) hC.ty (by kernel_rfl) ?_; intro (v : Val) hwf hpre E; have hw_v : Wf ⟨(.named 0), (v : Val)⟩ := hwf _ (List.Mem.head _); have hr_v_N := Val.wfl hw_v; have e0 : iValidValue v = iValidValue v := rfl; refine seq (r1 hC [1] [4] ⟨[(1, .ref 4 1 0)], [(4, .box 1 [sB (Val.Null v), sI (Val.N v)])]⟩ ?_); refine seq (r0 hC [2] [] ⟨[(2, sB (ivalid v))], []⟩ [(True)] ?_ ?_)
 ·
  exact ⟨trivial, trivial⟩
 exact ret (rB _ e0)

def iEncodeValue (v : Val) : ByteArray := (bif (!(ivalid v)) then (ByteArray.mk #[]) else (bif (Val.Null v) then (ByteArray.mk #[110, 117, 108, 108]) else (itoaS (Val.N v))))

def iEncodeValue_sp : FnSpec := mkSpec [.val (.named 0)] [.val .str] (fun (v : Val) => True) (fun (v : Val) => [⟨.str, (iEncodeValue v)⟩])

theorem iEncodeValue_ok : FnOK Tryd.prog 10 iEncodeValue_sp := by
 have hC : CtxOK Tryd.prog (mkCtx tyL [(22, ivalid_sp), (23, itoa_sp)]) := CtxOK.cons ivalid_ok (CtxOK.cons itoa_ok (CtxOK.nil tyOK)); refine FnOK.of_body Tryd.func10 (by kernel_rfl) rfl (C := (mkCtx tyL [(22, ivalid_sp), (23, itoa_sp)])) hC.ty (by kernel_rfl) ?_; intro (v : Val) hwf hpre E; have hw_v : Wf ⟨(.named 0), (v : Val)⟩ := hwf _ (List.Mem.head _); have hr_v_N := Val.wfl hw_v; have e0 : iEncodeValue v = iEncodeValue v := rfl; refine seq (r1 hC [1] [4] ⟨[(1, .ref 4 1 0)], [(4, .box 1 [sB (Val.Null v), sI (Val.N v)])]⟩ ?_); refine seq (seq (r0U hC [1, 5] [4] [(5, sB (!(ivalid v)))] [] [(True)] ?_ ?_))
 ·
  exact ⟨trivial, trivial⟩
 refine cdE e0 ?_ ?_
 · intro h1q e2; refine seq (r1 hC [2] [] ⟨[(2, .str (ByteArray.mk #[]))], []⟩ ?_); exact ret (rS .str e2)
 ·
  intro h3q e4; refine kpU [1] [4] [] [] ?_; refine AW.skip (seq (seq (r1U hC [1, 7] [4] [(7, sB (Val.Null v))] [] ?_))); refine cdE e4 ?_ ?_
  · intro h5q e6; refine seq (r1 hC [2] [] ⟨[(2, .str (ByteArray.mk #[110, 117, 108, 108]))], []⟩ ?_); exact ret (rS .str e6)
  ·
   intro h7q e8; refine kpU [1] [4] [] [] ?_; refine AW.skip (seq (r0 hC [2] [] ⟨[(2, .str (itoaS (Val.N v)))], []⟩ [(True)] ?_ ?_))
   ·
    exact ⟨trivial, trivial⟩
   exact ret (rS .str e8)

def iDecodeValue (s : ByteArray) : Val × Bool := (bif (Go.Am.seq s (ByteArray.mk #[110, 117, 108, 108])) then (inull, true) else (bif (bif (atoiE s) then true else (!(Go.Am.seq (iEncodeValue (inumber (atoiN s))) s))) then ((Val.mk false 0), false) else ((inumber (atoiN s)), true)))

def iDecodeValue_sp : FnSpec := mkSpec [.val .str] [.val (.named 0), .val .bool] (fun (s : ByteArray) => ((ByteArray.size s : Nat) : Int) ≤ 281474976710656) (fun (s : ByteArray) => [⟨(.named 0), ((iDecodeValue s).1)⟩, ⟨.bool, ((iDecodeValue s).2)⟩])

theorem iDecodeValue_ok : FnOK Tryd.prog 7 iDecodeValue_sp := by
 have hC : CtxOK Tryd.prog (mkCtx tyL [(10, iEncodeValue_sp), (17, inull_sp), (18, atoi_sp), (19, inumber_sp)]) := CtxOK.cons iEncodeValue_ok (CtxOK.cons inull_ok (CtxOK.cons atoi_ok (CtxOK.cons inumber_ok (CtxOK.nil tyOK)))); refine FnOK.of_body Tryd.func7 (by kernel_rfl) rfl (C := (mkCtx tyL [(10, iEncodeValue_sp), (17, inull_sp), (18, atoi_sp), (19, inumber_sp)])) hC.ty (by kernel_rfl) ?_; intro (s : ByteArray) hwf hpre E; have hpre : ((ByteArray.size s : Nat) : Int) ≤ 281474976710656 := hpre; have e0 : iDecodeValue s = iDecodeValue s := rfl; refine seq (r1U hC [0, 2] [8] [(2, .ref 8 1 0)] [(8, .box 1 [sB false, sI 0])] ?_); refine seq (seq (r1U hC [0, 2, 7] [8] [(7, sB (Go.Am.seq s (ByteArray.mk #[110, 117, 108, 108])))] [] ?_)); refine cdE e0 ?_ ?_
 ·
  intro h1q e2; refine seq (r0U hC [2, 3] [8] [(3, sB true)] [(8, .box 1 [sB (Val.Null inull), sI (Val.N inull)])] [(True)] ?_ ?_)
  ·
   exact ⟨trivial, trivial⟩
  exact ret (AW.retE (β := Val × Bool) (fun v => [⟨(.named 0), v.1⟩, ⟨.bool, v.2⟩]) (fun v => []) (v := (inull, true)) e2 (by kernel_rfl) rfl rfl)
 ·
  intro h3q e4; refine kpU [0, 2] [8] [] [] ?_; refine AW.skip (seq (r0U hC [0, 2, 4, 5] [8] [(4, sI (atoiN s)), (5, .err (atoiE s))] [] [(((ByteArray.size s : Nat) : Int) ≤ 281474976710656)] ?_ ?_))
  ·
   exact ⟨(by omega), trivial⟩
  refine seq (seq (r0U hC [2, 4, 22] [8] [(22, sB (bif (atoiE s) then true else (!(Go.Am.seq (iEncodeValue (inumber (atoiN s))) s))))] [] [(((atoiE s) = false) → (((atoiE s) = false))), (((atoiE s) = false) → (True)), (((atoiE s) = false) → (((atoiE s) = false))), (((atoiE s) = false) → (True)), (((atoiE s) = false) → (((atoiE s) = false))), (((atoiE s) = false) → (((atoiE s) = false))), (((atoiE s) = false) → (((atoiE s) = false)))] ?_ ?_))
  ·
   exact ⟨(by intro g5; have g5p0 : (atoiE s) = false := g5; assumption), (by intro g6; have g6p0 : (atoiE s) = false := g6; trivial), (by intro g7; have g7p0 : (atoiE s) = false := g7; assumption), (by intro g8; have g8p0 : (atoiE s) = false := g8; trivial), (by intro g9; have g9p0 : (atoiE s) = false := g9; assumption), (by intro g10; have g10p0 : (atoiE s) = false := g10; assumption), (by intro g11; have g11p0 : (atoiE s) = false := g11; assumption), trivial⟩
  refine cdE e4 ?_ ?_
  · intro h12q e13; refine seq (r1U hC [2, 3] [8] [(3, sB false)] [] ?_); exact ret (AW.retE (β := Val × Bool) (fun v => [⟨(.named 0), v.1⟩, ⟨.bool, v.2⟩]) (fun v => []) (v := ((Val.mk false 0), false)) e13 (by kernel_rfl) rfl rfl)
  ·
   intro h14q e15; refine kpU [2, 4] [8] [] [] ?_; refine AW.skip (seq (r0U hC [2, 3] [8] [(3, sB true)] [(8, .box 1 [sB (Val.Null (inumber (atoiN s))), sI (Val.N (inumber (atoiN s)))])] [(True)] ?_ ?_))
   ·
    exact ⟨trivial, trivial⟩
   exact ret (AW.retE (β := Val × Bool) (fun v => [⟨(.named 0), v.1⟩, ⟨.bool, v.2⟩]) (fun v => []) (v := ((inumber (atoiN s)), true)) e15 (by kernel_rfl) rfl rfl)

end
end Go.Proofs.YtdcnkekcdncelaaDoor
