/-
  A part of the proof of this claim (Av6): what functions of the program compute, and plain facts of that. No conditions.
-/
import Derived.Test.YtdcnkekcdncelaaDoorAv4
import Derived.Test.YtdcnkekcdncelaaDoorAv2
import Derived.Test.YtdcnkekcdncelaaDoorAvJ
set_option linter.all false
namespace Go.Proofs.YtdcnkekcdncelaaDoor
open Go Go.Am
open Go.Am.AW (seq r1U ret kpU cdE r0U r1 rB rS r0)
open List (length)
noncomputable section

theorem iEncode_size (v : Val) : (iEncodeValue v).size ≤ 20 := by
 unfold iEncodeValue
 cases h : ivalid v with
 | false => exact Nat.zero_le _
 | true =>
  cases hn : v.Null with
  | true => show (ByteArray.mk #[110, 117, 108, 108]).size ≤ 20; decide
  | false =>
   have : -9999 ≤ v.N ∧ v.N ≤ 9999 := by
    unfold ivalid at h; rw [hn] at h; simpa using h
   exact itoaS_size _ (by omega) (by omega)

def FnValueRoundTrip (code : List Int) : Bool := (bif (decide (1048576 < (length code : Int))) then true else (bif (bif (!(Go.Am.seq (iEncodeValue (DrawEncodeValue code)) (EncodeValue (DrawEncodeValue code)))) then true else (Go.Am.seq (iEncodeValue (DrawEncodeValue code)) (ByteArray.mk #[]))) then (bif (Go.Am.seq (iEncodeValue (DrawEncodeValue code)) (EncodeValue (DrawEncodeValue code))) then (!(iValidValue (DrawEncodeValue code))) else false) else (bif ((iDecodeValue (iEncodeValue (DrawEncodeValue code))).2) then (bif ((Val.Null ((iDecodeValue (iEncodeValue (DrawEncodeValue code))).1)) == (Val.Null (DrawEncodeValue code))) then (bif ((Val.N ((iDecodeValue (iEncodeValue (DrawEncodeValue code))).1)) == (Val.N (DrawEncodeValue code))) then true else false) else false) else false)))

def FnValueRoundTrip_sp : FnSpec := mkSpec [.val (.slice (.int .u8))] [.val .bool] (fun (code : List Int) => True) (fun (code : List Int) => [⟨.bool, (FnValueRoundTrip code)⟩])

theorem FnValueRoundTrip_ok : FnOK Tryd.prog 4 FnValueRoundTrip_sp := by
 have hC : CtxOK Tryd.prog (mkCtx tyL [(7, iDecodeValue_sp), (9, DrawEncodeValue_sp), (10, iEncodeValue_sp), (11, EncodeValue_sp), (12, iValidValue_sp)]) := CtxOK.cons iDecodeValue_ok (CtxOK.cons DrawEncodeValue_ok (CtxOK.cons iEncodeValue_ok (CtxOK.cons EncodeValue_ok (CtxOK.cons iValidValue_ok (CtxOK.nil tyOK))))); refine FnOK.of_body Tryd.func4 (by kernel_rfl) rfl (C := (mkCtx tyL [(7, iDecodeValue_sp), (9, DrawEncodeValue_sp), (10, iEncodeValue_sp), (11, EncodeValue_sp), (12, iValidValue_sp)])) hC.ty (by kernel_rfl) ?_; intro (code : List Int) hwf hpre E; have e0 : FnValueRoundTrip code = FnValueRoundTrip code := rfl; refine seq (r1U hC [0] [] [] [] ?_); refine seq (seq (r1U hC [0, 9] [] [(9, sB (decide (1048576 < (length code : Int))))] [] ?_)); refine cdE e0 ?_ ?_
 · intro h1q e2; refine seq (r1 hC [2] [] ⟨[(2, sB true)], []⟩ ?_); exact ret (rB _ e2)
 ·
  intro h3q e4; refine kpU [0] [] [] [] ?_; refine AW.skip (seq (r0 hC [3] [12] ⟨[(3, .ref 12 1 0)], [(12, .box 1 [sB (Val.Null (DrawEncodeValue code)), sI (Val.N (DrawEncodeValue code))])]⟩ [(True)] ?_ ?_))
  ·
   exact ⟨trivial, trivial⟩
  refine seq (r0U hC [3, 4] [12] [(4, .str (iEncodeValue (DrawEncodeValue code)))] [] [(True)] ?_ ?_)
  ·
   exact ⟨trivial, trivial⟩
  refine seq (seq (r0U hC [3, 4, 21] [12] [(21, sB (bif (!(Go.Am.seq (iEncodeValue (DrawEncodeValue code)) (EncodeValue (DrawEncodeValue code)))) then true else (Go.Am.seq (iEncodeValue (DrawEncodeValue code)) (ByteArray.mk #[]))))] [] [(True), (((!(Go.Am.seq (iEncodeValue (DrawEncodeValue code)) (EncodeValue (DrawEncodeValue code)))) = false) → (((!(Go.Am.seq (iEncodeValue (DrawEncodeValue code)) (EncodeValue (DrawEncodeValue code)))) = false))), (((!(Go.Am.seq (iEncodeValue (DrawEncodeValue code)) (EncodeValue (DrawEncodeValue code)))) = false) → (((!(Go.Am.seq (iEncodeValue (DrawEncodeValue code)) (EncodeValue (DrawEncodeValue code)))) = false)))] ?_ ?_))
  ·
   exact ⟨trivial, (by intro g5; have g5p0 : (Go.Am.seq (iEncodeValue (DrawEncodeValue code)) (EncodeValue (DrawEncodeValue code))) = true := (not_neg g5); assumption), (by intro g6; have g6p0 : (Go.Am.seq (iEncodeValue (DrawEncodeValue code)) (EncodeValue (DrawEncodeValue code))) = true := (not_neg g6); assumption), trivial⟩
  refine cdE e4 ?_ ?_
  ·
   intro h7q e8; refine seq (r0 hC [2] [] ⟨[(2, sB (bif (Go.Am.seq (iEncodeValue (DrawEncodeValue code)) (EncodeValue (DrawEncodeValue code))) then (!(iValidValue (DrawEncodeValue code))) else false))], []⟩ [(True), (((Go.Am.seq (iEncodeValue (DrawEncodeValue code)) (EncodeValue (DrawEncodeValue code))) = true) → (((Go.Am.seq (iEncodeValue (DrawEncodeValue code)) (EncodeValue (DrawEncodeValue code))) = true))), (((Go.Am.seq (iEncodeValue (DrawEncodeValue code)) (EncodeValue (DrawEncodeValue code))) = true) → (True)), (((Go.Am.seq (iEncodeValue (DrawEncodeValue code)) (EncodeValue (DrawEncodeValue code))) = true) → (((Go.Am.seq (iEncodeValue (DrawEncodeValue code)) (EncodeValue (DrawEncodeValue code))) = true))), (((Go.Am.seq (iEncodeValue (DrawEncodeValue code)) (EncodeValue (DrawEncodeValue code))) = true) → (((Go.Am.seq (iEncodeValue (DrawEncodeValue code)) (EncodeValue (DrawEncodeValue code))) = true)))] ?_ ?_)
   ·
    exact ⟨trivial, (by intro g9; have g9p0 : (Go.Am.seq (iEncodeValue (DrawEncodeValue code)) (EncodeValue (DrawEncodeValue code))) = true := g9; assumption), (by intro g10; have g10p0 : (Go.Am.seq (iEncodeValue (DrawEncodeValue code)) (EncodeValue (DrawEncodeValue code))) = true := g10; trivial), (by intro g11; have g11p0 : (Go.Am.seq (iEncodeValue (DrawEncodeValue code)) (EncodeValue (DrawEncodeValue code))) = true := g11; assumption), (by intro g12; have g12p0 : (Go.Am.seq (iEncodeValue (DrawEncodeValue code)) (EncodeValue (DrawEncodeValue code))) = true := g12; assumption), trivial⟩
   exact ret (rB _ e8)
  ·
   intro h13q e14; refine kpU [3, 4] [12] [] [] ?_; refine AW.skip (seq (r0U hC [3, 5, 6] [12, 20] [(5, .ref 20 1 0), (6, sB ((iDecodeValue (iEncodeValue (DrawEncodeValue code))).2))] [(20, .box 1 [sB (Val.Null ((iDecodeValue (iEncodeValue (DrawEncodeValue code))).1)), sI (Val.N ((iDecodeValue (iEncodeValue (DrawEncodeValue code))).1))])] [(((ByteArray.size (iEncodeValue (DrawEncodeValue code)) : Nat) : Int) ≤ 281474976710656)] ?_ ?_))
   ·
    exact ⟨(by have hz := iEncode_size (DrawEncodeValue code); omega), trivial⟩
   refine seq (r0 hC [2] [] ⟨[(2, sB (bif ((iDecodeValue (iEncodeValue (DrawEncodeValue code))).2) then (bif ((Val.Null ((iDecodeValue (iEncodeValue (DrawEncodeValue code))).1)) == (Val.Null (DrawEncodeValue code))) then (bif ((Val.N ((iDecodeValue (iEncodeValue (DrawEncodeValue code))).1)) == (Val.N (DrawEncodeValue code))) then true else false) else false) else false))], []⟩ [((((iDecodeValue (iEncodeValue (DrawEncodeValue code))).2) = true) → ((((iDecodeValue (iEncodeValue (DrawEncodeValue code))).2) = true))), ((((iDecodeValue (iEncodeValue (DrawEncodeValue code))).2) = true) → ((((iDecodeValue (iEncodeValue (DrawEncodeValue code))).2) = true))), ((((iDecodeValue (iEncodeValue (DrawEncodeValue code))).2) = true) → ((((iDecodeValue (iEncodeValue (DrawEncodeValue code))).2) = true)))] ?_ ?_)
   ·
    exact ⟨(by intro g15; have g15p0 : ((iDecodeValue (iEncodeValue (DrawEncodeValue code))).2) = true := g15; assumption), (by intro g16; have g16p0 : ((iDecodeValue (iEncodeValue (DrawEncodeValue code))).2) = true := g16; assumption), (by intro g17; have g17p0 : ((iDecodeValue (iEncodeValue (DrawEncodeValue code))).2) = true := g17; assumption), trivial⟩
   exact ret (rB _ e14)

end
end Go.Proofs.YtdcnkekcdncelaaDoor
