/-
  A part of the proof of this claim (Av6): what functions of the program compute, and plain facts of that. No conditions.
-/
import Derived.Test.YtdcnkekcdncelaaDoorAv5
import Derived.Test.YtdcnkekcdncelaaDoorAv2
import Derived.Test.YtdcnkekcdncelaaDoorAvJ
set_option linter.all false
namespace Go.Proofs.YtdcnkekcdncelaaDoor
open Go Go.Am
open Go.Am.AW (seq r1U ret kpU cdE r0U r1 rB rS r0)
open List (length)
noncomputable section

theorem mutate_size (r : Rdr) (s : ByteArray) : (mutate r s).1.size ≤ 2 * s.size + 2 := by
 have h2 : (oneOf r.b (r.p + 1 + 1) [(ByteArray.mk #[48]), (ByteArray.mk #[49]), (ByteArray.mk #[32]), (ByteArray.mk #[45]), (ByteArray.mk #[40]), (ByteArray.mk #[41]), (ByteArray.mk #[35]), (ByteArray.mk #[57])]).size ≤ 2 := oneOf_size _ _ (by decide); have h3 : (oneOf r.b (r.p + 1 + 1) [(ByteArray.mk #[48]), (ByteArray.mk #[32]), (ByteArray.mk #[41]), (ByteArray.mk #[32, 49]), (ByteArray.mk #[120]), (ByteArray.mk #[35, 48])]).size ≤ 2 := oneOf_size _ _ (by decide); unfold mutate
 cases (pick r.b (r.p + 1) 5 == 0) with
 | true =>
  simp only [cond_true]
  cases (decide ((pick (Rdr.b r) (Rdr.p r) (((ByteArray.size s) + 1 : Nat) : Int)) < ((ByteArray.size s : Nat) : Int))) with
  | true =>
   simp only [cond_true, ByteArray.size_append, ByteArray.size_extract]; omega
  | false => simp only [cond_false]; omega
 | false =>
  simp only [cond_false]
  cases (pick r.b (r.p + 1) 5 == 1) with
  | true => simp only [cond_true, ByteArray.size_extract]; omega
  | false =>
   simp only [cond_false]
   cases (pick r.b (r.p + 1) 5 == 2) with
   | true => simp only [cond_true, ByteArray.size_append]; omega
   | false => simp only [cond_false]; omega

theorem EncodeValue_size (v : Val) : (EncodeValue v).size ≤ 20 := by
 unfold EncodeValue
 cases h : validValue v with
 | false => exact Nat.zero_le _
 | true =>
  unfold formatValue
  cases hn : v.Null with
  | true => show (ByteArray.mk #[110, 117, 108, 108]).size ≤ 20; decide
  | false =>
   have : -9999 ≤ v.N ∧ v.N ≤ 9999 := by
    unfold validValue inRange at h; simp at h; exact h.1
   rw [cond_false, formatInt_eq _ (by omega)]; exact itoaS_size _ (by omega) (by omega)

def DrawDecodeValue (code : List Int) : ByteArray := (bif ((pick (Rdr.b ((anyValue (newReader code)).2)) (Rdr.p ((anyValue (newReader code)).2)) 2) == 0) then (EncodeValue ((anyValue (newReader code)).1)) else ((mutate (Rdr.mk (Rdr.b ((anyValue (newReader code)).2)) ((Rdr.p ((anyValue (newReader code)).2)) + 1)) (EncodeValue ((anyValue (newReader code)).1))).1))

def DrawDecodeValue_sp : FnSpec := mkSpec [.val (.slice (.int .u8))] [.val .str] (fun (code : List Int) => True) (fun (code : List Int) => [⟨.str, (DrawDecodeValue code)⟩])

theorem DrawDecodeValue_ok : FnOK Tryd.prog 13 DrawDecodeValue_sp := by
 have hC : CtxOK Tryd.prog (mkCtx tyL [(11, EncodeValue_sp), (20, anyValue_sp), (21, newReader_sp), (24, pickS), (25, mutate_sp)]) := CtxOK.cons EncodeValue_ok (CtxOK.cons anyValue_ok (CtxOK.cons newReader_ok (CtxOK.cons pickS_ok (CtxOK.cons mutate_ok (CtxOK.nil tyOK))))); refine FnOK.of_body Tryd.func13 (by kernel_rfl) rfl (C := (mkCtx tyL [(11, EncodeValue_sp), (20, anyValue_sp), (21, newReader_sp), (24, pickS), (25, mutate_sp)])) hC.ty (by kernel_rfl) ?_; intro (code : List Int) hwf hpre E; have e0 : DrawDecodeValue code = DrawDecodeValue code := rfl; refine seq (r1U hC [0] [] [] [] ?_); refine seq (r0 hC [3] [24] ⟨[(3, .ref 24 1 0)], [(24, .box 1 [sD6 (Rdr.b (newReader code)), sI (Rdr.p (newReader code))])]⟩ [(True)] ?_ ?_)
 ·
  exact ⟨trivial, trivial⟩
 refine seq (r0U hC [3, 4] [24] [(4, .str (EncodeValue ((anyValue (newReader code)).1)))] [(24, .box 1 [sD6 (Rdr.b ((anyValue (newReader code)).2)), sI (Rdr.p ((anyValue (newReader code)).2))])] [(0 ≤ (newReader code).p ∧ (newReader code).p ≤ 999999990000), (True)] ?_ ?_)
 ·
  exact ⟨(by have hp := newReader_p code; have hq := anyValue_p (newReader code); have he := EncodeValue_size (anyValue (newReader code)).1; omega), trivial, trivial⟩
 refine seq (seq (r0U hC [3, 4, 12] [24] [(12, sB ((pick (Rdr.b ((anyValue (newReader code)).2)) (Rdr.p ((anyValue (newReader code)).2)) 2) == 0))] [(24, .box 1 [sD6 (Rdr.b ((anyValue (newReader code)).2)), sI ((Rdr.p ((anyValue (newReader code)).2)) + 1)])] [(0 ≤ ((anyValue (newReader code)).2).p ∧ ((anyValue (newReader code)).2).p ≤ 1099511627776)] ?_ ?_))
 ·
  exact ⟨(by have hp := newReader_p code; have hq := anyValue_p (newReader code); have he := EncodeValue_size (anyValue (newReader code)).1; omega), trivial⟩
 refine cdE e0 ?_ ?_
 · intro h1q e2; refine seq (r1 hC [2] [] ⟨[(2, .str (EncodeValue ((anyValue (newReader code)).1)))], []⟩ ?_); exact ret (rS .str e2)
 ·
  intro h3q e4; refine kpU [3, 4] [24] [] [] ?_; refine AW.skip (seq (r0 hC [2] [] ⟨[(2, .str ((mutate (Rdr.mk (Rdr.b ((anyValue (newReader code)).2)) ((Rdr.p ((anyValue (newReader code)).2)) + 1)) (EncodeValue ((anyValue (newReader code)).1))).1))], []⟩ [((0 ≤ (Rdr.mk (Rdr.b ((anyValue (newReader code)).2)) ((Rdr.p ((anyValue (newReader code)).2)) + 1)).p ∧ (Rdr.mk (Rdr.b ((anyValue (newReader code)).2)) ((Rdr.p ((anyValue (newReader code)).2)) + 1)).p ≤ 999999000000) ∧ ((ByteArray.size (EncodeValue ((anyValue (newReader code)).1)) : Nat) : Int) ≤ 1000000)] ?_ ?_))
  ·
   exact ⟨(by have hp := newReader_p code; have hq := anyValue_p (newReader code); have he := EncodeValue_size (anyValue (newReader code)).1; dsimp only; omega), trivial⟩
  exact ret (rS .str e4)

theorem DrawDecode_size (code : List Int) : (DrawDecodeValue code).size ≤ 42 := by
 have he := EncodeValue_size (anyValue (newReader code)).1; unfold DrawDecodeValue
 cases (pick (Rdr.b (anyValue (newReader code)).2) (Rdr.p (anyValue (newReader code)).2) 2 == 0) with
 | true => simp only [cond_true]; omega
 | false =>
  simp only [cond_false]; exact Nat.le_trans (mutate_size _ _) (by omega)

end
end Go.Proofs.YtdcnkekcdncelaaDoor
