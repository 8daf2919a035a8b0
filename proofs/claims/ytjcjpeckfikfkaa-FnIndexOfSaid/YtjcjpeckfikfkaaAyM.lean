/-
  A part of the proof of this claim (AyM): what functions of the program compute, and plain facts of that. No conditions.
-/
import Derived.Test.YtjcjpeckfikfkaaAyL
set_option linter.all false
namespace Go.Proofs.Ytjcjpeckfikfkaa
open Go Go.Am
noncomputable section

def DrawIndexOf (code : List Int) : Tab × Int := (((anyTable (Rdr.mk (Rdr.b (newReader code)) ((Rdr.p (newReader code)) + 1)) (1 + (pick (Rdr.b (newReader code)) (Rdr.p (newReader code)) 2)) 7).1), (one (Rdr.b ((anyTable (Rdr.mk (Rdr.b (newReader code)) ((Rdr.p (newReader code)) + 1)) (1 + (pick (Rdr.b (newReader code)) (Rdr.p (newReader code)) 2)) 7).2)) (Rdr.p ((anyTable (Rdr.mk (Rdr.b (newReader code)) ((Rdr.p (newReader code)) + 1)) (1 + (pick (Rdr.b (newReader code)) (Rdr.p (newReader code)) 2)) 7).2)) ([0, ((1 + (pick (Rdr.b (newReader code)) (Rdr.p (newReader code)) 2)) - 1), 0, (1 + (pick (Rdr.b (newReader code)) (Rdr.p (newReader code)) 2)), (-1)] : List Int)))

def DrawIndexOf_sp : FnSpec := mkSpec [.val (.slice (.int .u8))] [.val (.named 2), .val (.int .i64)] (fun (code : List Int) => True) (fun (code : List Int) => [⟨(.named 2), ((DrawIndexOf code).1)⟩, ⟨(.int .i64), ((DrawIndexOf code).2)⟩])

theorem DrawIndexOf_ok : FnOK Try.prog 39 DrawIndexOf_sp := by
 have hC : CtxOK Try.prog (mkCtx tyL [(55, newReader_sp), (56, pickS), (59, oneS), (74, anyTable_sp)]) := CtxOK.cons newReader_ok (CtxOK.cons pickS_ok (CtxOK.cons oneS_ok (CtxOK.cons anyTable_ok (CtxOK.nil tyOK))))
 have hM : Try.prog.follows .mixedOrders = true := Try.checked.mixed
 refine FnOK.of_body Try.func39 (by kernel_rfl) rfl (C := (mkCtx tyL [(55, newReader_sp), (56, pickS), (59, oneS), (74, anyTable_sp)])) hC.ty (by kernel_rfl) ?_
 intro (code : List Int) hwf hpre E
 have hpre : True := hpre
 have hw_code : Wf ⟨(.slice (.int .u8)), (code : List Int)⟩ := hwf _ (List.Mem.head _)
 have hl_code : ((List.length code : Nat) : Int) ≤ 9223372036854775807 := hw_code.len
 have h0 := newReader_p code
 have hw := pick_ok (n := 2) (newReader code).b (newReader code).p (by decide)
 have hT := anyTable_p (Rdr.mk (newReader code).b ((newReader code).p + 1)) (width := 1 + pick (newReader code).b (newReader code).p 2) (most := 7) (by omega) (by decide)
 simp only at hT
 have e0 : DrawIndexOf code = DrawIndexOf code := rfl
 refine AW.seq (AW.r1 hC [0, 2] [8] ⟨[(0, .data (.slice (.int .u8)) (code : List Int)), (2, .ref 8 1 0)], [(8, .box 1 [.int .i64 0, .nilsl])]⟩ ?_)
 refine AW.seq (AW.r0 hC [2, 4] [8, 32] ⟨[(2, .ref 8 1 0), (4, .ref 32 1 0)], [(8, .box 1 [.int .i64 0, .nilsl]), (32, .box 1 [.data (.slice (.int .u8)) ((Rdr.b (newReader code)) : List Int), .int .i64 (Rdr.p (newReader code))])]⟩ [(True)] ?_ ?_)
 ·
  refine ⟨?_, trivial⟩
  ·
   trivial
 refine AW.seq (AW.r0 hC [2, 4, 5] [8, 32] ⟨[(2, .ref 8 1 0), (4, .ref 32 1 0), (5, .int .i64 (1 + (pick (Rdr.b (newReader code)) (Rdr.p (newReader code)) 2)))], [(8, .box 1 [.int .i64 0, .nilsl]), (32, .box 1 [.data (.slice (.int .u8)) ((Rdr.b (newReader code)) : List Int), .int .i64 ((Rdr.p (newReader code)) + 1)])]⟩ [(0 ≤ (newReader code).p ∧ (newReader code).p ≤ 1099511627776), (-9223372036854775808 ≤ (1 + (pick (Rdr.b (newReader code)) (Rdr.p (newReader code)) 2)) ∧ (1 + (pick (Rdr.b (newReader code)) (Rdr.p (newReader code)) 2)) ≤ 9223372036854775807)] ?_ ?_)
 ·
  refine ⟨?_, ?_, trivial⟩
  ·
   omega
  ·
   omega
 refine AW.seq (AW.r0 hC [2, 4, 5, 6] [8, 24, 32] ⟨[(2, .ref 8 1 0), (4, .ref 32 1 0), (5, .int .i64 (1 + (pick (Rdr.b (newReader code)) (Rdr.p (newReader code)) 2))), (6, .ref 24 1 0)], [(8, .box 1 [.int .i64 0, .nilsl]), (24, .box 1 [.int .i64 (Tab.Width ((anyTable (Rdr.mk (Rdr.b (newReader code)) ((Rdr.p (newReader code)) + 1)) (1 + (pick (Rdr.b (newReader code)) (Rdr.p (newReader code)) 2)) 7).1)), .data (.slice (.slice (.named 1))) ((Tab.Rows ((anyTable (Rdr.mk (Rdr.b (newReader code)) ((Rdr.p (newReader code)) + 1)) (1 + (pick (Rdr.b (newReader code)) (Rdr.p (newReader code)) 2)) 7).1)) : List (List Val))]), (32, .box 1 [.data (.slice (.int .u8)) ((Rdr.b ((anyTable (Rdr.mk (Rdr.b (newReader code)) ((Rdr.p (newReader code)) + 1)) (1 + (pick (Rdr.b (newReader code)) (Rdr.p (newReader code)) 2)) 7).2)) : List Int), .int .i64 (Rdr.p ((anyTable (Rdr.mk (Rdr.b (newReader code)) ((Rdr.p (newReader code)) + 1)) (1 + (pick (Rdr.b (newReader code)) (Rdr.p (newReader code)) 2)) 7).2))])]⟩ [((0 ≤ (Rdr.mk (Rdr.b (newReader code)) ((Rdr.p (newReader code)) + 1)).p ∧ (Rdr.mk (Rdr.b (newReader code)) ((Rdr.p (newReader code)) + 1)).p ≤ 1000000000000) ∧ (1 ≤ (1 + (pick (Rdr.b (newReader code)) (Rdr.p (newReader code)) 2)) ∧ (1 + (pick (Rdr.b (newReader code)) (Rdr.p (newReader code)) 2)) ≤ 6) ∧ (0 ≤ (7 : Int) ∧ (7 : Int) ≤ 99))] ?_ ?_)
 ·
  refine ⟨?_, trivial⟩
  ·
   dsimp only; omega
 refine AW.seq (AW.d0 hC hM [2, 3] [8] ⟨[(2, .ref 8 1 0), (3, .int .i64 (one (Rdr.b ((anyTable (Rdr.mk (Rdr.b (newReader code)) ((Rdr.p (newReader code)) + 1)) (1 + (pick (Rdr.b (newReader code)) (Rdr.p (newReader code)) 2)) 7).2)) (Rdr.p ((anyTable (Rdr.mk (Rdr.b (newReader code)) ((Rdr.p (newReader code)) + 1)) (1 + (pick (Rdr.b (newReader code)) (Rdr.p (newReader code)) 2)) 7).2)) ([0, ((1 + (pick (Rdr.b (newReader code)) (Rdr.p (newReader code)) 2)) - 1), 0, (1 + (pick (Rdr.b (newReader code)) (Rdr.p (newReader code)) 2)), (-1)] : List Int)))], [(8, .box 1 [.int .i64 (Tab.Width ((anyTable (Rdr.mk (Rdr.b (newReader code)) ((Rdr.p (newReader code)) + 1)) (1 + (pick (Rdr.b (newReader code)) (Rdr.p (newReader code)) 2)) 7).1)), .data (.slice (.slice (.named 1))) ((Tab.Rows ((anyTable (Rdr.mk (Rdr.b (newReader code)) ((Rdr.p (newReader code)) + 1)) (1 + (pick (Rdr.b (newReader code)) (Rdr.p (newReader code)) 2)) 7).1)) : List (List Val))])]⟩ [(-9223372036854775808 ≤ ((1 + (pick (Rdr.b (newReader code)) (Rdr.p (newReader code)) 2)) - 1) ∧ ((1 + (pick (Rdr.b (newReader code)) (Rdr.p (newReader code)) 2)) - 1) ≤ 9223372036854775807), ((0 ≤ ((anyTable (Rdr.mk (Rdr.b (newReader code)) ((Rdr.p (newReader code)) + 1)) (1 + (pick (Rdr.b (newReader code)) (Rdr.p (newReader code)) 2)) 7).2).p ∧ ((anyTable (Rdr.mk (Rdr.b (newReader code)) ((Rdr.p (newReader code)) + 1)) (1 + (pick (Rdr.b (newReader code)) (Rdr.p (newReader code)) 2)) 7).2).p ≤ 1099511627775) ∧ 1 ≤ (List.length ([0, ((1 + (pick (Rdr.b (newReader code)) (Rdr.p (newReader code)) 2)) - 1), 0, (1 + (pick (Rdr.b (newReader code)) (Rdr.p (newReader code)) 2)), (-1)] : List Int) : Int))] ?_ ?_)
 ·
  refine ⟨?_, ?_, trivial⟩
  ·
   omega
  ·
   simp only [lens] at *; omega
 exact AW.ret (AW.retE (β := Tab × Int) (fun v => [⟨(.named 2), v.1⟩, ⟨(.int .i64), v.2⟩]) (fun v => []) (v := (((anyTable (Rdr.mk (Rdr.b (newReader code)) ((Rdr.p (newReader code)) + 1)) (1 + (pick (Rdr.b (newReader code)) (Rdr.p (newReader code)) 2)) 7).1), (one (Rdr.b ((anyTable (Rdr.mk (Rdr.b (newReader code)) ((Rdr.p (newReader code)) + 1)) (1 + (pick (Rdr.b (newReader code)) (Rdr.p (newReader code)) 2)) 7).2)) (Rdr.p ((anyTable (Rdr.mk (Rdr.b (newReader code)) ((Rdr.p (newReader code)) + 1)) (1 + (pick (Rdr.b (newReader code)) (Rdr.p (newReader code)) 2)) 7).2)) ([0, ((1 + (pick (Rdr.b (newReader code)) (Rdr.p (newReader code)) 2)) - 1), 0, (1 + (pick (Rdr.b (newReader code)) (Rdr.p (newReader code)) 2)), (-1)] : List Int)))) e0 (by kernel_rfl) rfl rfl)

end
end Go.Proofs.Ytjcjpeckfikfkaa
