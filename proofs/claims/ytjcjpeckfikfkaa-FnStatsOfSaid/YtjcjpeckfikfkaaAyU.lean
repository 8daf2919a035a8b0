/-
  A part of the proof of this claim (AyU): what functions of the program compute, and plain facts of that. No conditions.
-/
import Derived.Test.YtjcjpeckfikfkaaAyT
set_option linter.all false
namespace Go.Proofs.Ytjcjpeckfikfkaa
open Go Go.Am
open Go.Am.AW (seq r1U ret kpU cdE r0U r1 meet block rS bk exit lpB kp d0U)
open List (length getD)
noncomputable section

def eqInts_l0 (a : List Int) (b : List Int) : Nat → Nat → Unit ⊕ Bool
 | 0, i => .inl ()
 | k + 1, i => (bif (decide ((i : Int) < (length a : Int))) then (bif ((getD a i 0) != (getD b i 0)) then (.inr false) else (eqInts_l0 a b k (i + 1))) else (.inl ()))

def eqInts (a : List Int) (b : List Int) : Bool := (bif ((length a : Int) != (length b : Int)) then false else (Sum.elim (fun _ => true) (fun r => r) (eqInts_l0 a b ((length a) - 0 + 1) 0)))

def eqInts_sp : FnSpec := mkSpec [.val (.slice (.int .i64)), .val (.slice (.int .i64))] [.val .bool] (fun (a : List Int) (b : List Int) => True) (fun (a : List Int) (b : List Int) => [⟨.bool, (eqInts a b)⟩])

theorem eqInts_ok : FnOK Try.prog 41 eqInts_sp := by
 have hC : CtxOK Try.prog (mkCtx tyL []) := CtxOK.nil tyOK; have hM : Try.prog.follows .mixedOrders = true := Try.checked.mixed; refine FnOK.of_body Try.func41 (by kernel_rfl) rfl (C := (mkCtx tyL [])) hC.ty (by kernel_rfl) ?_; intro (a : List Int) (b : List Int) hwf hpre E; have hpre : True := hpre; have hw_a : Wf ⟨(.slice (.int .i64)), (a : List Int)⟩ := hwf _ (List.Mem.head _); have hl_a : (length a : Int) ≤ 9223372036854775807 := hw_a.len; have hw_b : Wf ⟨(.slice (.int .i64)), (b : List Int)⟩ := hwf _ (List.Mem.tail _ (List.Mem.head _)); have hl_b : (length b : Int) ≤ 9223372036854775807 := hw_b.len; have e0 : eqInts a b = eqInts a b := rfl; refine seq (r1U hC [0, 1] [] [] [] ?_); refine seq (seq (r1U hC [0, 1, 10] [] [(10, .bool ((length a : Int) != (length b : Int)))] [] ?_)); refine cdE e0 ?_ ?_
 · intro h1q e2; refine seq (r1 hC [4] [] ⟨[(4, .bool false)], []⟩ ?_); exact ret (rS .bool e2)
 ·
  intro h3q e4; refine kpU [0, 1] [] [] [] ?_; refine AW.skip (seq (seq (r1U hC [0, 1, 5] [] [(5, .int .i64 0)] [] ?_))); refine lpB (ζ := Unit) (fun x => ⟨[], []⟩) (fun x => True) (fun x => (.inl ())) (α := Nat) (fun x => ⟨[(0, .data (.slice (.int .i64)) (a : List Int)), (1, .data (.slice (.int .i64)) (b : List Int)), (5, .int .i64 (x : Int))], []⟩) (fun x => True) (fun x => (length a) - x) (fun k x => eqInts_l0 a b k x) 0 (by kernel_rfl) ?_ ?_ ?_
  · exact trivial
  ·
   intro i k34q hI0 hk32 e33; refine seq (seq (r1U hC [0, 1, 5, 14] [] [(14, .bool (decide ((i : Int) < (length a : Int))))] [] ?_)); refine cdE e33 ?_ ?_
   ·
    intro h35q e36; refine kpU [0, 1, 5] [] [] [] ?_; refine AW.skip (seq (block (seq (d0U hC hM [0, 1, 5, 25] [] [(25, .bool ((getD a i 0) != (getD b i 0)))] [] [(0 ≤ (i : Int) ∧ (i : Int) < (length a : Int)), (0 ≤ (i : Int) ∧ (i : Int) < (length b : Int))] ?_ ?_))))
    ·
     exact ⟨(by omega), (by omega), trivial⟩
    refine cdE e36 ?_ ?_
    · intro h37q e38; refine seq (r1 hC [4] [] ⟨[(4, .bool false)], []⟩ ?_); refine ret ?_; have e39 := e4.trans (elim_r e38); exact rS .bool e39
    ·
     intro h40q e41; refine kpU [0, 1, 5] [] [] [] ?_; refine AW.skip (r0U hC [0, 1, 5] [] [(5, .int .i64 ((i + 1 : Nat) : Int))] [] [(-9223372036854775808 ≤ ((i + 1 : Nat) : Int) ∧ ((i + 1 : Nat) : Int) ≤ 9223372036854775807)] ?_ ?_)
     ·
      exact ⟨(by omega), trivial⟩
     refine bk (i + 1) e41 hk32 ?_ ?_
     · assumption
     · omega
   · intro h42q e43; refine kp [] [] ⟨[], []⟩ ?_; refine exit ?_; refine meet () (by kernel_rfl) ⟨?_, e43⟩; assumption
  · intro x hJ0 e44; have e45 := e4.trans (elim_l e44); refine seq (r1 hC [4] [] ⟨[(4, .bool true)], []⟩ ?_); exact ret (rS .bool e45)

def iValidStats_l0 (s : Sta) (width : Int) : Nat → Nat → Unit ⊕ Bool
 | 0, v32 => .inl ()
 | k + 1, v32 => (bif (decide ((v32 : Int) < width)) then (bif (bif (decide ((getD (Sta.Nulls s) v32 0) < 0)) then true else (decide ((Sta.Rows s) < (getD (Sta.Nulls s) v32 0)))) then (.inr false) else (bif (bif (decide ((getD (Sta.Distinct s) v32 0) < 0)) then true else (decide (((Sta.Rows s) - (getD (Sta.Nulls s) v32 0)) < (getD (Sta.Distinct s) v32 0)))) then (.inr false) else (iValidStats_l0 s width k (v32 + 1)))) else (.inl ()))

def iValidStats (s : Sta) (width : Int) : Bool := (bif (bif (bif (!(validWidth width)) then true else (decide ((Sta.Rows s) < 0))) then true else (decide (400 < (Sta.Rows s)))) then false else (bif (bif ((length (Sta.Distinct s) : Int) != width) then true else ((length (Sta.Nulls s) : Int) != width)) then false else (Sum.elim (fun _ => true) (fun r => r) (iValidStats_l0 s width (Int.toNat (width - ((0 : Nat) : Int)) + 1) 0))))

def iValidStats_sp : FnSpec := mkSpec [.val (.named 4), .val (.int .i64)] [.val .bool] (fun (s : Sta) (width : Int) => True) (fun (s : Sta) (width : Int) => [⟨.bool, (iValidStats s width)⟩])

theorem iValidStats_ok : FnOK Try.prog 54 iValidStats_sp := by
 have hC : CtxOK Try.prog (mkCtx tyL [(60, validWidth_sp)]) := CtxOK.cons validWidth_ok (CtxOK.nil tyOK); have hM : Try.prog.follows .mixedOrders = true := Try.checked.mixed; refine FnOK.of_body Try.func54 (by kernel_rfl) rfl (C := (mkCtx tyL [(60, validWidth_sp)])) hC.ty (by kernel_rfl) ?_; intro (s : Sta) (width : Int) hwf hpre E; have hpre : True := hpre; have hw_s : Wf ⟨(.named 4), (s : Sta)⟩ := hwf _ (List.Mem.head _); have hr_s_Rows : -9223372036854775808 ≤ Sta.Rows s ∧ Sta.Rows s ≤ 9223372036854775807 := (hw_s.field (tv := ⟨(.int .i64), Sta.Rows s⟩) (List.Mem.head _)).int_inv; have hl_s_Distinct : (length (Sta.Distinct s) : Int) ≤ 9223372036854775807 := (hw_s.field (tv := ⟨(.slice (.int .i64)), Sta.Distinct s⟩) (List.Mem.tail _ (List.Mem.head _))).len; have hl_s_Nulls : (length (Sta.Nulls s) : Int) ≤ 9223372036854775807 := (hw_s.field (tv := ⟨(.slice (.int .i64)), Sta.Nulls s⟩) (List.Mem.tail _ (List.Mem.tail _ (List.Mem.head _)))).len; have hw_width : Wf ⟨(.int .i64), (width : Int)⟩ := hwf _ (List.Mem.tail _ (List.Mem.head _)); have hr_width : -9223372036854775808 ≤ width ∧ width ≤ 9223372036854775807 := hw_width.int_inv; have e0 : iValidStats s width = iValidStats s width := rfl; refine seq (r1U hC [1, 2] [8] [(2, .ref 8 1 0)] [(8, .box 1 [.int .i64 (Sta.Rows s), .data (.slice (.int .i64)) ((Sta.Distinct s) : List Int), .data (.slice (.int .i64)) ((Sta.Nulls s) : List Int)])] ?_); refine seq (seq (r0U hC [1, 2, 18] [8] [(18, .bool (bif (bif (!(validWidth width)) then true else (decide ((Sta.Rows s) < 0))) then true else (decide (400 < (Sta.Rows s)))))] [] [(True), (((!(validWidth width)) = false) → (((!(validWidth width)) = false))), (((!(validWidth width)) = false) → (((!(validWidth width)) = false))), (((!(validWidth width)) = false) → (((!(validWidth width)) = false))), (((bif (!(validWidth width)) then true else (decide ((Sta.Rows s) < 0))) = false) → (((bif (!(validWidth width)) then true else (decide ((Sta.Rows s) < 0))) = false))), (((bif (!(validWidth width)) then true else (decide ((Sta.Rows s) < 0))) = false) → (((bif (!(validWidth width)) then true else (decide ((Sta.Rows s) < 0))) = false))), (((bif (!(validWidth width)) then true else (decide ((Sta.Rows s) < 0))) = false) → (((bif (!(validWidth width)) then true else (decide ((Sta.Rows s) < 0))) = false)))] ?_ ?_))
 ·
  exact ⟨trivial, (by intro g1; assumption), (by intro g2; assumption), (by intro g3; assumption), (by intro g4; assumption), (by intro g5; assumption), (by intro g6; assumption), trivial⟩
 refine cdE e0 ?_ ?_
 · intro h7q e8; refine seq (r1 hC [4] [] ⟨[(4, .bool false)], []⟩ ?_); exact ret (rS .bool e8)
 ·
  intro h9q e10; refine kpU [1, 2] [8] [] [] ?_; refine AW.skip (seq (seq (r0U hC [1, 2, 30] [8] [(30, .bool (bif ((length (Sta.Distinct s) : Int) != width) then true else ((length (Sta.Nulls s) : Int) != width)))] [] [((((length (Sta.Distinct s) : Int) != width) = false) → ((((length (Sta.Distinct s) : Int) != width) = false))), ((((length (Sta.Distinct s) : Int) != width) = false) → ((((length (Sta.Distinct s) : Int) != width) = false))), ((((length (Sta.Distinct s) : Int) != width) = false) → ((((length (Sta.Distinct s) : Int) != width) = false))), ((((length (Sta.Distinct s) : Int) != width) = false) → ((((length (Sta.Distinct s) : Int) != width) = false))), ((((length (Sta.Distinct s) : Int) != width) = false) → ((((length (Sta.Distinct s) : Int) != width) = false)))] ?_ ?_)))
  ·
   exact ⟨(by intro g11; assumption), (by intro g12; assumption), (by intro g13; assumption), (by intro g14; assumption), (by intro g15; assumption), trivial⟩
  refine cdE e10 ?_ ?_
  · intro h16q e17; refine seq (r1 hC [4] [] ⟨[(4, .bool false)], []⟩ ?_); exact ret (rS .bool e17)
  ·
   intro h18q e19; refine kpU [1, 2] [8] [] [] ?_; refine AW.skip (seq (seq (r1U hC [2, 31, 32] [8] [(31, .int .i64 width), (32, .int .i64 0)] [] ?_))); refine lpB (ζ := Unit) (fun x => ⟨[], []⟩) (fun x => True) (fun x => (.inl ())) (α := Nat) (fun x => ⟨[(2, .ref 8 1 0), (31, .int .i64 width), (32, .int .i64 (x : Int))], [(8, .box 1 [.int .i64 (Sta.Rows s), .data (.slice (.int .i64)) ((Sta.Distinct s) : List Int), .data (.slice (.int .i64)) ((Sta.Nulls s) : List Int)])]⟩) (fun x => True) (fun x => Int.toNat (width - (x : Int))) (fun k x => iValidStats_l0 s width k x) 0 (by kernel_rfl) ?_ ?_ ?_
   · exact trivial
   ·
    intro v32 k64q hI0 hk62 e63; refine seq (r1U hC [2, 31, 32, 33] [8] [(33, .bool (decide ((v32 : Int) < width)))] [] ?_); refine seq (cdE e63 ?_ ?_)
    ·
     intro h65q e66; refine kpU [2, 31, 32] [8] [] [] ?_; refine AW.skip (seq (block (seq (r1U hC [2, 5, 31, 32] [8] [(5, .int .i64 (v32 : Int))] [] ?_)))); refine seq (seq (d0U hC hM [2, 5, 31, 32, 50] [8] [(50, .bool (bif (decide ((getD (Sta.Nulls s) v32 0) < 0)) then true else (decide ((Sta.Rows s) < (getD (Sta.Nulls s) v32 0)))))] [] [(0 ≤ (v32 : Int) ∧ (v32 : Int) < (length (Sta.Nulls s) : Int)), (((decide ((getD (Sta.Nulls s) v32 0) < 0)) = false) → (((decide ((getD (Sta.Nulls s) v32 0) < 0)) = false))), (((decide ((getD (Sta.Nulls s) v32 0) < 0)) = false) → (((decide ((getD (Sta.Nulls s) v32 0) < 0)) = false))), (((decide ((getD (Sta.Nulls s) v32 0) < 0)) = false) → (((decide ((getD (Sta.Nulls s) v32 0) < 0)) = false))), (((decide ((getD (Sta.Nulls s) v32 0) < 0)) = false) → (0 ≤ (v32 : Int) ∧ (v32 : Int) < (length (Sta.Nulls s) : Int))), (((decide ((getD (Sta.Nulls s) v32 0) < 0)) = false) → (((decide ((getD (Sta.Nulls s) v32 0) < 0)) = false))), (((decide ((getD (Sta.Nulls s) v32 0) < 0)) = false) → (((decide ((getD (Sta.Nulls s) v32 0) < 0)) = false))), (((decide ((getD (Sta.Nulls s) v32 0) < 0)) = false) → (((decide ((getD (Sta.Nulls s) v32 0) < 0)) = false))), (((decide ((getD (Sta.Nulls s) v32 0) < 0)) = false) → (((decide ((getD (Sta.Nulls s) v32 0) < 0)) = false))), (((decide ((getD (Sta.Nulls s) v32 0) < 0)) = false) → (((decide ((getD (Sta.Nulls s) v32 0) < 0)) = false)))] ?_ ?_))
     ·
      exact ⟨(by omega), (by intro g67; assumption), (by intro g68; assumption), (by intro g69; assumption), (by intro g70; omega), (by intro g71; assumption), (by intro g72; assumption), (by intro g73; assumption), (by intro g74; assumption), (by intro g75; assumption), trivial⟩
     refine cdE e66 ?_ ?_
     · intro h76q e77; refine seq (r1 hC [4] [] ⟨[(4, .bool false)], []⟩ ?_); refine ret ?_; have e78 := e19.trans (elim_r e77); exact rS .bool e78
     ·
      intro h79q e80; refine kpU [2, 5, 31, 32] [8] [] [] ?_; refine AW.skip (seq (d0U hC hM [2, 31, 32, 72] [8] [(72, .bool (bif (decide ((getD (Sta.Distinct s) v32 0) < 0)) then true else (decide (((Sta.Rows s) - (getD (Sta.Nulls s) v32 0)) < (getD (Sta.Distinct s) v32 0)))))] [] [(0 ≤ (v32 : Int) ∧ (v32 : Int) < (length (Sta.Distinct s) : Int)), (((decide ((getD (Sta.Distinct s) v32 0) < 0)) = false) → (((decide ((getD (Sta.Distinct s) v32 0) < 0)) = false))), (((decide ((getD (Sta.Distinct s) v32 0) < 0)) = false) → (((decide ((getD (Sta.Distinct s) v32 0) < 0)) = false))), (((decide ((getD (Sta.Distinct s) v32 0) < 0)) = false) → (((decide ((getD (Sta.Distinct s) v32 0) < 0)) = false))), (((decide ((getD (Sta.Distinct s) v32 0) < 0)) = false) → (0 ≤ (v32 : Int) ∧ (v32 : Int) < (length (Sta.Distinct s) : Int))), (((decide ((getD (Sta.Distinct s) v32 0) < 0)) = false) → (((decide ((getD (Sta.Distinct s) v32 0) < 0)) = false))), (((decide ((getD (Sta.Distinct s) v32 0) < 0)) = false) → (((decide ((getD (Sta.Distinct s) v32 0) < 0)) = false))), (((decide ((getD (Sta.Distinct s) v32 0) < 0)) = false) → (((decide ((getD (Sta.Distinct s) v32 0) < 0)) = false))), (((decide ((getD (Sta.Distinct s) v32 0) < 0)) = false) → (((decide ((getD (Sta.Distinct s) v32 0) < 0)) = false))), (((decide ((getD (Sta.Distinct s) v32 0) < 0)) = false) → (((decide ((getD (Sta.Distinct s) v32 0) < 0)) = false))), (((decide ((getD (Sta.Distinct s) v32 0) < 0)) = false) → (0 ≤ (v32 : Int) ∧ (v32 : Int) < (length (Sta.Nulls s) : Int))), (((decide ((getD (Sta.Distinct s) v32 0) < 0)) = false) → (((decide ((getD (Sta.Distinct s) v32 0) < 0)) = false))), (((decide ((getD (Sta.Distinct s) v32 0) < 0)) = false) → (((decide ((getD (Sta.Distinct s) v32 0) < 0)) = false))), (((decide ((getD (Sta.Distinct s) v32 0) < 0)) = false) → (((decide ((getD (Sta.Distinct s) v32 0) < 0)) = false))), (((decide ((getD (Sta.Distinct s) v32 0) < 0)) = false) → (-9223372036854775808 ≤ ((Sta.Rows s) - (getD (Sta.Nulls s) v32 0)) ∧ ((Sta.Rows s) - (getD (Sta.Nulls s) v32 0)) ≤ 9223372036854775807)), (((decide ((getD (Sta.Distinct s) v32 0) < 0)) = false) → (((decide ((getD (Sta.Distinct s) v32 0) < 0)) = false))), (((decide ((getD (Sta.Distinct s) v32 0) < 0)) = false) → (((decide ((getD (Sta.Distinct s) v32 0) < 0)) = false))), (((decide ((getD (Sta.Distinct s) v32 0) < 0)) = false) → (((decide ((getD (Sta.Distinct s) v32 0) < 0)) = false)))] ?_ ?_))
      ·
       exact ⟨(by omega), (by intro g81; assumption), (by intro g82; assumption), (by intro g83; assumption), (by intro g84; omega), (by intro g85; assumption), (by intro g86; assumption), (by intro g87; assumption), (by intro g88; assumption), (by intro g89; assumption), (by intro g90; omega), (by intro g91; assumption), (by intro g92; assumption), (by intro g93; assumption), (by intro g94; omega), (by intro g95; assumption), (by intro g96; assumption), (by intro g97; assumption), trivial⟩
      refine cdE e80 ?_ ?_
      · intro h98q e99; refine seq (r1 hC [4] [] ⟨[(4, .bool false)], []⟩ ?_); refine ret ?_; have e100 := e19.trans (elim_r e99); exact rS .bool e100
      ·
       intro h101q e102; refine kpU [2, 31, 32] [8] [] [] ?_; refine AW.skip (r0U hC [2, 31, 32] [8] [(32, .int .i64 ((v32 + 1 : Nat) : Int))] [] [(-9223372036854775808 ≤ ((v32 + 1 : Nat) : Int) ∧ ((v32 + 1 : Nat) : Int) ≤ 9223372036854775807)] ?_ ?_)
       ·
        exact ⟨(by omega), trivial⟩
       refine bk (v32 + 1) e102 hk62 ?_ ?_
       · assumption
       · omega
    · intro h103q e104; refine kp [] [] ⟨[], []⟩ ?_; refine exit ?_; refine meet () (by kernel_rfl) ⟨?_, e104⟩; assumption
   · intro x hJ0 e105; have e106 := e19.trans (elim_l e105); refine seq (r1 hC [4] [] ⟨[(4, .bool true)], []⟩ ?_); exact ret (rS .bool e106)

end
end Go.Proofs.Ytjcjpeckfikfkaa
