/-
  A part of the proof of this claim (Ad5): what functions of the program compute, and plain facts of that. No conditions.
-/
import Derived.Test.YtmijmkbnmcmgcaaAd4
set_option linter.all false
namespace Go.Proofs.Ytmijmkbnmcmgcaa
open Go Go.Am
noncomputable section

theorem pow32 {w : Int} (h : w ≤ 6) (h0 : 0 ≤ w) : (1 : Int) ≤ 1 * 2 ^ w.toNat ∧ (1 : Int) * 2 ^ w.toNat ≤ 64 := by
 have := pow64 h h0
 omega

def someDependencies_l0 (r : Rdr) : Nat → Int → Int → (List Dep) → Int × (List Dep)
 | 0, n, r1, out => (r1, out)
 | k + 1, n, r1, out => (bif (decide (0 < n)) then (someDependencies_l0 r k (n - 1) ((r1 + 1) + 1) (out ++ ([(Dep.mk (pick (Rdr.b r) r1 ((1 : Int) * 2 ^ (Int.toNat (1 + (pick (Rdr.b r) (Rdr.p r) 5))))) (pick (Rdr.b r) (r1 + 1) ((1 : Int) * 2 ^ (Int.toNat (1 + (pick (Rdr.b r) (Rdr.p r) 5))))))] : List Dep))) else (r1, out))

def someDependencies (r : Rdr) : (List Dep) × Int × Rdr := (Go.Am.andThen (someDependencies_l0 r (Int.toNat (pick (Rdr.b r) ((Rdr.p r) + 1) 6) + 1) (pick (Rdr.b r) ((Rdr.p r) + 1) 6) (((Rdr.p r) + 1) + 1) ([] : List Dep)) (fun z => (fun (r1 : Int) (out : List Dep) => (bif ((pick (Rdr.b r) r1 18) == 0) then (out, (one (Rdr.b r) (r1 + 1) ([0, 7, 1] : List Int)), (Rdr.mk (Rdr.b r) ((r1 + 1) + 1))) else (bif ((pick (Rdr.b r) r1 18) == 1) then ((out ++ ([(Dep.mk (-1) 1)] : List Dep)), (1 + (pick (Rdr.b r) (Rdr.p r) 5)), (Rdr.mk (Rdr.b r) (r1 + 1))) else (out, (1 + (pick (Rdr.b r) (Rdr.p r) 5)), (Rdr.mk (Rdr.b r) (r1 + 1)))))) z.1 z.2))

def someDependencies_sp : FnSpec := mkSpecB [.box 1] [.own (.named 0), .val (.int .i64)] (fun (r : Rdr) => 0 ≤ r.p ∧ r.p ≤ 1000000000000) (fun (r : Rdr) => [⟨(.slice (.named 0)), ((someDependencies r).1)⟩, ⟨(.int .i64), ((someDependencies r).2.1)⟩]) (fun (r : Rdr) => [⟨(.named 1), ((someDependencies r).2.2)⟩])

theorem someDependencies_ok : FnOK Try.prog 48 someDependencies_sp := by
 have hC : CtxOK Try.prog (mkCtx tyL [(49, pickS), (59, oneS)]) := CtxOK.cons pickS_ok (CtxOK.cons oneS_ok (CtxOK.nil tyOK))
 have hM : Try.prog.follows .mixedOrders = true := Try.checked.mixed
 refine FnOK.of_body Try.func48 (by kernel_rfl) rfl (C := (mkCtx tyL [(49, pickS), (59, oneS)])) hC.ty (by kernel_rfl) ?_
 intro (r : Rdr) hwf hpre E
 have hpre : 0 ≤ r.p ∧ r.p ≤ 1000000000000 := hpre
 have hw_r : Wf ⟨(.named 1), (r : Rdr)⟩ := hwf _ (List.Mem.head _)
 have hl_r_b : ((List.length (Rdr.b r) : Nat) : Int) ≤ 9223372036854775807 := (hw_r.field (tv := ⟨(.slice (.int .u8)), Rdr.b r⟩) (List.Mem.head _)).len
 have hr_r_p : -9223372036854775808 ≤ Rdr.p r ∧ Rdr.p r ≤ 9223372036854775807 := (hw_r.field (tv := ⟨(.int .i64), Rdr.p r⟩) (List.Mem.tail _ (List.Mem.head _))).int_inv
 have hw := pick_ok (n := 5) r.b r.p (by decide)
 have hn := pick_ok (n := 6) r.b (r.p + 1) (by decide)
 have hpw := pow32 (w := 1 + pick r.b r.p 5) (by omega) (by omega)
 have e0 : someDependencies r = someDependencies r := rfl
 refine AW.seq (AW.r1 hC [0] [0] ⟨[(0, .ref 0 0 0)], [(0, .box 0 [.data (.slice (.int .u8)) ((Rdr.b r) : List Int), .int .i64 (Rdr.p r)])]⟩ ?_)
 refine AW.seq (AW.r0 hC [0, 4] [0] ⟨[(0, .ref 0 0 0), (4, .int .i64 (1 + (pick (Rdr.b r) (Rdr.p r) 5)))], [(0, .box 0 [.data (.slice (.int .u8)) ((Rdr.b r) : List Int), .int .i64 ((Rdr.p r) + 1)])]⟩ [(0 ≤ r.p ∧ r.p ≤ 1099511627776), (-9223372036854775808 ≤ (1 + (pick (Rdr.b r) (Rdr.p r) 5)) ∧ (1 + (pick (Rdr.b r) (Rdr.p r) 5)) ≤ 9223372036854775807)] ?_ ?_)
 ·
  refine ⟨?_, ?_, trivial⟩
  ·
   omega
  ·
   omega
 refine AW.seq (AW.r1 hC [0, 4, 5] [0, 40] ⟨[(0, .ref 0 0 0), (4, .int .i64 (1 + (pick (Rdr.b r) (Rdr.p r) 5))), (5, .arr 40 1)], [(0, .box 0 [.data (.slice (.int .u8)) ((Rdr.b r) : List Int), .int .i64 ((Rdr.p r) + 1)]), (40, .arr 1 (.named 0) (([] : List Dep) : List Dep))]⟩ ?_)
 refine AW.seq (AW.seq (AW.r0 hC [0, 4, 5, 6] [0, 40] ⟨[(0, .ref 0 0 0), (4, .int .i64 (1 + (pick (Rdr.b r) (Rdr.p r) 5))), (5, .arr 40 1), (6, .int .i64 (pick (Rdr.b r) ((Rdr.p r) + 1) 6))], [(0, .box 0 [.data (.slice (.int .u8)) ((Rdr.b r) : List Int), .int .i64 (((Rdr.p r) + 1) + 1)]), (40, .arr 1 (.named 0) (([] : List Dep) : List Dep))]⟩ [(0 ≤ (Rdr.mk (Rdr.b r) ((Rdr.p r) + 1)).p ∧ (Rdr.mk (Rdr.b r) ((Rdr.p r) + 1)).p ≤ 1099511627776)] ?_ ?_))
 ·
  refine ⟨?_, trivial⟩
  ·
   dsimp only; omega
 refine AW.cutQ (α := Int × (List Dep)) (fun x => ⟨[(0, .ref 0 0 0), (4, .int .i64 (1 + (pick (Rdr.b r) (Rdr.p r) 5))), (5, .arr 40 1)], [(0, .box 0 [.data (.slice (.int .u8)) ((Rdr.b r) : List Int), .int .i64 x.1]), (40, .arr 1 (.named 0) (x.2 : List Dep))]⟩) (fun x => ((List.length x.2 : Int) ≤ 5 ∧ 0 ≤ x.1 ∧ x.1 ≤ r.p + 20) ∧ (someDependencies_l0 r (Int.toNat (pick (Rdr.b r) ((Rdr.p r) + 1) 6) + 1) (pick (Rdr.b r) ((Rdr.p r) + 1) 6) (((Rdr.p r) + 1) + 1) ([] : List Dep)) = x) ?_ ?_
 ·
  skip
  refine AW.block (AW.loop (α := Int × Int × (List Dep)) (fun x => ⟨[(0, .ref 0 0 0), (4, .int .i64 (1 + (pick (Rdr.b r) (Rdr.p r) 5))), (5, .arr 40 1), (6, .int .i64 x.1)], [(0, .box 0 [.data (.slice (.int .u8)) ((Rdr.b r) : List Int), .int .i64 x.2.1]), (40, .arr 1 (.named 0) (x.2.2 : List Dep))]⟩) (fun x => (((List.length x.2.2 : Int) + x.1 ≤ 5 ∧ 0 ≤ x.1) ∧ (0 ≤ x.2.1 ∧ x.2.1 + 2 * x.1 ≤ r.p + 20)) ∧ ∃ k, Int.toNat x.1 < k ∧ (someDependencies_l0 r (Int.toNat (pick (Rdr.b r) ((Rdr.p r) + 1) 6) + 1) (pick (Rdr.b r) ((Rdr.p r) + 1) 6) (((Rdr.p r) + 1) + 1) ([] : List Dep)) = someDependencies_l0 r k x.1 x.2.1 x.2.2) (fun x => Int.toNat x.1) ((pick (Rdr.b r) ((Rdr.p r) + 1) 6), (((Rdr.p r) + 1) + 1), ([] : List Dep)) (by kernel_rfl) ⟨?_, _, Nat.lt_succ_self _, rfl⟩ ?_)
  ·
   show ((List.length ([] : List Dep) : Int) + (pick (Rdr.b r) ((Rdr.p r) + 1) 6) ≤ 5 ∧ 0 ≤ (pick (Rdr.b r) ((Rdr.p r) + 1) 6)) ∧ (0 ≤ (((Rdr.p r) + 1) + 1) ∧ (((Rdr.p r) + 1) + 1) + 2 * (pick (Rdr.b r) ((Rdr.p r) + 1) 6) ≤ r.p + 20)
   exact ⟨by simp; omega, by omega⟩
  ·
   intro x hR
   obtain ⟨n, r1, out⟩ := x
   obtain ⟨hI0, k15, hk13, e14⟩ := hR
   replace hI0 : ((List.length out : Int) + n ≤ 5 ∧ 0 ≤ n) ∧ (0 ≤ r1 ∧ r1 + 2 * n ≤ r.p + 20) := hI0
   replace hk13 : Int.toNat n < k15 := hk13
   obtain ⟨k15q, rfl⟩ : ∃ k, k15 = k + 1 := ⟨k15 - 1, by omega⟩
   refine AW.seq (AW.seq (AW.r1 hC [0, 4, 5, 6, 14] [0, 40] ⟨[(0, .ref 0 0 0), (4, .int .i64 (1 + (pick (Rdr.b r) (Rdr.p r) 5))), (5, .arr 40 1), (6, .int .i64 n), (14, .bool (decide (0 < n)))], [(0, .box 0 [.data (.slice (.int .u8)) ((Rdr.b r) : List Int), .int .i64 r1]), (40, .arr 1 (.named 0) (out : List Dep))]⟩ ?_))
   refine AW.cd (decide (0 < n)) ?_ ?_
   ·
    intro h16
    have h16q : 0 < n := (of_decide_eq_true h16)
    have e17 := e14.trans (Go.Am.bif_t h16)
    refine AW.kp [0, 4, 5, 6] [0, 40] ⟨[(0, .ref 0 0 0), (4, .int .i64 (1 + (pick (Rdr.b r) (Rdr.p r) 5))), (5, .arr 40 1), (6, .int .i64 n)], [(0, .box 0 [.data (.slice (.int .u8)) ((Rdr.b r) : List Int), .int .i64 r1]), (40, .arr 1 (.named 0) (out : List Dep))]⟩ ?_
    refine AW.skip (AW.seq (AW.block (AW.d0 hC hM [0, 4, 5, 6] [0, 40] ⟨[(0, .ref 0 0 0), (4, .int .i64 (1 + (pick (Rdr.b r) (Rdr.p r) 5))), (5, .arr 40 1), (6, .int .i64 n)], [(0, .box 0 [.data (.slice (.int .u8)) ((Rdr.b r) : List Int), .int .i64 ((r1 + 1) + 1)]), (40, .arr 1 (.named 0) ((out ++ ([(Dep.mk (pick (Rdr.b r) r1 ((1 : Int) * 2 ^ (Int.toNat (1 + (pick (Rdr.b r) (Rdr.p r) 5))))) (pick (Rdr.b r) (r1 + 1) ((1 : Int) * 2 ^ (Int.toNat (1 + (pick (Rdr.b r) (Rdr.p r) 5))))))] : List Dep)) : List Dep))]⟩ [(0 ≤ (1 + (pick (Rdr.b r) (Rdr.p r) 5)) ∧ (1 + (pick (Rdr.b r) (Rdr.p r) 5)) ≤ 64), (-9223372036854775808 ≤ ((1 : Int) * 2 ^ (Int.toNat (1 + (pick (Rdr.b r) (Rdr.p r) 5)))) ∧ ((1 : Int) * 2 ^ (Int.toNat (1 + (pick (Rdr.b r) (Rdr.p r) 5)))) ≤ 9223372036854775807), (0 ≤ (Rdr.mk (Rdr.b r) r1).p ∧ (Rdr.mk (Rdr.b r) r1).p ≤ 1099511627776), (0 ≤ (1 + (pick (Rdr.b r) (Rdr.p r) 5)) ∧ (1 + (pick (Rdr.b r) (Rdr.p r) 5)) ≤ 64), (-9223372036854775808 ≤ ((1 : Int) * 2 ^ (Int.toNat (1 + (pick (Rdr.b r) (Rdr.p r) 5)))) ∧ ((1 : Int) * 2 ^ (Int.toNat (1 + (pick (Rdr.b r) (Rdr.p r) 5)))) ≤ 9223372036854775807), (0 ≤ (Rdr.mk (Rdr.b r) (r1 + 1)).p ∧ (Rdr.mk (Rdr.b r) (r1 + 1)).p ≤ 1099511627776), (((List.length out : Nat) : Int) + ((List.length ([(Dep.mk (pick (Rdr.b r) r1 ((1 : Int) * 2 ^ (Int.toNat (1 + (pick (Rdr.b r) (Rdr.p r) 5))))) (pick (Rdr.b r) (r1 + 1) ((1 : Int) * 2 ^ (Int.toNat (1 + (pick (Rdr.b r) (Rdr.p r) 5))))))] : List Dep) : Nat) : Int) ≤ 4294967296)] ?_ ?_)))
    ·
     refine ⟨?_, ?_, ?_, ?_, ?_, ?_, ?_, trivial⟩
     ·
      omega
     ·
      omega
     ·
      dsimp only; omega
     ·
      omega
     ·
      omega
     ·
      dsimp only; omega
     ·
      simp only [lens] at *; omega
    refine AW.r0 hC [0, 4, 5, 6] [0, 40] ⟨[(0, .ref 0 0 0), (4, .int .i64 (1 + (pick (Rdr.b r) (Rdr.p r) 5))), (5, .arr 40 1), (6, .int .i64 (n - 1))], [(0, .box 0 [.data (.slice (.int .u8)) ((Rdr.b r) : List Int), .int .i64 ((r1 + 1) + 1)]), (40, .arr 1 (.named 0) ((out ++ ([(Dep.mk (pick (Rdr.b r) r1 ((1 : Int) * 2 ^ (Int.toNat (1 + (pick (Rdr.b r) (Rdr.p r) 5))))) (pick (Rdr.b r) (r1 + 1) ((1 : Int) * 2 ^ (Int.toNat (1 + (pick (Rdr.b r) (Rdr.p r) 5))))))] : List Dep)) : List Dep))]⟩ [(-9223372036854775808 ≤ (n - 1) ∧ (n - 1) ≤ 9223372036854775807)] ?_ ?_
    ·
     refine ⟨?_, trivial⟩
     ·
      omega
    refine AW.back (x := (n, r1, out)) ((n - 1), ((r1 + 1) + 1), (out ++ ([(Dep.mk (pick (Rdr.b r) r1 ((1 : Int) * 2 ^ (Int.toNat (1 + (pick (Rdr.b r) (Rdr.p r) 5))))) (pick (Rdr.b r) (r1 + 1) ((1 : Int) * 2 ^ (Int.toNat (1 + (pick (Rdr.b r) (Rdr.p r) 5))))))] : List Dep))) (by kernel_rfl) ⟨?_, k15q, ?_, e17⟩ ?_
    ·
     show ((List.length (out ++ ([(Dep.mk (pick (Rdr.b r) r1 ((1 : Int) * 2 ^ (Int.toNat (1 + (pick (Rdr.b r) (Rdr.p r) 5))))) (pick (Rdr.b r) (r1 + 1) ((1 : Int) * 2 ^ (Int.toNat (1 + (pick (Rdr.b r) (Rdr.p r) 5))))))] : List Dep)) : Int) + (n - 1) ≤ 5 ∧ 0 ≤ (n - 1)) ∧ (0 ≤ ((r1 + 1) + 1) ∧ ((r1 + 1) + 1) + 2 * (n - 1) ≤ r.p + 20)
     refine ⟨?_, ?_⟩ <;> first | omega | (simp only [lens] at *; omega)
    ·
     show Int.toNat (n - 1) < k15q
     omega
    ·
     show Int.toNat (n - 1) < Int.toNat n
     omega
   ·
    intro h18
    have h18q : ¬ (0 < n) := (of_decide_eq_false h18)
    have e19 := e14.trans (Go.Am.bif_f h18)
    refine AW.kp [0, 4, 5] [0, 40] ⟨[(0, .ref 0 0 0), (4, .int .i64 (1 + (pick (Rdr.b r) (Rdr.p r) 5))), (5, .arr 40 1)], [(0, .box 0 [.data (.slice (.int .u8)) ((Rdr.b r) : List Int), .int .i64 r1]), (40, .arr 1 (.named 0) (out : List Dep))]⟩ ?_
    refine AW.exit ?_
    refine AW.meet (r1, out) (by kernel_rfl) ⟨?_, e19⟩
    show (List.length out : Int) ≤ 5 ∧ 0 ≤ r1 ∧ r1 ≤ r.p + 20
    exact ⟨by omega, by omega, by omega⟩
 ·
  intro x hR
  obtain ⟨r1, out⟩ := x
  obtain ⟨hJ0, e20⟩ := hR
  replace hJ0 : (List.length out : Int) ≤ 5 ∧ 0 ≤ r1 ∧ r1 ≤ r.p + 20 := hJ0
  have e21 := e0.trans (Go.Am.then_eq e20)
  refine AW.seq (AW.seq (AW.r0 hC [0, 4, 5, 30] [0, 40] ⟨[(0, .ref 0 0 0), (4, .int .i64 (1 + (pick (Rdr.b r) (Rdr.p r) 5))), (5, .arr 40 1), (30, .int .i64 (pick (Rdr.b r) r1 18))], [(0, .box 0 [.data (.slice (.int .u8)) ((Rdr.b r) : List Int), .int .i64 (r1 + 1)]), (40, .arr 1 (.named 0) (out : List Dep))]⟩ [(0 ≤ (Rdr.mk (Rdr.b r) r1).p ∧ (Rdr.mk (Rdr.b r) r1).p ≤ 1099511627776)] ?_ ?_))
  ·
   refine ⟨?_, trivial⟩
   ·
    dsimp only; omega
  refine AW.block (AW.seq (AW.r1 hC [0, 4, 5, 30, 31] [0, 40] ⟨[(0, .ref 0 0 0), (4, .int .i64 (1 + (pick (Rdr.b r) (Rdr.p r) 5))), (5, .arr 40 1), (30, .int .i64 (pick (Rdr.b r) r1 18)), (31, .bool ((pick (Rdr.b r) r1 18) == 0))], [(0, .box 0 [.data (.slice (.int .u8)) ((Rdr.b r) : List Int), .int .i64 (r1 + 1)]), (40, .arr 1 (.named 0) (out : List Dep))]⟩ ?_))
  refine AW.cd ((pick (Rdr.b r) r1 18) == 0) ?_ ?_
  ·
   intro h22
   have h22q : (pick (Rdr.b r) r1 18) = 0 := (Go.Am.beq_pos h22)
   have e23 := e21.trans (Go.Am.bif_t h22)
   refine AW.seq (AW.r0 hC [2, 3] [0, 40] ⟨[(2, .arr 40 1), (3, .int .i64 (one (Rdr.b r) (r1 + 1) ([0, 7, 1] : List Int)))], [(0, .box 0 [.data (.slice (.int .u8)) ((Rdr.b r) : List Int), .int .i64 ((r1 + 1) + 1)]), (40, .arr 1 (.named 0) (out : List Dep))]⟩ [((0 ≤ (Rdr.mk (Rdr.b r) (r1 + 1)).p ∧ (Rdr.mk (Rdr.b r) (r1 + 1)).p ≤ 1099511627775) ∧ 1 ≤ (List.length ([0, 7, 1] : List Int) : Int))] ?_ ?_)
   ·
    refine ⟨?_, trivial⟩
    ·
     refine ⟨?_, ?_⟩ <;> (try dsimp only) <;> first | omega | decide
   exact AW.ret (AW.retE (β := (List Dep) × Int × Rdr) (fun v => [⟨(.slice (.named 0)), v.1⟩, ⟨(.int .i64), v.2.1⟩]) (fun v => [⟨(.named 1), v.2.2⟩]) (v := (out, (one (Rdr.b r) (r1 + 1) ([0, 7, 1] : List Int)), (Rdr.mk (Rdr.b r) ((r1 + 1) + 1)))) e23 (by kernel_rfl) rfl rfl)
  ·
   intro h24
   have h24q : (pick (Rdr.b r) r1 18) ≠ 0 := (Go.Am.beq_neg h24)
   have e25 := e21.trans (Go.Am.bif_f h24)
   refine AW.seq (AW.r1 hC [4, 5, 37] [0, 40] ⟨[(4, .int .i64 (1 + (pick (Rdr.b r) (Rdr.p r) 5))), (5, .arr 40 1), (37, .bool ((pick (Rdr.b r) r1 18) == 1))], [(0, .box 0 [.data (.slice (.int .u8)) ((Rdr.b r) : List Int), .int .i64 (r1 + 1)]), (40, .arr 1 (.named 0) (out : List Dep))]⟩ ?_)
   refine AW.cd ((pick (Rdr.b r) r1 18) == 1) ?_ ?_
   ·
    intro h26
    have h26q : (pick (Rdr.b r) r1 18) = 1 := (Go.Am.beq_pos h26)
    have e27 := e25.trans (Go.Am.bif_t h26)
    refine AW.seq (AW.r0 hC [2, 3] [0, 40] ⟨[(2, .arr 40 1), (3, .int .i64 (1 + (pick (Rdr.b r) (Rdr.p r) 5)))], [(0, .box 0 [.data (.slice (.int .u8)) ((Rdr.b r) : List Int), .int .i64 (r1 + 1)]), (40, .arr 1 (.named 0) ((out ++ ([(Dep.mk (-1) 1)] : List Dep)) : List Dep))]⟩ [(((List.length out : Nat) : Int) + ((List.length ([(Dep.mk (-1) 1)] : List Dep) : Nat) : Int) ≤ 4294967296)] ?_ ?_)
    ·
     refine ⟨?_, trivial⟩
     ·
      simp only [lens] at *; omega
    exact AW.ret (AW.retE (β := (List Dep) × Int × Rdr) (fun v => [⟨(.slice (.named 0)), v.1⟩, ⟨(.int .i64), v.2.1⟩]) (fun v => [⟨(.named 1), v.2.2⟩]) (v := ((out ++ ([(Dep.mk (-1) 1)] : List Dep)), (1 + (pick (Rdr.b r) (Rdr.p r) 5)), (Rdr.mk (Rdr.b r) (r1 + 1)))) e27 (by kernel_rfl) rfl rfl)
   ·
    intro h28
    have h28q : (pick (Rdr.b r) r1 18) ≠ 1 := (Go.Am.beq_neg h28)
    have e29 := e25.trans (Go.Am.bif_f h28)
    refine AW.kp [4, 5] [0, 40] ⟨[(4, .int .i64 (1 + (pick (Rdr.b r) (Rdr.p r) 5))), (5, .arr 40 1)], [(0, .box 0 [.data (.slice (.int .u8)) ((Rdr.b r) : List Int), .int .i64 (r1 + 1)]), (40, .arr 1 (.named 0) (out : List Dep))]⟩ ?_
    refine AW.skip (AW.seq (AW.r1 hC [2, 3] [0, 40] ⟨[(2, .arr 40 1), (3, .int .i64 (1 + (pick (Rdr.b r) (Rdr.p r) 5)))], [(0, .box 0 [.data (.slice (.int .u8)) ((Rdr.b r) : List Int), .int .i64 (r1 + 1)]), (40, .arr 1 (.named 0) (out : List Dep))]⟩ ?_))
    exact AW.ret (AW.retE (β := (List Dep) × Int × Rdr) (fun v => [⟨(.slice (.named 0)), v.1⟩, ⟨(.int .i64), v.2.1⟩]) (fun v => [⟨(.named 1), v.2.2⟩]) (v := (out, (1 + (pick (Rdr.b r) (Rdr.p r) 5)), (Rdr.mk (Rdr.b r) (r1 + 1)))) e29 (by kernel_rfl) rfl rfl)

theorem someDependencies_l0_p (r : Rdr) : ∀ (k : Nat) (n p : Int) (out : List Dep), 0 ≤ n → p ≤ (someDependencies_l0 r k n p out).1 ∧ (someDependencies_l0 r k n p out).1 ≤ p + 2 * n := by
 intro k
 induction k with
 | zero => intro n p out h; exact ⟨Int.le_refl _, by show p ≤ p + 2 * n; omega⟩
 | succ k ih =>
  intro n p out h
  unfold someDependencies_l0
  by_cases hn : 0 < n
  ·
   rw [decide_eq_true hn]
   have := ih (n - 1) (p + 1 + 1) (out ++ [Dep.mk (pick (Rdr.b r) p ((1 : Int) * 2 ^ (Int.toNat (1 + (pick (Rdr.b r) (Rdr.p r) 5))))) (pick (Rdr.b r) (p + 1) ((1 : Int) * 2 ^ (Int.toNat (1 + (pick (Rdr.b r) (Rdr.p r) 5)))))]) (by omega)
   simp only [cond_true]
   omega
  ·
   rw [decide_eq_false hn]
   simp only [cond_false]
   omega

theorem someDependencies_p (r : Rdr) : r.p ≤ (someDependencies r).2.2.p ∧ (someDependencies r).2.2.p ≤ r.p + 20 := by
 have hn := pick_ok (n := 6) r.b (r.p + 1) (by decide)
 have h := someDependencies_l0_p r (Int.toNat (pick (Rdr.b r) ((Rdr.p r) + 1) 6) + 1) (pick (Rdr.b r) ((Rdr.p r) + 1) 6) (((Rdr.p r) + 1) + 1) [] hn.1
 dsimp only [someDependencies, Go.Am.andThen]
 cases (pick (Rdr.b r) (someDependencies_l0 r (Int.toNat (pick (Rdr.b r) ((Rdr.p r) + 1) 6) + 1) (pick (Rdr.b r) ((Rdr.p r) + 1) 6) (((Rdr.p r) + 1) + 1) []).1 18 == 0) with
 | true => simp only [cond_true]; omega
 | false =>
  cases (pick (Rdr.b r) (someDependencies_l0 r (Int.toNat (pick (Rdr.b r) ((Rdr.p r) + 1) 6) + 1) (pick (Rdr.b r) ((Rdr.p r) + 1) 6) (((Rdr.p r) + 1) + 1) []).1 18 == 1) with
  | true => simp only [cond_true, cond_false]; omega
  | false => simp only [cond_false]; omega

end
end Go.Proofs.Ytmijmkbnmcmgcaa
