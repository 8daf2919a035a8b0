/-
  A part of the proof of this claim (Ao7): what functions of the program compute, and plain facts of that. No conditions.
-/
import Derived.Test.YtclennmbceaoeaaAo6
set_option linter.all false
namespace Go.Proofs.Ytclennmbceaoeaa
open Go Go.Am
noncomputable section

theorem mod_ok {k L : Int} (h : 0 < L) : 0 ≤ k % L ∧ k % L < L := ⟨Int.emod_nonneg _ (by omega), Int.emod_lt_of_pos _ h⟩

theorem xor_nonneg {a b : Int} (ha : 0 ≤ a) (ha' : a < 4611686018427387904) (hb : 0 ≤ b) (hb' : b < 4611686018427387904) : 0 ≤ bits .xor .i64 a b := by
 obtain ⟨n, rfl⟩ := Int.eq_ofNat_of_zero_le ha; obtain ⟨m, rfl⟩ := Int.eq_ofNat_of_zero_le hb; have h := Nat.xor_lt_two_pow (x := n) (y := m) (n := 62) (by omega) (by omega)
 have e : (BitVec.ofInt 64 ((n : Nat) : Int) ^^^ BitVec.ofInt 64 ((m : Nat) : Int)).toNat = n ^^^ m := by
  rw [BitVec.toNat_xor, BitVec.ofInt_natCast, BitVec.ofInt_natCast, BitVec.toNat_ofNat, BitVec.toNat_ofNat, Nat.mod_eq_of_lt (by omega), Nat.mod_eq_of_lt (by omega)]
 have : bits .xor .i64 ((n : Nat) : Int) ((m : Nat) : Int) = IntKind.i64.wrap (((n ^^^ m : Nat)) : Int) := by
  rw [← e]; rfl
 rw [this, IntKind.wrap_i64]; omega

def newReader (code : List Int) : Rdr := (bif (decide (2000 < ((List.length code : Nat) : Int))) then (Rdr.mk (List.take 2000 code) 0) else (Rdr.mk code 0))

def newReader_sp : FnSpec := mkSpec [.val (.slice (.int .u8))] [.ptr 2] (fun (code : List Int) => True) (fun (code : List Int) => [⟨(.named 2), (newReader code)⟩])

theorem newReader_ok : FnOK Try.prog 18 newReader_sp := by
 have hC : CtxOK Try.prog (mkCtx tyL []) := CtxOK.nil tyOK; refine FnOK.of_body Try.func18 (by kernel_rfl) rfl (C := (mkCtx tyL [])) hC.ty (by kernel_rfl) ?_; intro (code : List Int) hwf hpre E; have hpre : True := hpre; have hw_code : Wf ⟨(.slice (.int .u8)), (code : List Int)⟩ := hwf _ (List.Mem.head _); have hl_code : ((List.length code : Nat) : Int) ≤ 9223372036854775807 := hw_code.len; have e0 : newReader code = newReader code := rfl; refine AW.seq (AW.r1U hC [0] [] [] [] ?_); refine AW.seq (AW.seq (AW.r1U hC [0, 5] [] [(5, .bool (decide (2000 < ((List.length code : Nat) : Int))))] [] ?_)); refine AW.cdE e0 ?_ ?_
 ·
  intro h1q e2; refine AW.r0 hC [0] [] ⟨[(0, .data (.slice (.int .u8)) ((List.take 2000 code) : List Int))], []⟩ [(0 ≤ (2000 : Int) ∧ (2000 : Int) ≤ ((List.length code : Nat) : Int))] ?_ ?_
  ·
   refine ⟨?_, trivial⟩
   · first | (omega) | ((dsimp only; omega)) | ((simp only [lens] at *; omega))
  refine AW.seq (AW.r1 hC [2] [40] ⟨[(2, .ref 40 1 0)], [(40, .box 1 [.data (.slice (.int .u8)) ((List.take 2000 code) : List Int), .int .i64 0])]⟩ ?_); exact AW.ret (AW.retE (β := Rdr) (fun v => [⟨(.named 2), v⟩]) (fun v => []) (v := (Rdr.mk (List.take 2000 code) 0)) e2 (by kernel_rfl) rfl rfl)
 · intro h3q e4; refine AW.kpU [0] [] [] [] ?_; refine AW.skip (AW.seq (AW.r1 hC [2] [40] ⟨[(2, .ref 40 1 0)], [(40, .box 1 [.data (.slice (.int .u8)) (code : List Int), .int .i64 0])]⟩ ?_)); exact AW.ret (AW.retE (β := Rdr) (fun v => [⟨(.named 2), v⟩]) (fun v => []) (v := (Rdr.mk code 0)) e4 (by kernel_rfl) rfl rfl)

theorem newReader_p (code : List Int) : (newReader code).p = 0 := by
 unfold newReader; cases (decide (2000 < ((List.length code : Nat) : Int))) <;> rfl

def pickR (r : Rdr) (n : Int) : Int × Rdr := (bif (bif (decide (n < 1)) then true else (((List.length (Rdr.b r) : Nat) : Int) == 0)) then (0, (Rdr.mk (Rdr.b r) ((Rdr.p r) + 1))) else (bif (decide ((((Rdr.p r) + 1) - 1) < ((List.length (Rdr.b r) : Nat) : Int))) then (((List.getD (Rdr.b r) (Int.toNat (((Rdr.p r) + 1) - 1)) 0) % n), (Rdr.mk (Rdr.b r) ((Rdr.p r) + 1))) else (((bits .xor .i64 (((((List.getD (Rdr.b r) (Int.toNat ((((Rdr.p r) + 1) - 1) % ((List.length (Rdr.b r) : Nat) : Int))) 0) * 131) + ((List.getD (Rdr.b r) (Int.toNat ((((((Rdr.p r) + 1) - 1) * 7) + 3) % ((List.length (Rdr.b r) : Nat) : Int))) 0) * 1117)) + ((((Rdr.p r) + 1) - 1) * 29)) + (((((Rdr.p r) + 1) - 1) / ((List.length (Rdr.b r) : Nat) : Int)) * 53)) ((((((List.getD (Rdr.b r) (Int.toNat ((((Rdr.p r) + 1) - 1) % ((List.length (Rdr.b r) : Nat) : Int))) 0) * 131) + ((List.getD (Rdr.b r) (Int.toNat ((((((Rdr.p r) + 1) - 1) * 7) + 3) % ((List.length (Rdr.b r) : Nat) : Int))) 0) * 1117)) + ((((Rdr.p r) + 1) - 1) * 29)) + (((((Rdr.p r) + 1) - 1) / ((List.length (Rdr.b r) : Nat) : Int)) * 53)) / 64)) % n), (Rdr.mk (Rdr.b r) ((Rdr.p r) + 1)))))

def pickR_sp : FnSpec := mkSpecB [.box 2, .val (.int .i64)] [.val (.int .i64)] (fun (r : Rdr) (n : Int) => 0 ≤ r.p ∧ r.p ≤ 1099511627776) (fun (r : Rdr) (n : Int) => [⟨(.int .i64), ((pickR r n).1)⟩]) (fun (r : Rdr) (n : Int) => [⟨(.named 2), ((pickR r n).2)⟩])

theorem pickR_ok : FnOK Try.prog 37 pickR_sp := by
 have hC : CtxOK Try.prog (mkCtx tyL []) := CtxOK.nil tyOK; have hM : Try.prog.follows .mixedOrders = true := Try.checked.mixed; refine FnOK.of_body Try.func37 (by kernel_rfl) rfl (C := (mkCtx tyL [])) hC.ty (by kernel_rfl) ?_; intro (r : Rdr) (n : Int) hwf hpre E; have hpre : 0 ≤ r.p ∧ r.p ≤ 1099511627776 := hpre; have hw_r : Wf ⟨(.named 2), (r : Rdr)⟩ := hwf _ (List.Mem.head _); have hl_r_b : ((List.length (Rdr.b r) : Nat) : Int) ≤ 9223372036854775807 := (hw_r.field (tv := ⟨(.slice (.int .u8)), Rdr.b r⟩) (List.Mem.head _)).len; have hr_r_p : -9223372036854775808 ≤ Rdr.p r ∧ Rdr.p r ≤ 9223372036854775807 := (hw_r.field (tv := ⟨(.int .i64), Rdr.p r⟩) (List.Mem.tail _ (List.Mem.head _))).int_inv; have hw_n : Wf ⟨(.int .i64), (n : Int)⟩ := hwf _ (List.Mem.tail _ (List.Mem.head _)); have hr_n : -9223372036854775808 ≤ n ∧ n ≤ 9223372036854775807 := hw_n.int_inv; have hb : ∀ x ∈ r.b, 0 ≤ x ∧ x ≤ 255 := fun x hx => ((hw_r.field (tv := ⟨.slice (.int .u8), r.b⟩) (List.Mem.head _)).elem hx).int_inv; have hlb : ((List.length r.b : Nat) : Int) ≤ 9223372036854775807 := (hw_r.field (tv := ⟨.slice (.int .u8), r.b⟩) (List.Mem.head _)).len
 have hbD : ∀ i : Nat, 0 ≤ List.getD r.b i 0 ∧ List.getD r.b i 0 ≤ 255 := by
  intro i; by_cases hi : i < r.b.length
  · exact hb _ (getD_mem r.b i 0 hi)
  · rw [List.getD_eq_getElem?_getD, List.getElem?_eq_none (by omega)]; simp
 have hdiv : 0 < ((List.length r.b : Nat) : Int) → 0 ≤ (r.p + 1 - 1) / ((List.length r.b : Nat) : Int) ∧ (r.p + 1 - 1) / ((List.length r.b : Nat) : Int) ≤ r.p := fun h => ⟨Int.ediv_nonneg (by omega) (by omega), Int.le_trans (Int.ediv_le_self _ (by omega)) (by omega)⟩
 have hx : 0 < ((List.length r.b : Nat) : Int) → 0 ≤ (((((List.getD r.b (Int.toNat ((r.p + 1 - 1) % ((List.length r.b : Nat) : Int))) 0) * 131) + ((List.getD r.b (Int.toNat (((r.p + 1 - 1) * 7 + 3) % ((List.length r.b : Nat) : Int))) 0) * 1117)) + ((r.p + 1 - 1) * 29)) + (((r.p + 1 - 1) / ((List.length r.b : Nat) : Int)) * 53)) ∧ (((((List.getD r.b (Int.toNat ((r.p + 1 - 1) % ((List.length r.b : Nat) : Int))) 0) * 131) + ((List.getD r.b (Int.toNat (((r.p + 1 - 1) * 7 + 3) % ((List.length r.b : Nat) : Int))) 0) * 1117)) + ((r.p + 1 - 1) * 29)) + (((r.p + 1 - 1) / ((List.length r.b : Nat) : Int)) * 53)) < 140737488355328 := by
  intro h; have a1 := hbD (Int.toNat ((r.p + 1 - 1) % ((List.length r.b : Nat) : Int))); have a2 := hbD (Int.toNat (((r.p + 1 - 1) * 7 + 3) % ((List.length r.b : Nat) : Int))); have a3 := hdiv h; omega
 have e0 : pickR r n = pickR r n := rfl; refine AW.seq (AW.r1U hC [0, 1] [0] [] [] ?_); refine AW.seq (AW.r0U hC [0, 1] [0] [] [(0, .box 0 [.data (.slice (.int .u8)) ((Rdr.b r) : List Int), .int .i64 ((Rdr.p r) + 1)])] [(-9223372036854775808 ≤ ((Rdr.p r) + 1) ∧ ((Rdr.p r) + 1) ≤ 9223372036854775807)] ?_ ?_)
 ·
  refine ⟨?_, trivial⟩
  · first | (omega) | ((dsimp only; omega)) | ((simp only [lens] at *; omega))
 refine AW.seq (AW.seq (AW.r0U hC [0, 1, 24] [0] [(24, .bool (bif (decide (n < 1)) then true else (((List.length (Rdr.b r) : Nat) : Int) == 0)))] [] [(((decide (n < 1)) = false) → (((decide (n < 1)) = false))), (((decide (n < 1)) = false) → (((decide (n < 1)) = false))), (((decide (n < 1)) = false) → (((decide (n < 1)) = false))), (((decide (n < 1)) = false) → (((decide (n < 1)) = false))), (((decide (n < 1)) = false) → (((decide (n < 1)) = false))), (((decide (n < 1)) = false) → (((decide (n < 1)) = false)))] ?_ ?_))
 ·
  refine ⟨?_, ?_, ?_, ?_, ?_, ?_, trivial⟩
  · first | (intro g1; assumption) | (intro g1; exact ⟨by assumption, by assumption⟩) | (intro g1; (have g1p0 : ¬ (n < 1) := (of_decide_eq_false g1)); assumption) | (intro g1; (have g1p0 : ¬ (n < 1) := (of_decide_eq_false g1)); exact ⟨by assumption, by assumption⟩)
  · first | (intro g2; assumption) | (intro g2; exact ⟨by assumption, by assumption⟩) | (intro g2; (have g2p0 : ¬ (n < 1) := (of_decide_eq_false g2)); assumption) | (intro g2; (have g2p0 : ¬ (n < 1) := (of_decide_eq_false g2)); exact ⟨by assumption, by assumption⟩)
  · first | (intro g3; assumption) | (intro g3; exact ⟨by assumption, by assumption⟩) | (intro g3; (have g3p0 : ¬ (n < 1) := (of_decide_eq_false g3)); assumption) | (intro g3; (have g3p0 : ¬ (n < 1) := (of_decide_eq_false g3)); exact ⟨by assumption, by assumption⟩)
  · first | (intro g4; assumption) | (intro g4; exact ⟨by assumption, by assumption⟩) | (intro g4; (have g4p0 : ¬ (n < 1) := (of_decide_eq_false g4)); assumption) | (intro g4; (have g4p0 : ¬ (n < 1) := (of_decide_eq_false g4)); exact ⟨by assumption, by assumption⟩)
  · first | (intro g5; assumption) | (intro g5; exact ⟨by assumption, by assumption⟩) | (intro g5; (have g5p0 : ¬ (n < 1) := (of_decide_eq_false g5)); assumption) | (intro g5; (have g5p0 : ¬ (n < 1) := (of_decide_eq_false g5)); exact ⟨by assumption, by assumption⟩)
  · first | (intro g6; assumption) | (intro g6; exact ⟨by assumption, by assumption⟩) | (intro g6; (have g6p0 : ¬ (n < 1) := (of_decide_eq_false g6)); assumption) | (intro g6; (have g6p0 : ¬ (n < 1) := (of_decide_eq_false g6)); exact ⟨by assumption, by assumption⟩)
 refine AW.cdE e0 ?_ ?_
 · intro h7q e8; refine AW.seq (AW.r1U hC [4] [0] [(4, .int .i64 0)] [] ?_); exact AW.ret (AW.retE (β := Int × Rdr) (fun v => [⟨(.int .i64), v.1⟩]) (fun v => [⟨(.named 2), v.2⟩]) (v := (0, (Rdr.mk (Rdr.b r) ((Rdr.p r) + 1)))) e8 (by kernel_rfl) rfl rfl)
 ·
  intro h9q e10; refine AW.kpU [0, 1] [0] [] [] ?_; refine AW.skip (AW.seq (AW.r0U hC [0, 1, 5] [0] [(5, .int .i64 (((Rdr.p r) + 1) - 1))] [] [(-9223372036854775808 ≤ (((Rdr.p r) + 1) - 1) ∧ (((Rdr.p r) + 1) - 1) ≤ 9223372036854775807)] ?_ ?_))
  ·
   refine ⟨?_, trivial⟩
   · first | (omega) | ((dsimp only; omega)) | ((simp only [lens] at *; omega))
  refine AW.seq (AW.seq (AW.r1U hC [0, 1, 5, 36] [0] [(36, .bool (decide ((((Rdr.p r) + 1) - 1) < ((List.length (Rdr.b r) : Nat) : Int))))] [] ?_)); refine AW.cdE e10 ?_ ?_
  ·
   intro h11q e12; refine AW.seq (AW.r0U hC [4] [0] [(4, .int .i64 ((List.getD (Rdr.b r) (Int.toNat (((Rdr.p r) + 1) - 1)) 0) % n))] [] [(0 ≤ (((Rdr.p r) + 1) - 1) ∧ (((Rdr.p r) + 1) - 1) < ((List.length (Rdr.b r) : Nat) : Int)), (-9223372036854775808 ≤ (List.getD (Rdr.b r) (Int.toNat (((Rdr.p r) + 1) - 1)) 0) ∧ (List.getD (Rdr.b r) (Int.toNat (((Rdr.p r) + 1) - 1)) 0) ≤ 9223372036854775807), (0 ≤ (List.getD (Rdr.b r) (Int.toNat (((Rdr.p r) + 1) - 1)) 0) ∧ 0 < n)] ?_ ?_)
   ·
    refine ⟨?_, ?_, ?_, trivial⟩
    · first | (omega) | ((dsimp only; omega)) | ((simp only [lens] at *; omega))
    · have a1 := hbD (Int.toNat ((r.p + 1 - 1) % ((List.length r.b : Nat) : Int))); have a2 := hbD (Int.toNat (((r.p + 1 - 1) * 7 + 3) % ((List.length r.b : Nat) : Int))); have a4 := hbD (Int.toNat (r.p + 1 - 1)); have a3 := hdiv (by omega); omega
    · have a1 := hbD (Int.toNat ((r.p + 1 - 1) % ((List.length r.b : Nat) : Int))); have a2 := hbD (Int.toNat (((r.p + 1 - 1) * 7 + 3) % ((List.length r.b : Nat) : Int))); have a4 := hbD (Int.toNat (r.p + 1 - 1)); have a3 := hdiv (by omega); omega
   exact AW.ret (AW.retE (β := Int × Rdr) (fun v => [⟨(.int .i64), v.1⟩]) (fun v => [⟨(.named 2), v.2⟩]) (v := (((List.getD (Rdr.b r) (Int.toNat (((Rdr.p r) + 1) - 1)) 0) % n), (Rdr.mk (Rdr.b r) ((Rdr.p r) + 1)))) e12 (by kernel_rfl) rfl rfl)
  ·
   intro h13q e14; refine AW.kpU [0, 1, 5] [0] [] [] ?_; refine AW.skip (AW.seq (AW.d0U hC hM [1, 6] [0] [(6, .int .i64 (((((List.getD (Rdr.b r) (Int.toNat ((((Rdr.p r) + 1) - 1) % ((List.length (Rdr.b r) : Nat) : Int))) 0) * 131) + ((List.getD (Rdr.b r) (Int.toNat ((((((Rdr.p r) + 1) - 1) * 7) + 3) % ((List.length (Rdr.b r) : Nat) : Int))) 0) * 1117)) + ((((Rdr.p r) + 1) - 1) * 29)) + (((((Rdr.p r) + 1) - 1) / ((List.length (Rdr.b r) : Nat) : Int)) * 53)))] [] [(0 ≤ (((Rdr.p r) + 1) - 1) ∧ 0 < ((List.length (Rdr.b r) : Nat) : Int)), (0 ≤ ((((Rdr.p r) + 1) - 1) % ((List.length (Rdr.b r) : Nat) : Int)) ∧ ((((Rdr.p r) + 1) - 1) % ((List.length (Rdr.b r) : Nat) : Int)) < ((List.length (Rdr.b r) : Nat) : Int)), (-9223372036854775808 ≤ (List.getD (Rdr.b r) (Int.toNat ((((Rdr.p r) + 1) - 1) % ((List.length (Rdr.b r) : Nat) : Int))) 0) ∧ (List.getD (Rdr.b r) (Int.toNat ((((Rdr.p r) + 1) - 1) % ((List.length (Rdr.b r) : Nat) : Int))) 0) ≤ 9223372036854775807), (-9223372036854775808 ≤ ((List.getD (Rdr.b r) (Int.toNat ((((Rdr.p r) + 1) - 1) % ((List.length (Rdr.b r) : Nat) : Int))) 0) * 131) ∧ ((List.getD (Rdr.b r) (Int.toNat ((((Rdr.p r) + 1) - 1) % ((List.length (Rdr.b r) : Nat) : Int))) 0) * 131) ≤ 9223372036854775807), (-9223372036854775808 ≤ ((((Rdr.p r) + 1) - 1) * 7) ∧ ((((Rdr.p r) + 1) - 1) * 7) ≤ 9223372036854775807), (-9223372036854775808 ≤ (((((Rdr.p r) + 1) - 1) * 7) + 3) ∧ (((((Rdr.p r) + 1) - 1) * 7) + 3) ≤ 9223372036854775807), (0 ≤ (((((Rdr.p r) + 1) - 1) * 7) + 3) ∧ 0 < ((List.length (Rdr.b r) : Nat) : Int)), (0 ≤ ((((((Rdr.p r) + 1) - 1) * 7) + 3) % ((List.length (Rdr.b r) : Nat) : Int)) ∧ ((((((Rdr.p r) + 1) - 1) * 7) + 3) % ((List.length (Rdr.b r) : Nat) : Int)) < ((List.length (Rdr.b r) : Nat) : Int)), (-9223372036854775808 ≤ (List.getD (Rdr.b r) (Int.toNat ((((((Rdr.p r) + 1) - 1) * 7) + 3) % ((List.length (Rdr.b r) : Nat) : Int))) 0) ∧ (List.getD (Rdr.b r) (Int.toNat ((((((Rdr.p r) + 1) - 1) * 7) + 3) % ((List.length (Rdr.b r) : Nat) : Int))) 0) ≤ 9223372036854775807), (-9223372036854775808 ≤ ((List.getD (Rdr.b r) (Int.toNat ((((((Rdr.p r) + 1) - 1) * 7) + 3) % ((List.length (Rdr.b r) : Nat) : Int))) 0) * 1117) ∧ ((List.getD (Rdr.b r) (Int.toNat ((((((Rdr.p r) + 1) - 1) * 7) + 3) % ((List.length (Rdr.b r) : Nat) : Int))) 0) * 1117) ≤ 9223372036854775807), (-9223372036854775808 ≤ (((List.getD (Rdr.b r) (Int.toNat ((((Rdr.p r) + 1) - 1) % ((List.length (Rdr.b r) : Nat) : Int))) 0) * 131) + ((List.getD (Rdr.b r) (Int.toNat ((((((Rdr.p r) + 1) - 1) * 7) + 3) % ((List.length (Rdr.b r) : Nat) : Int))) 0) * 1117)) ∧ (((List.getD (Rdr.b r) (Int.toNat ((((Rdr.p r) + 1) - 1) % ((List.length (Rdr.b r) : Nat) : Int))) 0) * 131) + ((List.getD (Rdr.b r) (Int.toNat ((((((Rdr.p r) + 1) - 1) * 7) + 3) % ((List.length (Rdr.b r) : Nat) : Int))) 0) * 1117)) ≤ 9223372036854775807), (-9223372036854775808 ≤ ((((Rdr.p r) + 1) - 1) * 29) ∧ ((((Rdr.p r) + 1) - 1) * 29) ≤ 9223372036854775807), (-9223372036854775808 ≤ ((((List.getD (Rdr.b r) (Int.toNat ((((Rdr.p r) + 1) - 1) % ((List.length (Rdr.b r) : Nat) : Int))) 0) * 131) + ((List.getD (Rdr.b r) (Int.toNat ((((((Rdr.p r) + 1) - 1) * 7) + 3) % ((List.length (Rdr.b r) : Nat) : Int))) 0) * 1117)) + ((((Rdr.p r) + 1) - 1) * 29)) ∧ ((((List.getD (Rdr.b r) (Int.toNat ((((Rdr.p r) + 1) - 1) % ((List.length (Rdr.b r) : Nat) : Int))) 0) * 131) + ((List.getD (Rdr.b r) (Int.toNat ((((((Rdr.p r) + 1) - 1) * 7) + 3) % ((List.length (Rdr.b r) : Nat) : Int))) 0) * 1117)) + ((((Rdr.p r) + 1) - 1) * 29)) ≤ 9223372036854775807), (0 ≤ (((Rdr.p r) + 1) - 1) ∧ 0 < ((List.length (Rdr.b r) : Nat) : Int)), (-9223372036854775808 ≤ (((((Rdr.p r) + 1) - 1) / ((List.length (Rdr.b r) : Nat) : Int)) * 53) ∧ (((((Rdr.p r) + 1) - 1) / ((List.length (Rdr.b r) : Nat) : Int)) * 53) ≤ 9223372036854775807), (-9223372036854775808 ≤ (((((List.getD (Rdr.b r) (Int.toNat ((((Rdr.p r) + 1) - 1) % ((List.length (Rdr.b r) : Nat) : Int))) 0) * 131) + ((List.getD (Rdr.b r) (Int.toNat ((((((Rdr.p r) + 1) - 1) * 7) + 3) % ((List.length (Rdr.b r) : Nat) : Int))) 0) * 1117)) + ((((Rdr.p r) + 1) - 1) * 29)) + (((((Rdr.p r) + 1) - 1) / ((List.length (Rdr.b r) : Nat) : Int)) * 53)) ∧ (((((List.getD (Rdr.b r) (Int.toNat ((((Rdr.p r) + 1) - 1) % ((List.length (Rdr.b r) : Nat) : Int))) 0) * 131) + ((List.getD (Rdr.b r) (Int.toNat ((((((Rdr.p r) + 1) - 1) * 7) + 3) % ((List.length (Rdr.b r) : Nat) : Int))) 0) * 1117)) + ((((Rdr.p r) + 1) - 1) * 29)) + (((((Rdr.p r) + 1) - 1) / ((List.length (Rdr.b r) : Nat) : Int)) * 53)) ≤ 9223372036854775807)] ?_ ?_))
   ·
    refine ⟨?_, ?_, ?_, ?_, ?_, ?_, ?_, ?_, ?_, ?_, ?_, ?_, ?_, ?_, ?_, ?_, trivial⟩
    · first | (omega) | ((dsimp only; omega)) | ((simp only [lens] at *; omega))
    · exact mod_ok (by omega)
    · have a1 := hbD (Int.toNat ((r.p + 1 - 1) % ((List.length r.b : Nat) : Int))); have a2 := hbD (Int.toNat (((r.p + 1 - 1) * 7 + 3) % ((List.length r.b : Nat) : Int))); have a4 := hbD (Int.toNat (r.p + 1 - 1)); have a3 := hdiv (by omega); omega
    · have a1 := hbD (Int.toNat ((r.p + 1 - 1) % ((List.length r.b : Nat) : Int))); have a2 := hbD (Int.toNat (((r.p + 1 - 1) * 7 + 3) % ((List.length r.b : Nat) : Int))); have a4 := hbD (Int.toNat (r.p + 1 - 1)); have a3 := hdiv (by omega); omega
    · first | (omega) | ((dsimp only; omega)) | ((simp only [lens] at *; omega))
    · first | (omega) | ((dsimp only; omega)) | ((simp only [lens] at *; omega))
    · first | (omega) | ((dsimp only; omega)) | ((simp only [lens] at *; omega))
    · exact mod_ok (by omega)
    · have a1 := hbD (Int.toNat ((r.p + 1 - 1) % ((List.length r.b : Nat) : Int))); have a2 := hbD (Int.toNat (((r.p + 1 - 1) * 7 + 3) % ((List.length r.b : Nat) : Int))); have a4 := hbD (Int.toNat (r.p + 1 - 1)); have a3 := hdiv (by omega); omega
    · have a1 := hbD (Int.toNat ((r.p + 1 - 1) % ((List.length r.b : Nat) : Int))); have a2 := hbD (Int.toNat (((r.p + 1 - 1) * 7 + 3) % ((List.length r.b : Nat) : Int))); have a4 := hbD (Int.toNat (r.p + 1 - 1)); have a3 := hdiv (by omega); omega
    · have a1 := hbD (Int.toNat ((r.p + 1 - 1) % ((List.length r.b : Nat) : Int))); have a2 := hbD (Int.toNat (((r.p + 1 - 1) * 7 + 3) % ((List.length r.b : Nat) : Int))); have a4 := hbD (Int.toNat (r.p + 1 - 1)); have a3 := hdiv (by omega); omega
    · first | (omega) | ((dsimp only; omega)) | ((simp only [lens] at *; omega))
    · have a1 := hbD (Int.toNat ((r.p + 1 - 1) % ((List.length r.b : Nat) : Int))); have a2 := hbD (Int.toNat (((r.p + 1 - 1) * 7 + 3) % ((List.length r.b : Nat) : Int))); have a4 := hbD (Int.toNat (r.p + 1 - 1)); have a3 := hdiv (by omega); omega
    · first | (omega) | ((dsimp only; omega)) | ((simp only [lens] at *; omega))
    · have a3 := hdiv (by omega); omega
    · have a1 := hbD (Int.toNat ((r.p + 1 - 1) % ((List.length r.b : Nat) : Int))); have a2 := hbD (Int.toNat (((r.p + 1 - 1) * 7 + 3) % ((List.length r.b : Nat) : Int))); have a4 := hbD (Int.toNat (r.p + 1 - 1)); have a3 := hdiv (by omega); omega
   refine AW.seq (AW.r0U hC [1, 6] [0] [(6, .int .i64 (bits .xor .i64 (((((List.getD (Rdr.b r) (Int.toNat ((((Rdr.p r) + 1) - 1) % ((List.length (Rdr.b r) : Nat) : Int))) 0) * 131) + ((List.getD (Rdr.b r) (Int.toNat ((((((Rdr.p r) + 1) - 1) * 7) + 3) % ((List.length (Rdr.b r) : Nat) : Int))) 0) * 1117)) + ((((Rdr.p r) + 1) - 1) * 29)) + (((((Rdr.p r) + 1) - 1) / ((List.length (Rdr.b r) : Nat) : Int)) * 53)) ((((((List.getD (Rdr.b r) (Int.toNat ((((Rdr.p r) + 1) - 1) % ((List.length (Rdr.b r) : Nat) : Int))) 0) * 131) + ((List.getD (Rdr.b r) (Int.toNat ((((((Rdr.p r) + 1) - 1) * 7) + 3) % ((List.length (Rdr.b r) : Nat) : Int))) 0) * 1117)) + ((((Rdr.p r) + 1) - 1) * 29)) + (((((Rdr.p r) + 1) - 1) / ((List.length (Rdr.b r) : Nat) : Int)) * 53)) / 64)))] [] [(0 ≤ (((((List.getD (Rdr.b r) (Int.toNat ((((Rdr.p r) + 1) - 1) % ((List.length (Rdr.b r) : Nat) : Int))) 0) * 131) + ((List.getD (Rdr.b r) (Int.toNat ((((((Rdr.p r) + 1) - 1) * 7) + 3) % ((List.length (Rdr.b r) : Nat) : Int))) 0) * 1117)) + ((((Rdr.p r) + 1) - 1) * 29)) + (((((Rdr.p r) + 1) - 1) / ((List.length (Rdr.b r) : Nat) : Int)) * 53)) ∧ 0 < (64 : Int))] ?_ ?_)
   ·
    refine ⟨?_, trivial⟩
    · have := hx (by omega); omega
   refine AW.seq (AW.r0U hC [4] [0] [(4, .int .i64 ((bits .xor .i64 (((((List.getD (Rdr.b r) (Int.toNat ((((Rdr.p r) + 1) - 1) % ((List.length (Rdr.b r) : Nat) : Int))) 0) * 131) + ((List.getD (Rdr.b r) (Int.toNat ((((((Rdr.p r) + 1) - 1) * 7) + 3) % ((List.length (Rdr.b r) : Nat) : Int))) 0) * 1117)) + ((((Rdr.p r) + 1) - 1) * 29)) + (((((Rdr.p r) + 1) - 1) / ((List.length (Rdr.b r) : Nat) : Int)) * 53)) ((((((List.getD (Rdr.b r) (Int.toNat ((((Rdr.p r) + 1) - 1) % ((List.length (Rdr.b r) : Nat) : Int))) 0) * 131) + ((List.getD (Rdr.b r) (Int.toNat ((((((Rdr.p r) + 1) - 1) * 7) + 3) % ((List.length (Rdr.b r) : Nat) : Int))) 0) * 1117)) + ((((Rdr.p r) + 1) - 1) * 29)) + (((((Rdr.p r) + 1) - 1) / ((List.length (Rdr.b r) : Nat) : Int)) * 53)) / 64)) % n))] [] [(0 ≤ (bits .xor .i64 (((((List.getD (Rdr.b r) (Int.toNat ((((Rdr.p r) + 1) - 1) % ((List.length (Rdr.b r) : Nat) : Int))) 0) * 131) + ((List.getD (Rdr.b r) (Int.toNat ((((((Rdr.p r) + 1) - 1) * 7) + 3) % ((List.length (Rdr.b r) : Nat) : Int))) 0) * 1117)) + ((((Rdr.p r) + 1) - 1) * 29)) + (((((Rdr.p r) + 1) - 1) / ((List.length (Rdr.b r) : Nat) : Int)) * 53)) ((((((List.getD (Rdr.b r) (Int.toNat ((((Rdr.p r) + 1) - 1) % ((List.length (Rdr.b r) : Nat) : Int))) 0) * 131) + ((List.getD (Rdr.b r) (Int.toNat ((((((Rdr.p r) + 1) - 1) * 7) + 3) % ((List.length (Rdr.b r) : Nat) : Int))) 0) * 1117)) + ((((Rdr.p r) + 1) - 1) * 29)) + (((((Rdr.p r) + 1) - 1) / ((List.length (Rdr.b r) : Nat) : Int)) * 53)) / 64)) ∧ 0 < n)] ?_ ?_)
   ·
    refine ⟨?_, trivial⟩
    · refine ⟨xor_nonneg ?_ ?_ ?_ ?_, by omega⟩ <;> (have := hx (by omega); omega)
   exact AW.ret (AW.retE (β := Int × Rdr) (fun v => [⟨(.int .i64), v.1⟩]) (fun v => [⟨(.named 2), v.2⟩]) (v := (((bits .xor .i64 (((((List.getD (Rdr.b r) (Int.toNat ((((Rdr.p r) + 1) - 1) % ((List.length (Rdr.b r) : Nat) : Int))) 0) * 131) + ((List.getD (Rdr.b r) (Int.toNat ((((((Rdr.p r) + 1) - 1) * 7) + 3) % ((List.length (Rdr.b r) : Nat) : Int))) 0) * 1117)) + ((((Rdr.p r) + 1) - 1) * 29)) + (((((Rdr.p r) + 1) - 1) / ((List.length (Rdr.b r) : Nat) : Int)) * 53)) ((((((List.getD (Rdr.b r) (Int.toNat ((((Rdr.p r) + 1) - 1) % ((List.length (Rdr.b r) : Nat) : Int))) 0) * 131) + ((List.getD (Rdr.b r) (Int.toNat ((((((Rdr.p r) + 1) - 1) * 7) + 3) % ((List.length (Rdr.b r) : Nat) : Int))) 0) * 1117)) + ((((Rdr.p r) + 1) - 1) * 29)) + (((((Rdr.p r) + 1) - 1) / ((List.length (Rdr.b r) : Nat) : Int)) * 53)) / 64)) % n), (Rdr.mk (Rdr.b r) ((Rdr.p r) + 1)))) e14 (by kernel_rfl) rfl rfl)

def pick (b : List Int) (p n : Int) : Int := (pickR ⟨b, p⟩ n).1

theorem pickR_eq (r : Rdr) (n : Int) : pickR r n = (pick r.b r.p n, ⟨r.b, r.p + 1⟩) := by
 have : (pickR r n).2 = ⟨r.b, r.p + 1⟩ := by
  unfold pickR
  cases (bif (decide (n < 1)) then true else (((List.length r.b : Nat) : Int) == 0)) with
  | true => rfl
  | false =>
   cases (decide (r.p + 1 - 1 < ((List.length r.b : Nat) : Int))) with
   | true => rfl
   | false => rfl
 rw [← this]; rfl

theorem pick_ok {n : Int} (b : List Int) (p : Int) (h : 1 ≤ n) : 0 ≤ pick b p n ∧ pick b p n < n := by
 unfold pick pickR; dsimp only
 cases (bif (decide (n < 1)) then true else (((List.length b : Nat) : Int) == 0)) with
 | true =>
  show 0 ≤ (0 : Int) ∧ (0 : Int) < n; omega
 | false =>
  simp only [cond_false]
  cases (decide (p + 1 - 1 < ((List.length b : Nat) : Int))) with
  | true => exact mod_ok (by omega)
  | false => exact mod_ok (by omega)

def pickS : FnSpec := mkSpecB [.box 2, .val (.int .i64)] [.val (.int .i64)] (fun (r : Rdr) (n : Int) => 0 ≤ r.p ∧ r.p ≤ 1099511627776) (fun (r : Rdr) (n : Int) => [⟨.int .i64, pick r.b r.p n⟩]) (fun (r : Rdr) (n : Int) => [⟨.named 2, (⟨r.b, r.p + 1⟩ : Rdr)⟩])

theorem pickS_eq : pickR_sp = pickS := by
 unfold pickR_sp pickS; simp only [pickR_eq]

theorem pickS_ok : FnOK Try.prog 37 pickS := pickS_eq ▸ pickR_ok

def oneR (r : Rdr) (list : List Int) : Int × Rdr := ((List.getD list (Int.toNat (pick (Rdr.b r) (Rdr.p r) ((List.length list : Nat) : Int))) 0), (Rdr.mk (Rdr.b r) ((Rdr.p r) + 1)))

def oneR_sp : FnSpec := mkSpecB [.box 2, .val (.slice (.int .i64))] [.val (.int .i64)] (fun (r : Rdr) (list : List Int) => (0 ≤ r.p ∧ r.p ≤ 1099511627775) ∧ 1 ≤ (List.length list : Int)) (fun (r : Rdr) (list : List Int) => [⟨(.int .i64), ((oneR r list).1)⟩]) (fun (r : Rdr) (list : List Int) => [⟨(.named 2), ((oneR r list).2)⟩])

theorem oneR_ok : FnOK Try.prog 38 oneR_sp := by
 have hC : CtxOK Try.prog (mkCtx tyL [(37, pickS)]) := CtxOK.cons pickS_ok (CtxOK.nil tyOK); refine FnOK.of_body Try.func38 (by kernel_rfl) rfl (C := (mkCtx tyL [(37, pickS)])) hC.ty (by kernel_rfl) ?_; intro (r : Rdr) (list : List Int) hwf hpre E; have hpre : (0 ≤ r.p ∧ r.p ≤ 1099511627775) ∧ 1 ≤ (List.length list : Int) := hpre; have hw_r : Wf ⟨(.named 2), (r : Rdr)⟩ := hwf _ (List.Mem.head _); have hl_r_b : ((List.length (Rdr.b r) : Nat) : Int) ≤ 9223372036854775807 := (hw_r.field (tv := ⟨(.slice (.int .u8)), Rdr.b r⟩) (List.Mem.head _)).len; have hr_r_p : -9223372036854775808 ≤ Rdr.p r ∧ Rdr.p r ≤ 9223372036854775807 := (hw_r.field (tv := ⟨(.int .i64), Rdr.p r⟩) (List.Mem.tail _ (List.Mem.head _))).int_inv; have hw_list : Wf ⟨(.slice (.int .i64)), (list : List Int)⟩ := hwf _ (List.Mem.tail _ (List.Mem.head _)); have hl_list : ((List.length list : Nat) : Int) ≤ 9223372036854775807 := hw_list.len; have e0 : oneR r list = oneR r list := rfl; refine AW.seq (AW.r1U hC [0, 1] [0] [] [] ?_); refine AW.seq (AW.r0 hC [4] [0] ⟨[(4, .int .i64 (List.getD list (Int.toNat (pick (Rdr.b r) (Rdr.p r) ((List.length list : Nat) : Int))) 0))], [(0, .box 0 [.data (.slice (.int .u8)) ((Rdr.b r) : List Int), .int .i64 ((Rdr.p r) + 1)])]⟩ [(0 ≤ r.p ∧ r.p ≤ 1099511627776), (0 ≤ (pick (Rdr.b r) (Rdr.p r) ((List.length list : Nat) : Int)) ∧ (pick (Rdr.b r) (Rdr.p r) ((List.length list : Nat) : Int)) < ((List.length list : Nat) : Int))] ?_ ?_)
 ·
  refine ⟨?_, ?_, trivial⟩
  · first | (omega) | ((dsimp only; omega)) | ((simp only [lens] at *; omega))
  · exact pick_ok _ _ (by omega)
 exact AW.ret (AW.retE (β := Int × Rdr) (fun v => [⟨(.int .i64), v.1⟩]) (fun v => [⟨(.named 2), v.2⟩]) (v := ((List.getD list (Int.toNat (pick (Rdr.b r) (Rdr.p r) ((List.length list : Nat) : Int))) 0), (Rdr.mk (Rdr.b r) ((Rdr.p r) + 1)))) e0 (by kernel_rfl) rfl rfl)

def one (b : List Int) (p : Int) (l : List Int) : Int := List.getD l (Int.toNat (pick b p ((List.length l : Nat) : Int))) 0

def oneS : FnSpec := mkSpecB [.box 2, .val (.slice (.int .i64))] [.val (.int .i64)] (fun (r : Rdr) (list : List Int) => (0 ≤ r.p ∧ r.p ≤ 1099511627775) ∧ 1 ≤ (List.length list : Int)) (fun (r : Rdr) (list : List Int) => [⟨.int .i64, one r.b r.p list⟩]) (fun (r : Rdr) (list : List Int) => [⟨.named 2, (⟨r.b, r.p + 1⟩ : Rdr)⟩])

theorem oneS_ok : FnOK Try.prog 38 oneS := oneR_ok

end
end Go.Proofs.Ytclennmbceaoeaa
