/-
  A part of the proof of this claim (AyS4): what functions of the program compute, and plain facts of that. No conditions.
-/
import Derived.Test.YtjcjpeckfikfkaaAyS2
set_option linter.all false
namespace Go.Proofs.Ytjcjpeckfikfkaa
open Go Go.Am
open Go.Shelf Go.RowKit Go.Lib Go.Sort
noncomputable section
variable {α : Type} [Inhabited α]

set_option maxHeartbeats 8000000 in
set_option maxRecDepth 1000000 in
theorem symB_c (enc : α → Value) (cf : α → α → Int) {lt' : α → α → Bool} {v : α → Int} (hC : Cmp2 (ltOf cf) lt' v) (g : Nat) (cb : Array Value) (blk off cap a m b : Nat) (d0 d : Array α) (w0 w : World)
  (eg : ∀ args w, (callFunc g args).run Try.prog w = .ok (.enter g args) w) (hcmp : CmpLays1 Try.prog g cb enc cf blk off d0.size w0) (R : Row1 enc w0 blk off d0) (hs : d0.size = d.size) (S : SW enc w0 blk off d w) (ham : a + 1 < m) (hmb : b = m + 1) (hb : b ≤ d.size) (hsz : d.size < 4611686018427387904) (hT : Two lt' v a m (m + 1) d) :
  Calls Try.prog 116 #[.slice (some ⟨blk, off, none⟩) d.size cap, .int .i64 a, .int .i64 m, .int .i64 b, .func (.func g) #[] cb] w fun e w' => e = .returned (.tuple #[]) ∧ ∃ d' : Array α, d'.size = d.size ∧ SW enc w0 blk off d' w' ∧ PermIn a (m + 1) d d' ∧ SortedIn lt' a (m + 1) d' := by
 have mixed : Try.prog.follows .mixedOrders = true := Try.checked.mixed; have t0 := Try.underlying0; have a0 := Try.isAgg0; have z0 := Try.sizeOf0; have v0 := Try.zeroValue0; have t3 := Try.underlying3; have a3 := Try.isAgg3; have z3 := Try.sizeOf3; have v3 := Try.zeroValue3; have t4 := Try.underlying4; have a4 := Try.isAgg4; have z4 := Try.sizeOf4; have v4 := Try.zeroValue4; have t58 := Try.underlying58; have a58 := Try.isAgg58; have z58 := Try.sizeOf58; have v58 := Try.zeroValue58; have t108 := Try.underlying108; have a108 := Try.isAgg108; have z108 := Try.sizeOf108; have v108 := Try.zeroValue108; have t124 := Try.underlying124; have a124 := Try.isAgg124; have z124 := Try.sizeOf124; have v124 := Try.zeroValue124; have u58 := run_underlying Try.underlying58; have hcl0 := R.hO.cells; simp only [Value.cells] at hcl0; have hst := R.hO.store Try.prog; have HC : Aside _ := hcmp; have S0 : Aside (SW enc w0 blk off d w) := S; have TT : Aside _ := hT; clear S hcmp hT; (have hm1 : (b : Int) - (m : Int) = 1 := by omega); (have hm4 : m + 1 ≤ b := by omega); (have hm5 : b ≤ m + 1 := by omega); clear hmb; (have hm2 : ¬ (m : Int) - (a : Int) = 1 := by omega); have hm3 : ((m : Int) - (a : Int) == 1) = false := beq_false_of_ne hm2
 go_enter Try.func116, Try.ntmps116
 go_wp2
 go_loopg [14, 15] (m - a) (fun kx s14 s15 wr => ∃ (i j : Nat), s14 = .int .i64 i ∧ s15 = .int .i64 j ∧ a ≤ i ∧ i ≤ j ∧ j ≤ m ∧ j - i ≤ kx ∧ Aside (SW enc w0 blk off d wr) ∧ Hid (∀ k, a ≤ k → k < i → lt' d[m]! d[k]! = false) ∧ Hid (∀ k, j ≤ k → k < m → lt' d[k]! d[m]! = false))
 case atStart => exact ⟨a, m, rfl, rfl, by omega, by omega, by omega, by omega, S0, (fun k h1 h2 => by omega), (fun k h1 h2 => by omega)⟩
 case round =>
  clear S0; obtain ⟨i, j, rfl, rfl, hi1, hij, hjb, hkx, S1, HU, HD⟩ := hrel; by_cases hlt : i < j
  ·
   have hltz : (i : Int) < (j : Int) := by omega
   go_wp2_with fail
   (have hh : ((i : Int) + (j : Int)) / 2 = (((i + j) / 2 : Nat) : Int) := by omega); (have hh1 : i ≤ (i + j) / 2 := by omega); (have hh2 : (i + j) / 2 < j := by omega); rw [hh]; generalize (i + j) / 2 = h at hh1 hh2 ⊢; clear hh
   cases hlv : ltOf cf d[m]! d[h]! with
   | true =>
    obtain ⟨iN, hiN⟩ : ∃ q, q = m := ⟨_, rfl⟩; obtain ⟨jN, hjN⟩ : ∃ q, q = h := ⟨_, rfl⟩; (have ea : ((m : Int)).toNat = iN := by omega); (have pa : (0 : Int) ≤ (m : Int) := by omega); (have ba : (m : Int) < (d.size : Int) := by omega); (have ra : IntKind.i64.wrap ((m : Int)) = (m : Int) := by rw [IntKind.wrap_i64]; omega); (have ec : ((h : Int)).toNat = jN := by omega); (have pc : (0 : Int) ≤ (h : Int) := by omega); (have bc : (h : Int) < (d.size : Int) := by omega); (have rc : IntKind.i64.wrap ((h : Int)) = (h : Int) := by rw [IntKind.wrap_i64]; omega); obtain ⟨x, hx⟩ : ∃ x, x = d[m]! := ⟨_, rfl⟩; obtain ⟨y, hy⟩ : ∃ x, x = d[h]! := ⟨_, rfl⟩; have la := S1.out.cl R (by omega) (m) (by omega); have lb := S1.out.cl R (by omega) (h) (by omega); rw [← hx, ← hiN] at la; rw [← hy, ← hjN] at lb; have hc := S1.out.cmp HC.out (by omega) x y; (have hv : cf x y < 0 := by rw [hx, hy]; exact of_decide_eq_true hlv); have hd : decide (cf x y < 0) = true := decide_eq_true hv; clear hx hy hiN hjN
    go_wp2_with fail
    go_quiet_grown (first | (go_at_fn g; refine Calls.grown_of (hc _ _)))
    have S2 : Aside (SW enc w0 blk off d (grow (wr.drewN nq) osq)) := S1.out.grown nq osq; clear la lb hc S1; generalize grow (wr.drewN nq) osq = w2 at S2 ⊢; clear nq osq; clear ea ec; go_wp2
    go_roundg (h - i)
    case measure => omega
    case rel => exact ⟨i, h, rfl, rfl, hi1, hh1, by omega, Nat.le_refl _, S2, HU, sea2_dn hC TT.out (by omega) (by omega) hlv⟩
   | false =>
    obtain ⟨iN, hiN⟩ : ∃ q, q = m := ⟨_, rfl⟩; obtain ⟨jN, hjN⟩ : ∃ q, q = h := ⟨_, rfl⟩; (have ea : ((m : Int)).toNat = iN := by omega); (have pa : (0 : Int) ≤ (m : Int) := by omega); (have ba : (m : Int) < (d.size : Int) := by omega); (have ra : IntKind.i64.wrap ((m : Int)) = (m : Int) := by rw [IntKind.wrap_i64]; omega); (have ec : ((h : Int)).toNat = jN := by omega); (have pc : (0 : Int) ≤ (h : Int) := by omega); (have bc : (h : Int) < (d.size : Int) := by omega); (have rc : IntKind.i64.wrap ((h : Int)) = (h : Int) := by rw [IntKind.wrap_i64]; omega); obtain ⟨x, hx⟩ : ∃ x, x = d[m]! := ⟨_, rfl⟩; obtain ⟨y, hy⟩ : ∃ x, x = d[h]! := ⟨_, rfl⟩; have la := S1.out.cl R (by omega) (m) (by omega); have lb := S1.out.cl R (by omega) (h) (by omega); rw [← hx, ← hiN] at la; rw [← hy, ← hjN] at lb; have hc := S1.out.cmp HC.out (by omega) x y; (have hv : ¬ cf x y < 0 := by rw [hx, hy]; exact of_decide_eq_false hlv); have hd : decide (cf x y < 0) = false := decide_eq_false hv; clear hx hy hiN hjN
    go_wp2_with fail
    go_quiet_grown (first | (go_at_fn g; refine Calls.grown_of (hc _ _)))
    have S2 : Aside (SW enc w0 blk off d (grow (wr.drewN nq) osq)) := S1.out.grown nq osq; clear la lb hc S1; generalize grow (wr.drewN nq) osq = w2 at S2 ⊢; clear nq osq; clear ea ec; go_wp2
    go_roundg (j - (h + 1))
    case measure => omega
    case rel => exact ⟨h + 1, j, by first | rfl | (congr 1), rfl, by omega, by omega, hjb, Nat.le_refl _, S2, sea2_up hC TT.out (by omega) (by omega) hlv, HD⟩
  ·
   (have hltz : ¬ (i : Int) < (j : Int) := by omega); (have e : i = j := by omega); subst e; clear hlt hij hkx; go_wp2
   go_loopg [17] m (fun kx s17 wr => ∃ (k : Nat) (dk : Array α), s17 = .int .i64 k ∧ i ≤ k ∧ k ≤ m ∧ k - i ≤ kx ∧ dk.size = d.size ∧ Aside (SW enc w0 blk off dk wr) ∧ Hid (IsRot k m (m + 1) d dk) ∧ Hid (PermIn a (m + 1) d dk))
   case atStart => exact ⟨m, d, rfl, by omega, by omega, by omega, rfl, S1, IsRot.left m (m + 1) (by omega) d, permIn_refl d a (m + 1)⟩
   case round =>
    clear S1; obtain ⟨k, dk, rfl, hak, hki, hkx, hds, S1, HR, HP⟩ := hrel; by_cases hlt : i < k
    ·
     have hltz : (i : Int) < (k : Int) := by omega
     go_wp2_with fail
     obtain ⟨iN, hiN⟩ : ∃ q, q = k := ⟨_, rfl⟩; obtain ⟨jN, hjN⟩ : ∃ q, q = k - 1 := ⟨_, rfl⟩; (have ea : ((k : Int)).toNat = iN := by omega); (have pa : (0 : Int) ≤ (k : Int) := by omega); (have ba : (k : Int) < (d.size : Int) := by omega); (have ra : IntKind.i64.wrap ((k : Int)) = (k : Int) := by rw [IntKind.wrap_i64]; omega); (have ec : ((k : Int) - 1).toNat = jN := by omega); (have pc : (0 : Int) ≤ (k : Int) - 1 := by omega); (have bc : (k : Int) - 1 < (d.size : Int) := by omega); (have rc : IntKind.i64.wrap ((k : Int) - 1) = (k : Int) - 1 := by rw [IntKind.wrap_i64]; omega); obtain ⟨x, hx⟩ : ∃ x, x = dk[k]! := ⟨_, rfl⟩; obtain ⟨y, hy⟩ : ∃ x, x = dk[k - 1]! := ⟨_, rfl⟩; (have S2 : Aside (SW enc w0 blk off (swp dk (k) (k - 1)) ((wr.setCell ⟨blk, off + iN, none⟩ (enc y)).setCell ⟨blk, off + jN, none⟩ (enc x)).drew) := by rw [hiN, hjN, hx, hy]; exact S1.out.swapped R (k) (k - 1) (by omega) (by omega)); have c1a := S1.out.c1 R (by omega) (k) (by omega); have c1b := S1.out.c1 R (by omega) (k - 1) (by omega); have f1a := S1.out.f1 R (by omega) (k) (by omega); have f1b := S1.out.f1 R (by omega) (k - 1) (by omega); obtain ⟨u1, c1c⟩ := S1.out.c2 R (by omega) (k) (k - 1) (by omega) (by omega) (enc y); rw [← hjN, ← hiN] at c1c; rw [← hx, ← hiN] at c1a; rw [← hy, ← hjN] at c1b; rw [← hiN] at f1a; rw [← hjN] at f1b; clear S1 hx hy hiN hjN
     go_wp2_with fail
     go_big_region_o
     clear c1a c1b c1c f1a f1b; generalize ((wr.setCell ⟨blk, off + iN, none⟩ (enc y)).setCell ⟨blk, off + jN, none⟩ (enc x)).drew = w2 at S2 ⊢; clear ea ec; go_wp2
     go_roundg (k - 1 - i)
     case measure => omega
     case rel =>
      have HR' := HR.out; rw [show k = k - 1 + 1 by omega] at HR'; have h3 := rot_down HR' (by omega) (by omega); rw [show k - 1 + 1 = k by omega] at h3; exact ⟨k - 1, swp dk k (k - 1), by first | rfl | (congr 1; omega), by omega, by omega, Nat.le_refl _, by rw [size_swp]; exact hds, S2, h3, permIn_trans _ _ _ _ _ HP.out (swp_permIn dk a (m + 1) k (k - 1) (by omega) (by omega) (by omega) (by omega) (by omega))⟩
    ·
     (have hltz : ¬ (i : Int) < (k : Int) := by omega); (have e : k = i := by omega); go_wp2
     (try simp only [Exit.inBlock, Exit.then])
     refine bodyPost_ret (results_none rfl _ _ _) rfl ?_; subst e; exact ⟨rfl, dk, hds, S1.out, HP.out, one_last hC TT.out hi1 hjb HU.out HD.out HR.out⟩

end
end Go.Proofs.Ytjcjpeckfikfkaa
