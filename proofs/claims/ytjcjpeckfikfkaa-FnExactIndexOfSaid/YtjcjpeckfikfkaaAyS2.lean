/-
  A part of the proof of this claim (AyS2): what functions of the program compute, and plain facts of that. No conditions.
-/
import Derived.Test.YtjcjpeckfikfkaaAwT
import Derived.Test.YtjcjpeckfikfkaaAn3
import Derived.Shelf.SlSortCmp.Kit1
import Derived.Sort.WalkB2
import Derived.Sort.WalkB12
import Derived.Deep.LoopGhost
set_option linter.all false
namespace Go.Proofs.Ytjcjpeckfikfkaa
open Go Go.Am
open Go.Shelf Go.RowKit Go.Lib Go.Sort
noncomputable section
variable {α : Type} [Inhabited α]

set_option maxHeartbeats 4000000 in
set_option maxRecDepth 1000000 in
theorem swapRange_c (enc : α → Value) (g : Nat) (cb : Array Value) (blk off cap a b n lo hi : Nat) (d0 d : Array α) (w0 w : World)
  (R : Row1 enc w0 blk off d0) (hs : d0.size = d.size) (S : SW enc w0 blk off d w) (hab : a + n ≤ b) (hlo : lo ≤ a) (hb : b + n ≤ hi) (hhi : hi ≤ d.size) (hsz : d.size < 4611686018427387904) :
  Calls Try.prog 133 #[.slice (some ⟨blk, off, none⟩) d.size cap, .int .i64 a, .int .i64 b, .int .i64 n, .func (.func g) #[] cb] w fun e w' => e = .returned (.tuple #[]) ∧ ∃ d' : Array α, d'.size = d.size ∧ SW enc w0 blk off d' w' ∧ IsSwap a b n d d' ∧ PermIn lo hi d d' := by
 have mixed : Try.prog.follows .mixedOrders = true := Try.checked.mixed; have t0 := Try.underlying0; have a0 := Try.isAgg0; have z0 := Try.sizeOf0; have v0 := Try.zeroValue0; have t3 := Try.underlying3; have a3 := Try.isAgg3; have z3 := Try.sizeOf3; have v3 := Try.zeroValue3; have t58 := Try.underlying58; have a58 := Try.isAgg58; have z58 := Try.sizeOf58; have v58 := Try.zeroValue58; have t108 := Try.underlying108; have a108 := Try.isAgg108; have z108 := Try.sizeOf108; have v108 := Try.zeroValue108; have u58 := run_underlying Try.underlying58; have hcl0 := R.hO.cells; simp only [Value.cells] at hcl0; have hst := R.hO.store Try.prog; have S0 : Aside (SW enc w0 blk off d w) := S; clear S
 go_enter Try.func133, Try.ntmps133
 go_wp2
 go_loopg [10] n (fun kx s10 wr => ∃ (i : Nat) (dk : Array α), s10 = .int .i64 i ∧ i ≤ n ∧ n - i ≤ kx ∧ dk.size = d.size ∧ Aside (SW enc w0 blk off dk wr) ∧ Hid (IsSwap a b i d dk) ∧ Hid (PermIn lo hi d dk))
 case atStart => exact ⟨0, d, rfl, by omega, by omega, rfl, S0, IsSwap.zero a b d, permIn_refl d lo hi⟩
 case round =>
  clear S0; obtain ⟨i, dk, rfl, hin, hkx, hds, S1, HI, HP⟩ := hrel; by_cases hlt : i < n
  ·
   have hltz : (i : Int) < (n : Int) := by omega
   go_wp2_with fail
   obtain ⟨iN, hiN⟩ : ∃ q, q = a + i := ⟨_, rfl⟩; obtain ⟨jN, hjN⟩ : ∃ q, q = b + i := ⟨_, rfl⟩; (have ea : ((a : Int) + (i : Int)).toNat = iN := by omega); (have pa : (0 : Int) ≤ (a : Int) + (i : Int) := by omega); (have ba : (a : Int) + (i : Int) < (d.size : Int) := by omega); (have ra : IntKind.i64.wrap ((a : Int) + (i : Int)) = (a : Int) + (i : Int) := by rw [IntKind.wrap_i64]; omega); (have ec : ((b : Int) + (i : Int)).toNat = jN := by omega); (have pc : (0 : Int) ≤ (b : Int) + (i : Int) := by omega); (have bc : (b : Int) + (i : Int) < (d.size : Int) := by omega); (have rc : IntKind.i64.wrap ((b : Int) + (i : Int)) = (b : Int) + (i : Int) := by rw [IntKind.wrap_i64]; omega); obtain ⟨x, hx⟩ : ∃ x, x = dk[a + i]! := ⟨_, rfl⟩; obtain ⟨y, hy⟩ : ∃ x, x = dk[b + i]! := ⟨_, rfl⟩; (have S2 : Aside (SW enc w0 blk off (swp dk (a + i) (b + i)) ((wr.setCell ⟨blk, off + iN, none⟩ (enc y)).setCell ⟨blk, off + jN, none⟩ (enc x)).drew) := by rw [hiN, hjN, hx, hy]; exact S1.out.swapped R (a + i) (b + i) (by omega) (by omega)); have c1a := S1.out.c1 R (by omega) (a + i) (by omega); have c1b := S1.out.c1 R (by omega) (b + i) (by omega); have f1a := S1.out.f1 R (by omega) (a + i) (by omega); have f1b := S1.out.f1 R (by omega) (b + i) (by omega); obtain ⟨u1, c1c⟩ := S1.out.c2 R (by omega) (a + i) (b + i) (by omega) (by omega) (enc y); rw [← hjN, ← hiN] at c1c; rw [← hx, ← hiN] at c1a; rw [← hy, ← hjN] at c1b; rw [← hiN] at f1a; rw [← hjN] at f1b; clear S1 hx hy hiN hjN
   go_wp2_with fail
   go_big_region_o
   clear c1a c1b c1c f1a f1b; generalize ((wr.setCell ⟨blk, off + iN, none⟩ (enc y)).setCell ⟨blk, off + jN, none⟩ (enc x)).drew = w2 at S2 ⊢; clear ea ec; go_wp2
   go_roundg (n - (i + 1))
   case measure => omega
   case rel =>
    exact ⟨i + 1, swp dk (a + i) (b + i), by simp, by omega, Nat.le_refl _, by rw [size_swp]; exact hds, S2, HI.out.step (by omega) (by omega), permIn_trans _ _ _ _ _ HP.out (swp_permIn dk lo hi (a + i) (b + i) (by omega) (by omega) (by omega) (by omega) (by omega))⟩
  ·
   (have hltz : ¬ (i : Int) < (n : Int) := by omega); go_wp2
   go_end0
   (have e : i = n := by omega); subst e; exact ⟨rfl, dk, hds, S1.out, HI.out, HP.out⟩

end
end Go.Proofs.Ytjcjpeckfikfkaa


namespace Go.Proofs.Ytjcjpeckfikfkaa
open Go Go.Am
open Go.Shelf Go.RowKit Go.Lib Go.Sort
noncomputable section
variable {α : Type} [Inhabited α]

set_option maxHeartbeats 4000000 in
set_option maxRecDepth 1000000 in
theorem rotate_c (enc : α → Value) (g : Nat) (cb : Array Value) (blk off cap a m b lo hi : Nat) (d0 d : Array α) (w0 w : World)
  (R : Row1 enc w0 blk off d0) (hs : d0.size = d.size) (S : SW enc w0 blk off d w) (ham : a < m) (hmb : m < b) (hlo : lo ≤ a) (hb : b ≤ hi) (hhi : hi ≤ d.size) (hsz : d.size < 4611686018427387904) :
  Calls Try.prog 127 #[.slice (some ⟨blk, off, none⟩) d.size cap, .int .i64 a, .int .i64 m, .int .i64 b, .func (.func g) #[] cb] w fun e w' => e = .returned (.tuple #[]) ∧ ∃ d' : Array α, d'.size = d.size ∧ SW enc w0 blk off d' w' ∧ IsRot a m b d d' ∧ PermIn lo hi d d' := by
 have S0 : Aside (SW enc w0 blk off d w) := S; clear S
 have e133 : ∀ args w, (callFunc 133 args).run Try.prog w = .ok (.enter 133 args) w := by
  intro args w; simp only [callFunc, Sem.run_bind, run_program, Result.andThen_ok, Try.func133]; rfl
 (have hma : ((m - a : Nat) : Int) = (m : Int) - (a : Int) := by omega); have hbm : ((b - m : Nat) : Int) = (b : Int) - (m : Int) := by omega
 go_enter Try.func127, Try.ntmps127
 go_wp2
 go_loopg [10, 11] (b - a) (fun kx s10 s11 wr => ∃ (i j : Nat) (dk : Array α), s10 = .int .i64 i ∧ s11 = .int .i64 j ∧ 1 ≤ i ∧ i ≤ m - a ∧ 1 ≤ j ∧ j ≤ b - m ∧ i + j ≤ kx ∧ dk.size = d.size ∧ Aside (SW enc w0 blk off dk wr) ∧ Hid (∀ d', IsRot (m - i) m (m + j) dk d' → IsRot a m b d d') ∧ Hid (PermIn lo hi d dk))
 case atStart => exact ⟨m - a, b - m, d, by rw [hma], by rw [hbm], by omega, by omega, by omega, by omega, by omega, rfl, S0, (fun d' h => by rw [show m - (m - a) = a by omega, show m + (b - m) = b by omega] at h; exact h), permIn_refl d lo hi⟩
 case round =>
  clear S0; obtain ⟨i, j, dk, rfl, rfl, hi1, hi2, hj1, hj2, hkx, hds, S1, HI, HP⟩ := hrel; (have hmi : ((m - i : Nat) : Int) = (m : Int) - (i : Int) := by omega); (have hmj : ((m + j - i : Nat) : Int) = (m : Int) + (j : Int) - (i : Int) := by omega); (have r1 : IntKind.i64.wrap ((m : Int) - (i : Int)) = (m : Int) - (i : Int) := by rw [IntKind.wrap_i64]; omega); (have r2 : IntKind.i64.wrap ((m : Int) + (j : Int)) = (m : Int) + (j : Int) := by rw [IntKind.wrap_i64]; omega); (have r3 : IntKind.i64.wrap ((m : Int) + (j : Int) - (i : Int)) = (m : Int) + (j : Int) - (i : Int) := by rw [IntKind.wrap_i64]; omega); rcases (by omega : i = j ∨ j < i ∨ i < j) with hij | hij | hij
  ·
   subst hij; have hcall := swapRange_c enc g cb blk off cap (m - i) m i lo hi d0 dk w0 wr R (by omega) S1.out (by omega) (by omega) (by omega) (by omega) (by omega); rw [hds, hmi] at hcall; clear S1
   go_wp2_with (go_at_fn 133; refine hcall.mono ?_; rintro e w1 ⟨rfl, d', hd', S3, hsw, hpm⟩)
   go_end0
   exact ⟨rfl, d', by omega, S3, HI.out _ (rot_eq (by omega) hsw), permIn_trans _ _ _ _ _ HP.out hpm⟩
  ·
   (have h1 : ¬ (i : Int) = (j : Int) := by omega); (have h2 : (j : Int) < (i : Int) := by omega); have hcall := swapRange_c enc g cb blk off cap (m - i) m j lo hi d0 dk w0 wr R (by omega) S1.out (by omega) (by omega) (by omega) (by omega) (by omega); rw [hds, hmi] at hcall; clear S1
   go_wp2_with (go_at_fn 133; refine hcall.mono ?_; rintro e w1 ⟨rfl, d', hd', S3, hsw, hpm⟩)
   go_roundg (i - j + j)
   case measure => omega
   case rel => exact ⟨i - j, j, d', by congr 1; omega, rfl, by omega, by omega, hj1, hj2, by omega, by omega, S3, (fun d'' h => HI.out _ (rot_gt hij (by omega) hsw h)), permIn_trans _ _ _ _ _ HP.out hpm⟩
  ·
   (have h1 : ¬ (i : Int) = (j : Int) := by omega); (have h2 : ¬ (j : Int) < (i : Int) := by omega); have hcall := swapRange_c enc g cb blk off cap (m - i) (m + j - i) i lo hi d0 dk w0 wr R (by omega) S1.out (by omega) (by omega) (by omega) (by omega) (by omega); rw [hds, hmi, hmj] at hcall; clear S1
   go_wp2_with (go_at_fn 133; refine hcall.mono ?_; rintro e w1 ⟨rfl, d', hd', S3, hsw, hpm⟩)
   go_roundg (i + (j - i))
   case measure => omega
   case rel => exact ⟨i, j - i, d', rfl, by congr 1; omega, hi1, hi2, by omega, by omega, by omega, by omega, S3, (fun d'' h => HI.out _ (rot_lt hij (by omega) hsw h)), permIn_trans _ _ _ _ _ HP.out hpm⟩

end
end Go.Proofs.Ytjcjpeckfikfkaa
