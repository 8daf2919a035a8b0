/-
  A part of the proof of this claim (AyS5): what functions of the program compute, and plain facts of that. No conditions.
-/
import Derived.Test.YtjcjpeckfikfkaaAyS3
import Derived.Test.YtjcjpeckfikfkaaAyS4
set_option linter.all false
namespace Go.Proofs.Ytjcjpeckfikfkaa
open Go Go.Am
open Go.Shelf Go.RowKit Go.Lib Go.Sort
noncomputable section
variable {α : Type} [Inhabited α]

def MergeOK (enc : α → Value) (lt' : α → α → Bool) (v : α → Int) (g : Nat) (cb : Array Value) (blk off cap : Nat) (d0 : Array α) (w0 : World) (n : Nat) : Prop := ∀ (a m b : Nat) (d : Array α) (w : World), d.size = d0.size → SW enc w0 blk off d w → a < m → m < b → b ≤ d.size → b - a ≤ n → Two lt' v a m b d →
  Calls Try.prog 116 #[.slice (some ⟨blk, off, none⟩) d.size cap, .int .i64 a, .int .i64 m, .int .i64 b, .func (.func g) #[] cb] w fun e w' => e = .returned (.tuple #[]) ∧ ∃ d' : Array α, d'.size = d.size ∧ SW enc w0 blk off d' w' ∧ PermIn a b d d' ∧ SortedIn lt' a b d'

set_option maxHeartbeats 8000000 in
set_option maxRecDepth 1000000 in
theorem symC_c (enc : α → Value) (cf : α → α → Int) {lt' : α → α → Bool} {v : α → Int} (hC : Cmp2 (ltOf cf) lt' v) (g : Nat) (cb : Array Value) (blk off cap a m b n : Nat) (d0 d : Array α) (w0 w : World)
  (eg : ∀ args w, (callFunc g args).run Try.prog w = .ok (.enter g args) w) (hcmp : CmpLays1 Try.prog g cb enc cf blk off d0.size w0) (R : Row1 enc w0 blk off d0) (hs : d0.size = d.size) (S : SW enc w0 blk off d w) (ham : a + 1 < m) (hmb : m + 1 < b) (hb : b ≤ d.size) (hn : b - a ≤ n + 1) (hsz : d.size < 4611686018427387904) (hT : Two lt' v a m b d) (ih : MergeOK enc lt' v g cb blk off cap d0 w0 n) :
  Calls Try.prog 116 #[.slice (some ⟨blk, off, none⟩) d.size cap, .int .i64 a, .int .i64 m, .int .i64 b, .func (.func g) #[] cb] w fun e w' => e = .returned (.tuple #[]) ∧ ∃ d' : Array α, d'.size = d.size ∧ SW enc w0 blk off d' w' ∧ PermIn a b d d' ∧ SortedIn lt' a b d' := by
 have mixed : Try.prog.follows .mixedOrders = true := Try.checked.mixed; have t0 := Try.underlying0; have a0 := Try.isAgg0; have z0 := Try.sizeOf0; have v0 := Try.zeroValue0; have t3 := Try.underlying3; have a3 := Try.isAgg3; have z3 := Try.sizeOf3; have v3 := Try.zeroValue3; have t4 := Try.underlying4; have a4 := Try.isAgg4; have z4 := Try.sizeOf4; have v4 := Try.zeroValue4; have t58 := Try.underlying58; have a58 := Try.isAgg58; have z58 := Try.sizeOf58; have v58 := Try.zeroValue58; have t108 := Try.underlying108; have a108 := Try.isAgg108; have z108 := Try.sizeOf108; have v108 := Try.zeroValue108; have t124 := Try.underlying124; have a124 := Try.isAgg124; have z124 := Try.sizeOf124; have v124 := Try.zeroValue124; have u58 := run_underlying Try.underlying58; have hcl0 := R.hO.cells; simp only [Value.cells] at hcl0; have hst := R.hO.store Try.prog; have HC : Aside _ := hcmp; have S0 : Aside (SW enc w0 blk off d w) := S; have TT : Aside _ := hT; clear S hcmp hT; have IH : Aside (MergeOK enc lt' v g cb blk off cap d0 w0 n) := ih; clear ih; have hm1 : ((m : Int) - (a : Int) == 1) = false := beq_false_of_ne (by omega); have hm2 : ((b : Int) - (m : Int) == 1) = false := beq_false_of_ne (by omega); (have hm3 : ¬ (m : Int) - (a : Int) = 1 := by omega); (have hm4 : ¬ (b : Int) - (m : Int) = 1 := by omega); obtain ⟨mid, hmid⟩ : ∃ q, q = (a + b) / 2 := ⟨_, rfl⟩; (have hmid1 : 2 * mid ≤ a + b := by omega); (have hmid2 : a + b ≤ 2 * mid + 1 := by omega); clear hmid; by_cases hlo : mid < m
 ·
  have hloz : ((a : Int) + (b : Int)) / 2 < (m : Int) := by omega
  go_enter Try.func116, Try.ntmps116
  have hh : Aside (((a : Int) + (b : Int)) / 2 = (mid : Int)) := (by omega : ((a : Int) + (b : Int)) / 2 = (mid : Int))
  go_wp2_with fail
  rw [hh.out]; clear hh hloz
  go_loopg [20, 21] (b - a) (fun kx s20 s21 wr => ∃ (s r : Nat), s20 = .int .i64 s ∧ s21 = .int .i64 r ∧ mid + m - b ≤ s ∧ s ≤ r ∧ r ≤ mid ∧ r - s ≤ kx ∧ Aside (SW enc w0 blk off d wr) ∧ Hid (s = mid + m - b ∨ ltOf cf d[mid + m - 1 - (s - 1)]! d[s - 1]! = false) ∧ Hid (r = mid ∨ ltOf cf d[mid + m - 1 - r]! d[r]! = true))
  case atStart => exact ⟨mid + m - b, mid, by first | rfl | (congr 1; omega), rfl, by omega, by omega, by omega, by omega, S0, .inl rfl, .inl rfl⟩
  case round =>
   clear S0; obtain ⟨s, r, rfl, rfl, hs0, hsr, hr0, hkx, S1, HU, HD⟩ := hrel; by_cases hlt : s < r
   ·
    have hltz : (s : Int) < (r : Int) := by omega
    go_wp2_with fail
    (have hh : ((s : Int) + (r : Int)) / 2 = (((s + r) / 2 : Nat) : Int) := by omega); (have hh1 : s ≤ (s + r) / 2 := by omega); (have hh2 : (s + r) / 2 < r := by omega); rw [hh]; generalize (s + r) / 2 = h at hh1 hh2 ⊢; clear hh; obtain ⟨pq, hq⟩ : ∃ x, x = mid + m - 1 - h := ⟨_, rfl⟩; (have hq1 : pq + h + 1 ≤ mid + m := by omega); (have hq2 : mid + m ≤ pq + h + 1 := by omega); clear hq; have zq : Aside ((mid : Int) + (m : Int) - 1 = (pq : Int) + (h : Int)) := (by omega : (mid : Int) + (m : Int) - 1 = (pq : Int) + (h : Int)); rw [zq.out]
    cases hlv : ltOf cf d[pq]! d[h]! with
    | true =>
     obtain ⟨iN, hiN⟩ : ∃ q, q = pq := ⟨_, rfl⟩; obtain ⟨jN, hjN⟩ : ∃ q, q = h := ⟨_, rfl⟩; (have ea : ((pq : Int)).toNat = iN := by omega); (have pa : (0 : Int) ≤ (pq : Int) := by omega); (have ba : (pq : Int) < (d.size : Int) := by omega); (have ra : IntKind.i64.wrap ((pq : Int)) = (pq : Int) := by rw [IntKind.wrap_i64]; omega); (have ec : ((h : Int)).toNat = jN := by omega); (have pc : (0 : Int) ≤ (h : Int) := by omega); (have bc : (h : Int) < (d.size : Int) := by omega); (have rc : IntKind.i64.wrap ((h : Int)) = (h : Int) := by rw [IntKind.wrap_i64]; omega); obtain ⟨x, hx⟩ : ∃ x, x = d[pq]! := ⟨_, rfl⟩; obtain ⟨y, hy⟩ : ∃ x, x = d[h]! := ⟨_, rfl⟩; have la := S1.out.cl R (by omega) (pq) (by omega); have lb := S1.out.cl R (by omega) (h) (by omega); rw [← hx, ← hiN] at la; rw [← hy, ← hjN] at lb; have hc := S1.out.cmp HC.out (by omega) x y; (have hv : cf x y < 0 := by rw [hx, hy]; exact of_decide_eq_true hlv); have hd : decide (cf x y < 0) = true := decide_eq_true hv; clear hx hy hiN hjN
     go_wp2_with fail
     go_quiet_grown (first | (go_at_fn g; refine Calls.grown_of (hc _ _)))
     have S2 : Aside (SW enc w0 blk off d (grow (wr.drewN nq) osq)) := S1.out.grown nq osq; clear la lb hc S1; generalize grow (wr.drewN nq) osq = w2 at S2 ⊢; clear nq osq; clear ea ec; rw [← zq.out]; go_wp2
     go_roundg (h - s)
     case measure => omega
     case rel => exact ⟨s, h, rfl, rfl, hs0, hh1, by omega, Nat.le_refl _, S2, HU, .inr (by rw [show mid + m - 1 - h = pq by omega]; exact hlv)⟩
    | false =>
     obtain ⟨iN, hiN⟩ : ∃ q, q = pq := ⟨_, rfl⟩; obtain ⟨jN, hjN⟩ : ∃ q, q = h := ⟨_, rfl⟩; (have ea : ((pq : Int)).toNat = iN := by omega); (have pa : (0 : Int) ≤ (pq : Int) := by omega); (have ba : (pq : Int) < (d.size : Int) := by omega); (have ra : IntKind.i64.wrap ((pq : Int)) = (pq : Int) := by rw [IntKind.wrap_i64]; omega); (have ec : ((h : Int)).toNat = jN := by omega); (have pc : (0 : Int) ≤ (h : Int) := by omega); (have bc : (h : Int) < (d.size : Int) := by omega); (have rc : IntKind.i64.wrap ((h : Int)) = (h : Int) := by rw [IntKind.wrap_i64]; omega); obtain ⟨x, hx⟩ : ∃ x, x = d[pq]! := ⟨_, rfl⟩; obtain ⟨y, hy⟩ : ∃ x, x = d[h]! := ⟨_, rfl⟩; have la := S1.out.cl R (by omega) (pq) (by omega); have lb := S1.out.cl R (by omega) (h) (by omega); rw [← hx, ← hiN] at la; rw [← hy, ← hjN] at lb; have hc := S1.out.cmp HC.out (by omega) x y; (have hv : ¬ cf x y < 0 := by rw [hx, hy]; exact of_decide_eq_false hlv); have hd : decide (cf x y < 0) = false := decide_eq_false hv; clear hx hy hiN hjN
     go_wp2_with fail
     go_quiet_grown (first | (go_at_fn g; refine Calls.grown_of (hc _ _)))
     have S2 : Aside (SW enc w0 blk off d (grow (wr.drewN nq) osq)) := S1.out.grown nq osq; clear la lb hc S1; generalize grow (wr.drewN nq) osq = w2 at S2 ⊢; clear nq osq; clear ea ec; rw [← zq.out]; go_wp2
     go_roundg (r - (h + 1))
     case measure => omega
     case rel => exact ⟨h + 1, r, by first | rfl | (congr 1), rfl, by omega, by omega, hr0, Nat.le_refl _, S2, .inr (by rw [show h + 1 - 1 = h by omega, show mid + m - 1 - h = pq by omega]; exact hlv), HD⟩
   ·
    (have hltz : ¬ (s : Int) < (r : Int) := by omega); (have e : s = r := by omega); subst e; clear hlt hsr hkx; have hcut : Hid (Cut lt' a m b s (mid + m - s) d) := cut_of hC TT.out (by omega) (by omega) (by omega) (.inr ⟨by omega, rfl, rfl⟩) hs0 hr0 HU.out HD.out; have zs : Aside (((mid + m - s : Nat) : Int) = (mid : Int) + (m : Int) - (s : Int)) := (by omega : ((mid + m - s : Nat) : Int) = (mid : Int) + (m : Int) - (s : Int)); generalize hee : mid + m - s = e at hcut zs; (have he1 : e + s ≤ mid + m := by omega); (have he2 : mid + m ≤ e + s := by omega); have hls := hcut.out.ls; have hsm := hcut.out.sm; have hme := hcut.out.me; have heb := hcut.out.eb; clear hee HU HD; by_cases c1 : s < m ∧ m < e
    ·
     (have i1 : (s : Int) < (m : Int) := by omega); (have i2 : (m : Int) < (mid : Int) + (m : Int) - (s : Int) := by omega); have hc1 := rotate_c enc g cb blk off cap s m e a b d0 d w0 wr R hs S1.out c1.1 c1.2 (by omega) (by omega) hb hsz; rw [zs.out] at hc1; clear S1
     go_wp2_with fail
     refine hc1.mono ?_; rintro e' w1 ⟨rfl, d1, hd1, S2', hR1', hP1'⟩; have S2 : Aside (SW enc w0 blk off d1 w1) := S2'; have hR1 : Hid (IsRot s m e d d1) := hR1'; have hP1 : Hid (PermIn a b d d1) := hP1'; clear S2' hR1' hP1' c1; by_cases c2 : a < s ∧ s < mid
     ·
      (have j1 : (a : Int) < (s : Int) := by omega); (have j2 : (s : Int) < (mid : Int) := by omega); have hc2 := IH.out a s mid d1 _ (by omega) S2.out c2.1 c2.2 (by omega) (by omega) (sym_two hC TT.out hcut.out he1 he2 hR1.out); rw [hd1] at hc2; clear S2
      go_wp2_with fail
      refine hc2.mono ?_; rintro e' w2 ⟨rfl, d2, hd2', S3', hP2', hs2'⟩; have S3 : Aside (SW enc w0 blk off d2 w2) := S3'; (have hd2 : d2.size = d.size := by omega); have hP2 : Hid (PermIn a mid d1 d2) := hP2'; have hs2 : Hid (SortedIn lt' a mid d2) := hs2'; clear S3' hP2' hs2' hd2' c2; by_cases c3 : mid < e ∧ e < b
      ·
       (have k1 : (mid : Int) < (mid : Int) + (m : Int) - (s : Int) := by omega); (have k2 : (mid : Int) + (m : Int) - (s : Int) < (b : Int) := by omega); have hc3 := IH.out mid e b d2 _ (by omega) S3.out c3.1 c3.2 (by omega) (by omega) (sym_two2 hC TT.out hcut.out he1 he2 hR1.out hP2.out (by omega)); rw [zs.out, hd2] at hc3; clear S3
       go_wp2_with fail
       all_goals
        refine hc3.mono ?_; rintro e' w3 ⟨rfl, d3, hd3, S4, hP3, hs3⟩
        go_wp2_with fail
        go_end0
        have hfin := sym_done hC TT.out hcut.out he1 he2 hR1.out (by omega) (by omega) hb hP1.out hP2.out hs2.out hP3 hs3; exact ⟨rfl, d3, by omega, S4, hfin.1, hfin.2⟩
      ·
       have hfin := sym_done hC TT.out hcut.out he1 he2 hR1.out (by omega) (by omega) hb hP1.out hP2.out hs2.out (permIn_refl d2 mid b) (sym_r hC TT.out hcut.out he1 he2 hR1.out hP2.out c3 (by omega)); by_cases k1 : mid < e
       · (have k1z : (mid : Int) < (mid : Int) + (m : Int) - (s : Int) := by omega); (have k2 : ¬ (mid : Int) + (m : Int) - (s : Int) < (b : Int) := by omega); go_wp2; all_goals (go_end0; exact ⟨rfl, d2, hd2, S3.out, hfin.1, hfin.2⟩)
       · (have k1z : ¬ (mid : Int) < (mid : Int) + (m : Int) - (s : Int) := by omega); go_wp2; all_goals (go_end0; exact ⟨rfl, d2, hd2, S3.out, hfin.1, hfin.2⟩)
     ·
      obtain ⟨d2, hd12⟩ : ∃ q, q = d1 := ⟨_, rfl⟩; have hs2 : Hid (SortedIn lt' a mid d2) := (by rw [hd12]; exact sym_l hC TT.out hcut.out he1 he2 hR1.out c2 (by omega)); have hP2 : Hid (PermIn a mid d1 d2) := (by rw [hd12]; exact permIn_refl d1 a mid); have S3 := S2; rw [← hd12] at S3; (have hd2 : d2.size = d.size := by rw [hd12]; exact hd1); clear S2 hd12; by_cases j1 : a < s
      ·
       (have j1z : (a : Int) < (s : Int) := by omega); (have j2 : ¬ (s : Int) < (mid : Int) := by omega); clear c2; by_cases c3 : mid < e ∧ e < b
       ·
        (have k1 : (mid : Int) < (mid : Int) + (m : Int) - (s : Int) := by omega); (have k2 : (mid : Int) + (m : Int) - (s : Int) < (b : Int) := by omega); have hc3 := IH.out mid e b d2 _ (by omega) S3.out c3.1 c3.2 (by omega) (by omega) (sym_two2 hC TT.out hcut.out he1 he2 hR1.out hP2.out (by omega)); rw [zs.out, hd2] at hc3; clear S3
        go_wp2_with fail
        all_goals
         refine hc3.mono ?_; rintro e' w3 ⟨rfl, d3, hd3, S4, hP3, hs3⟩
         go_wp2_with fail
         go_end0
         have hfin := sym_done hC TT.out hcut.out he1 he2 hR1.out (by omega) (by omega) hb hP1.out hP2.out hs2.out hP3 hs3; exact ⟨rfl, d3, by omega, S4, hfin.1, hfin.2⟩
       ·
        have hfin := sym_done hC TT.out hcut.out he1 he2 hR1.out (by omega) (by omega) hb hP1.out hP2.out hs2.out (permIn_refl d2 mid b) (sym_r hC TT.out hcut.out he1 he2 hR1.out hP2.out c3 (by omega)); by_cases k1 : mid < e
        · (have k1z : (mid : Int) < (mid : Int) + (m : Int) - (s : Int) := by omega); (have k2 : ¬ (mid : Int) + (m : Int) - (s : Int) < (b : Int) := by omega); go_wp2; all_goals (go_end0; exact ⟨rfl, d2, hd2, S3.out, hfin.1, hfin.2⟩)
        · (have k1z : ¬ (mid : Int) < (mid : Int) + (m : Int) - (s : Int) := by omega); go_wp2; all_goals (go_end0; exact ⟨rfl, d2, hd2, S3.out, hfin.1, hfin.2⟩)
      ·
       (have j1z : ¬ (a : Int) < (s : Int) := by omega); clear c2; by_cases c3 : mid < e ∧ e < b
       ·
        (have k1 : (mid : Int) < (mid : Int) + (m : Int) - (s : Int) := by omega); (have k2 : (mid : Int) + (m : Int) - (s : Int) < (b : Int) := by omega); have hc3 := IH.out mid e b d2 _ (by omega) S3.out c3.1 c3.2 (by omega) (by omega) (sym_two2 hC TT.out hcut.out he1 he2 hR1.out hP2.out (by omega)); rw [zs.out, hd2] at hc3; clear S3
        go_wp2_with fail
        all_goals
         refine hc3.mono ?_; rintro e' w3 ⟨rfl, d3, hd3, S4, hP3, hs3⟩
         go_wp2_with fail
         go_end0
         have hfin := sym_done hC TT.out hcut.out he1 he2 hR1.out (by omega) (by omega) hb hP1.out hP2.out hs2.out hP3 hs3; exact ⟨rfl, d3, by omega, S4, hfin.1, hfin.2⟩
       ·
        have hfin := sym_done hC TT.out hcut.out he1 he2 hR1.out (by omega) (by omega) hb hP1.out hP2.out hs2.out (permIn_refl d2 mid b) (sym_r hC TT.out hcut.out he1 he2 hR1.out hP2.out c3 (by omega)); by_cases k1 : mid < e
        · (have k1z : (mid : Int) < (mid : Int) + (m : Int) - (s : Int) := by omega); (have k2 : ¬ (mid : Int) + (m : Int) - (s : Int) < (b : Int) := by omega); go_wp2; all_goals (go_end0; exact ⟨rfl, d2, hd2, S3.out, hfin.1, hfin.2⟩)
        · (have k1z : ¬ (mid : Int) < (mid : Int) + (m : Int) - (s : Int) := by omega); go_wp2; all_goals (go_end0; exact ⟨rfl, d2, hd2, S3.out, hfin.1, hfin.2⟩)
    ·
     have hR1 : Hid (IsRot s m e d d) := (by
      by_cases q : s < m
      · (have : e = m := by omega); rw [this]; exact IsRot.right s m d
      ·
       (have : s = m := by omega); rw [this]
       exact IsRot.left m e (by omega) d)
     have hP1 : Hid (PermIn a b d d) := permIn_refl d a b; obtain ⟨d1, hd01⟩ : ∃ q, q = d := ⟨_, rfl⟩; have S2 := S1; rw [← hd01] at S2; have hR2 : Hid (IsRot s m e d d1) := (by rw [hd01]; exact hR1); have hP2 : Hid (PermIn a b d d1) := (by rw [hd01]; exact hP1); (have hd1 : d1.size = d.size := by rw [hd01]); clear S1 hd01 hR1 hP1; have hQ1 := hP2; clear hP2; by_cases i1 : s < m
     ·
      (have i1z : (s : Int) < (m : Int) := by omega); (have i2 : ¬ (m : Int) < (mid : Int) + (m : Int) - (s : Int) := by omega); clear c1; by_cases c2 : a < s ∧ s < mid
      ·
       (have j1 : (a : Int) < (s : Int) := by omega); (have j2 : (s : Int) < (mid : Int) := by omega); have hc2 := IH.out a s mid d1 _ (by omega) S2.out c2.1 c2.2 (by omega) (by omega) (sym_two hC TT.out hcut.out he1 he2 hR2.out); rw [hd1] at hc2; clear S2
       go_wp2_with fail
       refine hc2.mono ?_; rintro e' w2 ⟨rfl, d2, hd2', S3', hP2', hs2'⟩; have S3 : Aside (SW enc w0 blk off d2 w2) := S3'; (have hd2 : d2.size = d.size := by omega); have hP2 : Hid (PermIn a mid d1 d2) := hP2'; have hs2 : Hid (SortedIn lt' a mid d2) := hs2'; clear S3' hP2' hs2' hd2' c2; by_cases c3 : mid < e ∧ e < b
       ·
        (have k1 : (mid : Int) < (mid : Int) + (m : Int) - (s : Int) := by omega); (have k2 : (mid : Int) + (m : Int) - (s : Int) < (b : Int) := by omega); have hc3 := IH.out mid e b d2 _ (by omega) S3.out c3.1 c3.2 (by omega) (by omega) (sym_two2 hC TT.out hcut.out he1 he2 hR2.out hP2.out (by omega)); rw [zs.out, hd2] at hc3; clear S3
        go_wp2_with fail
        all_goals
         refine hc3.mono ?_; rintro e' w3 ⟨rfl, d3, hd3, S4, hP3, hs3⟩
         go_wp2_with fail
         go_end0
         have hfin := sym_done hC TT.out hcut.out he1 he2 hR2.out (by omega) (by omega) hb hQ1.out hP2.out hs2.out hP3 hs3; exact ⟨rfl, d3, by omega, S4, hfin.1, hfin.2⟩
       ·
        have hfin := sym_done hC TT.out hcut.out he1 he2 hR2.out (by omega) (by omega) hb hQ1.out hP2.out hs2.out (permIn_refl d2 mid b) (sym_r hC TT.out hcut.out he1 he2 hR2.out hP2.out c3 (by omega)); by_cases k1 : mid < e
        · (have k1z : (mid : Int) < (mid : Int) + (m : Int) - (s : Int) := by omega); (have k2 : ¬ (mid : Int) + (m : Int) - (s : Int) < (b : Int) := by omega); go_wp2; all_goals (go_end0; exact ⟨rfl, d2, hd2, S3.out, hfin.1, hfin.2⟩)
        · (have k1z : ¬ (mid : Int) < (mid : Int) + (m : Int) - (s : Int) := by omega); go_wp2; all_goals (go_end0; exact ⟨rfl, d2, hd2, S3.out, hfin.1, hfin.2⟩)
      ·
       obtain ⟨d2, hd12⟩ : ∃ q, q = d1 := ⟨_, rfl⟩; have hs2 : Hid (SortedIn lt' a mid d2) := (by rw [hd12]; exact sym_l hC TT.out hcut.out he1 he2 hR2.out c2 (by omega)); have hP2 : Hid (PermIn a mid d1 d2) := (by rw [hd12]; exact permIn_refl d1 a mid); have S3 := S2; rw [← hd12] at S3; (have hd2 : d2.size = d.size := by rw [hd12]; exact hd1); clear S2 hd12; by_cases j1 : a < s
       ·
        (have j1z : (a : Int) < (s : Int) := by omega); (have j2 : ¬ (s : Int) < (mid : Int) := by omega); clear c2; by_cases c3 : mid < e ∧ e < b
        ·
         (have k1 : (mid : Int) < (mid : Int) + (m : Int) - (s : Int) := by omega); (have k2 : (mid : Int) + (m : Int) - (s : Int) < (b : Int) := by omega); have hc3 := IH.out mid e b d2 _ (by omega) S3.out c3.1 c3.2 (by omega) (by omega) (sym_two2 hC TT.out hcut.out he1 he2 hR2.out hP2.out (by omega)); rw [zs.out, hd2] at hc3; clear S3
         go_wp2_with fail
         all_goals
          refine hc3.mono ?_; rintro e' w3 ⟨rfl, d3, hd3, S4, hP3, hs3⟩
          go_wp2_with fail
          go_end0
          have hfin := sym_done hC TT.out hcut.out he1 he2 hR2.out (by omega) (by omega) hb hQ1.out hP2.out hs2.out hP3 hs3; exact ⟨rfl, d3, by omega, S4, hfin.1, hfin.2⟩
        ·
         have hfin := sym_done hC TT.out hcut.out he1 he2 hR2.out (by omega) (by omega) hb hQ1.out hP2.out hs2.out (permIn_refl d2 mid b) (sym_r hC TT.out hcut.out he1 he2 hR2.out hP2.out c3 (by omega)); by_cases k1 : mid < e
         · (have k1z : (mid : Int) < (mid : Int) + (m : Int) - (s : Int) := by omega); (have k2 : ¬ (mid : Int) + (m : Int) - (s : Int) < (b : Int) := by omega); go_wp2; all_goals (go_end0; exact ⟨rfl, d2, hd2, S3.out, hfin.1, hfin.2⟩)
         · (have k1z : ¬ (mid : Int) < (mid : Int) + (m : Int) - (s : Int) := by omega); go_wp2; all_goals (go_end0; exact ⟨rfl, d2, hd2, S3.out, hfin.1, hfin.2⟩)
       ·
        (have j1z : ¬ (a : Int) < (s : Int) := by omega); clear c2; by_cases c3 : mid < e ∧ e < b
        ·
         (have k1 : (mid : Int) < (mid : Int) + (m : Int) - (s : Int) := by omega); (have k2 : (mid : Int) + (m : Int) - (s : Int) < (b : Int) := by omega); have hc3 := IH.out mid e b d2 _ (by omega) S3.out c3.1 c3.2 (by omega) (by omega) (sym_two2 hC TT.out hcut.out he1 he2 hR2.out hP2.out (by omega)); rw [zs.out, hd2] at hc3; clear S3
         go_wp2_with fail
         all_goals
          refine hc3.mono ?_; rintro e' w3 ⟨rfl, d3, hd3, S4, hP3, hs3⟩
          go_wp2_with fail
          go_end0
          have hfin := sym_done hC TT.out hcut.out he1 he2 hR2.out (by omega) (by omega) hb hQ1.out hP2.out hs2.out hP3 hs3; exact ⟨rfl, d3, by omega, S4, hfin.1, hfin.2⟩
        ·
         have hfin := sym_done hC TT.out hcut.out he1 he2 hR2.out (by omega) (by omega) hb hQ1.out hP2.out hs2.out (permIn_refl d2 mid b) (sym_r hC TT.out hcut.out he1 he2 hR2.out hP2.out c3 (by omega)); by_cases k1 : mid < e
         · (have k1z : (mid : Int) < (mid : Int) + (m : Int) - (s : Int) := by omega); (have k2 : ¬ (mid : Int) + (m : Int) - (s : Int) < (b : Int) := by omega); go_wp2; all_goals (go_end0; exact ⟨rfl, d2, hd2, S3.out, hfin.1, hfin.2⟩)
         · (have k1z : ¬ (mid : Int) < (mid : Int) + (m : Int) - (s : Int) := by omega); go_wp2; all_goals (go_end0; exact ⟨rfl, d2, hd2, S3.out, hfin.1, hfin.2⟩)
     ·
      (have i1z : ¬ (s : Int) < (m : Int) := by omega); clear c1; by_cases c2 : a < s ∧ s < mid
      ·
       (have j1 : (a : Int) < (s : Int) := by omega); (have j2 : (s : Int) < (mid : Int) := by omega); have hc2 := IH.out a s mid d1 _ (by omega) S2.out c2.1 c2.2 (by omega) (by omega) (sym_two hC TT.out hcut.out he1 he2 hR2.out); rw [hd1] at hc2; clear S2
       go_wp2_with fail
       refine hc2.mono ?_; rintro e' w2 ⟨rfl, d2, hd2', S3', hP2', hs2'⟩; have S3 : Aside (SW enc w0 blk off d2 w2) := S3'; (have hd2 : d2.size = d.size := by omega); have hP2 : Hid (PermIn a mid d1 d2) := hP2'; have hs2 : Hid (SortedIn lt' a mid d2) := hs2'; clear S3' hP2' hs2' hd2' c2; by_cases c3 : mid < e ∧ e < b
       ·
        (have k1 : (mid : Int) < (mid : Int) + (m : Int) - (s : Int) := by omega); (have k2 : (mid : Int) + (m : Int) - (s : Int) < (b : Int) := by omega); have hc3 := IH.out mid e b d2 _ (by omega) S3.out c3.1 c3.2 (by omega) (by omega) (sym_two2 hC TT.out hcut.out he1 he2 hR2.out hP2.out (by omega)); rw [zs.out, hd2] at hc3; clear S3
        go_wp2_with fail
        all_goals
         refine hc3.mono ?_; rintro e' w3 ⟨rfl, d3, hd3, S4, hP3, hs3⟩
         go_wp2_with fail
         go_end0
         have hfin := sym_done hC TT.out hcut.out he1 he2 hR2.out (by omega) (by omega) hb hQ1.out hP2.out hs2.out hP3 hs3; exact ⟨rfl, d3, by omega, S4, hfin.1, hfin.2⟩
       ·
        have hfin := sym_done hC TT.out hcut.out he1 he2 hR2.out (by omega) (by omega) hb hQ1.out hP2.out hs2.out (permIn_refl d2 mid b) (sym_r hC TT.out hcut.out he1 he2 hR2.out hP2.out c3 (by omega)); by_cases k1 : mid < e
        · (have k1z : (mid : Int) < (mid : Int) + (m : Int) - (s : Int) := by omega); (have k2 : ¬ (mid : Int) + (m : Int) - (s : Int) < (b : Int) := by omega); go_wp2; all_goals (go_end0; exact ⟨rfl, d2, hd2, S3.out, hfin.1, hfin.2⟩)
        · (have k1z : ¬ (mid : Int) < (mid : Int) + (m : Int) - (s : Int) := by omega); go_wp2; all_goals (go_end0; exact ⟨rfl, d2, hd2, S3.out, hfin.1, hfin.2⟩)
      ·
       obtain ⟨d2, hd12⟩ : ∃ q, q = d1 := ⟨_, rfl⟩; have hs2 : Hid (SortedIn lt' a mid d2) := (by rw [hd12]; exact sym_l hC TT.out hcut.out he1 he2 hR2.out c2 (by omega)); have hP2 : Hid (PermIn a mid d1 d2) := (by rw [hd12]; exact permIn_refl d1 a mid); have S3 := S2; rw [← hd12] at S3; (have hd2 : d2.size = d.size := by rw [hd12]; exact hd1); clear S2 hd12; by_cases j1 : a < s
       ·
        (have j1z : (a : Int) < (s : Int) := by omega); (have j2 : ¬ (s : Int) < (mid : Int) := by omega); clear c2; by_cases c3 : mid < e ∧ e < b
        ·
         (have k1 : (mid : Int) < (mid : Int) + (m : Int) - (s : Int) := by omega); (have k2 : (mid : Int) + (m : Int) - (s : Int) < (b : Int) := by omega); have hc3 := IH.out mid e b d2 _ (by omega) S3.out c3.1 c3.2 (by omega) (by omega) (sym_two2 hC TT.out hcut.out he1 he2 hR2.out hP2.out (by omega)); rw [zs.out, hd2] at hc3; clear S3
         go_wp2_with fail
         all_goals
          refine hc3.mono ?_; rintro e' w3 ⟨rfl, d3, hd3, S4, hP3, hs3⟩
          go_wp2_with fail
          go_end0
          have hfin := sym_done hC TT.out hcut.out he1 he2 hR2.out (by omega) (by omega) hb hQ1.out hP2.out hs2.out hP3 hs3; exact ⟨rfl, d3, by omega, S4, hfin.1, hfin.2⟩
        ·
         have hfin := sym_done hC TT.out hcut.out he1 he2 hR2.out (by omega) (by omega) hb hQ1.out hP2.out hs2.out (permIn_refl d2 mid b) (sym_r hC TT.out hcut.out he1 he2 hR2.out hP2.out c3 (by omega)); by_cases k1 : mid < e
         · (have k1z : (mid : Int) < (mid : Int) + (m : Int) - (s : Int) := by omega); (have k2 : ¬ (mid : Int) + (m : Int) - (s : Int) < (b : Int) := by omega); go_wp2; all_goals (go_end0; exact ⟨rfl, d2, hd2, S3.out, hfin.1, hfin.2⟩)
         · (have k1z : ¬ (mid : Int) < (mid : Int) + (m : Int) - (s : Int) := by omega); go_wp2; all_goals (go_end0; exact ⟨rfl, d2, hd2, S3.out, hfin.1, hfin.2⟩)
       ·
        (have j1z : ¬ (a : Int) < (s : Int) := by omega); clear c2; by_cases c3 : mid < e ∧ e < b
        ·
         (have k1 : (mid : Int) < (mid : Int) + (m : Int) - (s : Int) := by omega); (have k2 : (mid : Int) + (m : Int) - (s : Int) < (b : Int) := by omega); have hc3 := IH.out mid e b d2 _ (by omega) S3.out c3.1 c3.2 (by omega) (by omega) (sym_two2 hC TT.out hcut.out he1 he2 hR2.out hP2.out (by omega)); rw [zs.out, hd2] at hc3; clear S3
         go_wp2_with fail
         all_goals
          refine hc3.mono ?_; rintro e' w3 ⟨rfl, d3, hd3, S4, hP3, hs3⟩
          go_wp2_with fail
          go_end0
          have hfin := sym_done hC TT.out hcut.out he1 he2 hR2.out (by omega) (by omega) hb hQ1.out hP2.out hs2.out hP3 hs3; exact ⟨rfl, d3, by omega, S4, hfin.1, hfin.2⟩
        ·
         have hfin := sym_done hC TT.out hcut.out he1 he2 hR2.out (by omega) (by omega) hb hQ1.out hP2.out hs2.out (permIn_refl d2 mid b) (sym_r hC TT.out hcut.out he1 he2 hR2.out hP2.out c3 (by omega)); by_cases k1 : mid < e
         · (have k1z : (mid : Int) < (mid : Int) + (m : Int) - (s : Int) := by omega); (have k2 : ¬ (mid : Int) + (m : Int) - (s : Int) < (b : Int) := by omega); go_wp2; all_goals (go_end0; exact ⟨rfl, d2, hd2, S3.out, hfin.1, hfin.2⟩)
         · (have k1z : ¬ (mid : Int) < (mid : Int) + (m : Int) - (s : Int) := by omega); go_wp2; all_goals (go_end0; exact ⟨rfl, d2, hd2, S3.out, hfin.1, hfin.2⟩)
 ·
  have hloz : ¬ ((a : Int) + (b : Int)) / 2 < (m : Int) := by omega
  go_enter Try.func116, Try.ntmps116
  have hh : Aside (((a : Int) + (b : Int)) / 2 = (mid : Int)) := (by omega : ((a : Int) + (b : Int)) / 2 = (mid : Int))
  go_wp2_with fail
  rw [hh.out]; clear hh hloz
  go_loopg [20, 21] (b - a) (fun kx s20 s21 wr => ∃ (s r : Nat), s20 = .int .i64 s ∧ s21 = .int .i64 r ∧ a ≤ s ∧ s ≤ r ∧ r ≤ m ∧ r - s ≤ kx ∧ Aside (SW enc w0 blk off d wr) ∧ Hid (s = a ∨ ltOf cf d[mid + m - 1 - (s - 1)]! d[s - 1]! = false) ∧ Hid (r = m ∨ ltOf cf d[mid + m - 1 - r]! d[r]! = true))
  case atStart => exact ⟨a, m, by first | rfl | (congr 1; omega), rfl, by omega, by omega, by omega, by omega, S0, .inl rfl, .inl rfl⟩
  case round =>
   clear S0; obtain ⟨s, r, rfl, rfl, hs0, hsr, hr0, hkx, S1, HU, HD⟩ := hrel; by_cases hlt : s < r
   ·
    have hltz : (s : Int) < (r : Int) := by omega
    go_wp2_with fail
    (have hh : ((s : Int) + (r : Int)) / 2 = (((s + r) / 2 : Nat) : Int) := by omega); (have hh1 : s ≤ (s + r) / 2 := by omega); (have hh2 : (s + r) / 2 < r := by omega); rw [hh]; generalize (s + r) / 2 = h at hh1 hh2 ⊢; clear hh; obtain ⟨pq, hq⟩ : ∃ x, x = mid + m - 1 - h := ⟨_, rfl⟩; (have hq1 : pq + h + 1 ≤ mid + m := by omega); (have hq2 : mid + m ≤ pq + h + 1 := by omega); clear hq; have zq : Aside ((mid : Int) + (m : Int) - 1 = (pq : Int) + (h : Int)) := (by omega : (mid : Int) + (m : Int) - 1 = (pq : Int) + (h : Int)); rw [zq.out]
    cases hlv : ltOf cf d[pq]! d[h]! with
    | true =>
     obtain ⟨iN, hiN⟩ : ∃ q, q = pq := ⟨_, rfl⟩; obtain ⟨jN, hjN⟩ : ∃ q, q = h := ⟨_, rfl⟩; (have ea : ((pq : Int)).toNat = iN := by omega); (have pa : (0 : Int) ≤ (pq : Int) := by omega); (have ba : (pq : Int) < (d.size : Int) := by omega); (have ra : IntKind.i64.wrap ((pq : Int)) = (pq : Int) := by rw [IntKind.wrap_i64]; omega); (have ec : ((h : Int)).toNat = jN := by omega); (have pc : (0 : Int) ≤ (h : Int) := by omega); (have bc : (h : Int) < (d.size : Int) := by omega); (have rc : IntKind.i64.wrap ((h : Int)) = (h : Int) := by rw [IntKind.wrap_i64]; omega); obtain ⟨x, hx⟩ : ∃ x, x = d[pq]! := ⟨_, rfl⟩; obtain ⟨y, hy⟩ : ∃ x, x = d[h]! := ⟨_, rfl⟩; have la := S1.out.cl R (by omega) (pq) (by omega); have lb := S1.out.cl R (by omega) (h) (by omega); rw [← hx, ← hiN] at la; rw [← hy, ← hjN] at lb; have hc := S1.out.cmp HC.out (by omega) x y; (have hv : cf x y < 0 := by rw [hx, hy]; exact of_decide_eq_true hlv); have hd : decide (cf x y < 0) = true := decide_eq_true hv; clear hx hy hiN hjN
     go_wp2_with fail
     go_quiet_grown (first | (go_at_fn g; refine Calls.grown_of (hc _ _)))
     have S2 : Aside (SW enc w0 blk off d (grow (wr.drewN nq) osq)) := S1.out.grown nq osq; clear la lb hc S1; generalize grow (wr.drewN nq) osq = w2 at S2 ⊢; clear nq osq; clear ea ec; rw [← zq.out]; go_wp2
     go_roundg (h - s)
     case measure => omega
     case rel => exact ⟨s, h, rfl, rfl, hs0, hh1, by omega, Nat.le_refl _, S2, HU, .inr (by rw [show mid + m - 1 - h = pq by omega]; exact hlv)⟩
    | false =>
     obtain ⟨iN, hiN⟩ : ∃ q, q = pq := ⟨_, rfl⟩; obtain ⟨jN, hjN⟩ : ∃ q, q = h := ⟨_, rfl⟩; (have ea : ((pq : Int)).toNat = iN := by omega); (have pa : (0 : Int) ≤ (pq : Int) := by omega); (have ba : (pq : Int) < (d.size : Int) := by omega); (have ra : IntKind.i64.wrap ((pq : Int)) = (pq : Int) := by rw [IntKind.wrap_i64]; omega); (have ec : ((h : Int)).toNat = jN := by omega); (have pc : (0 : Int) ≤ (h : Int) := by omega); (have bc : (h : Int) < (d.size : Int) := by omega); (have rc : IntKind.i64.wrap ((h : Int)) = (h : Int) := by rw [IntKind.wrap_i64]; omega); obtain ⟨x, hx⟩ : ∃ x, x = d[pq]! := ⟨_, rfl⟩; obtain ⟨y, hy⟩ : ∃ x, x = d[h]! := ⟨_, rfl⟩; have la := S1.out.cl R (by omega) (pq) (by omega); have lb := S1.out.cl R (by omega) (h) (by omega); rw [← hx, ← hiN] at la; rw [← hy, ← hjN] at lb; have hc := S1.out.cmp HC.out (by omega) x y; (have hv : ¬ cf x y < 0 := by rw [hx, hy]; exact of_decide_eq_false hlv); have hd : decide (cf x y < 0) = false := decide_eq_false hv; clear hx hy hiN hjN
     go_wp2_with fail
     go_quiet_grown (first | (go_at_fn g; refine Calls.grown_of (hc _ _)))
     have S2 : Aside (SW enc w0 blk off d (grow (wr.drewN nq) osq)) := S1.out.grown nq osq; clear la lb hc S1; generalize grow (wr.drewN nq) osq = w2 at S2 ⊢; clear nq osq; clear ea ec; rw [← zq.out]; go_wp2
     go_roundg (r - (h + 1))
     case measure => omega
     case rel => exact ⟨h + 1, r, by first | rfl | (congr 1), rfl, by omega, by omega, hr0, Nat.le_refl _, S2, .inr (by rw [show h + 1 - 1 = h by omega, show mid + m - 1 - h = pq by omega]; exact hlv), HD⟩
   ·
    (have hltz : ¬ (s : Int) < (r : Int) := by omega); (have e : s = r := by omega); subst e; clear hlt hsr hkx; have hcut : Hid (Cut lt' a m b s (mid + m - s) d) := cut_of hC TT.out (by omega) (by omega) (by omega) (.inl ⟨by omega, rfl, rfl⟩) hs0 hr0 HU.out HD.out; have zs : Aside (((mid + m - s : Nat) : Int) = (mid : Int) + (m : Int) - (s : Int)) := (by omega : ((mid + m - s : Nat) : Int) = (mid : Int) + (m : Int) - (s : Int)); generalize hee : mid + m - s = e at hcut zs; (have he1 : e + s ≤ mid + m := by omega); (have he2 : mid + m ≤ e + s := by omega); have hls := hcut.out.ls; have hsm := hcut.out.sm; have hme := hcut.out.me; have heb := hcut.out.eb; clear hee HU HD; by_cases c1 : s < m ∧ m < e
    ·
     (have i1 : (s : Int) < (m : Int) := by omega); (have i2 : (m : Int) < (mid : Int) + (m : Int) - (s : Int) := by omega); have hc1 := rotate_c enc g cb blk off cap s m e a b d0 d w0 wr R hs S1.out c1.1 c1.2 (by omega) (by omega) hb hsz; rw [zs.out] at hc1; clear S1
     go_wp2_with fail
     refine hc1.mono ?_; rintro e' w1 ⟨rfl, d1, hd1, S2', hR1', hP1'⟩; have S2 : Aside (SW enc w0 blk off d1 w1) := S2'; have hR1 : Hid (IsRot s m e d d1) := hR1'; have hP1 : Hid (PermIn a b d d1) := hP1'; clear S2' hR1' hP1' c1; by_cases c2 : a < s ∧ s < mid
     ·
      (have j1 : (a : Int) < (s : Int) := by omega); (have j2 : (s : Int) < (mid : Int) := by omega); have hc2 := IH.out a s mid d1 _ (by omega) S2.out c2.1 c2.2 (by omega) (by omega) (sym_two hC TT.out hcut.out he1 he2 hR1.out); rw [hd1] at hc2; clear S2
      go_wp2_with fail
      refine hc2.mono ?_; rintro e' w2 ⟨rfl, d2, hd2', S3', hP2', hs2'⟩; have S3 : Aside (SW enc w0 blk off d2 w2) := S3'; (have hd2 : d2.size = d.size := by omega); have hP2 : Hid (PermIn a mid d1 d2) := hP2'; have hs2 : Hid (SortedIn lt' a mid d2) := hs2'; clear S3' hP2' hs2' hd2' c2; by_cases c3 : mid < e ∧ e < b
      ·
       (have k1 : (mid : Int) < (mid : Int) + (m : Int) - (s : Int) := by omega); (have k2 : (mid : Int) + (m : Int) - (s : Int) < (b : Int) := by omega); have hc3 := IH.out mid e b d2 _ (by omega) S3.out c3.1 c3.2 (by omega) (by omega) (sym_two2 hC TT.out hcut.out he1 he2 hR1.out hP2.out (by omega)); rw [zs.out, hd2] at hc3; clear S3
       go_wp2_with fail
       all_goals
        refine hc3.mono ?_; rintro e' w3 ⟨rfl, d3, hd3, S4, hP3, hs3⟩
        go_wp2_with fail
        go_end0
        have hfin := sym_done hC TT.out hcut.out he1 he2 hR1.out (by omega) (by omega) hb hP1.out hP2.out hs2.out hP3 hs3; exact ⟨rfl, d3, by omega, S4, hfin.1, hfin.2⟩
      ·
       have hfin := sym_done hC TT.out hcut.out he1 he2 hR1.out (by omega) (by omega) hb hP1.out hP2.out hs2.out (permIn_refl d2 mid b) (sym_r hC TT.out hcut.out he1 he2 hR1.out hP2.out c3 (by omega)); by_cases k1 : mid < e
       · (have k1z : (mid : Int) < (mid : Int) + (m : Int) - (s : Int) := by omega); (have k2 : ¬ (mid : Int) + (m : Int) - (s : Int) < (b : Int) := by omega); go_wp2; all_goals (go_end0; exact ⟨rfl, d2, hd2, S3.out, hfin.1, hfin.2⟩)
       · (have k1z : ¬ (mid : Int) < (mid : Int) + (m : Int) - (s : Int) := by omega); go_wp2; all_goals (go_end0; exact ⟨rfl, d2, hd2, S3.out, hfin.1, hfin.2⟩)
     ·
      obtain ⟨d2, hd12⟩ : ∃ q, q = d1 := ⟨_, rfl⟩; have hs2 : Hid (SortedIn lt' a mid d2) := (by rw [hd12]; exact sym_l hC TT.out hcut.out he1 he2 hR1.out c2 (by omega)); have hP2 : Hid (PermIn a mid d1 d2) := (by rw [hd12]; exact permIn_refl d1 a mid); have S3 := S2; rw [← hd12] at S3; (have hd2 : d2.size = d.size := by rw [hd12]; exact hd1); clear S2 hd12; by_cases j1 : a < s
      ·
       (have j1z : (a : Int) < (s : Int) := by omega); (have j2 : ¬ (s : Int) < (mid : Int) := by omega); clear c2; by_cases c3 : mid < e ∧ e < b
       ·
        (have k1 : (mid : Int) < (mid : Int) + (m : Int) - (s : Int) := by omega); (have k2 : (mid : Int) + (m : Int) - (s : Int) < (b : Int) := by omega); have hc3 := IH.out mid e b d2 _ (by omega) S3.out c3.1 c3.2 (by omega) (by omega) (sym_two2 hC TT.out hcut.out he1 he2 hR1.out hP2.out (by omega)); rw [zs.out, hd2] at hc3; clear S3
        go_wp2_with fail
        all_goals
         refine hc3.mono ?_; rintro e' w3 ⟨rfl, d3, hd3, S4, hP3, hs3⟩
         go_wp2_with fail
         go_end0
         have hfin := sym_done hC TT.out hcut.out he1 he2 hR1.out (by omega) (by omega) hb hP1.out hP2.out hs2.out hP3 hs3; exact ⟨rfl, d3, by omega, S4, hfin.1, hfin.2⟩
       ·
        have hfin := sym_done hC TT.out hcut.out he1 he2 hR1.out (by omega) (by omega) hb hP1.out hP2.out hs2.out (permIn_refl d2 mid b) (sym_r hC TT.out hcut.out he1 he2 hR1.out hP2.out c3 (by omega)); by_cases k1 : mid < e
        · (have k1z : (mid : Int) < (mid : Int) + (m : Int) - (s : Int) := by omega); (have k2 : ¬ (mid : Int) + (m : Int) - (s : Int) < (b : Int) := by omega); go_wp2; all_goals (go_end0; exact ⟨rfl, d2, hd2, S3.out, hfin.1, hfin.2⟩)
        · (have k1z : ¬ (mid : Int) < (mid : Int) + (m : Int) - (s : Int) := by omega); go_wp2; all_goals (go_end0; exact ⟨rfl, d2, hd2, S3.out, hfin.1, hfin.2⟩)
      ·
       (have j1z : ¬ (a : Int) < (s : Int) := by omega); clear c2; by_cases c3 : mid < e ∧ e < b
       ·
        (have k1 : (mid : Int) < (mid : Int) + (m : Int) - (s : Int) := by omega); (have k2 : (mid : Int) + (m : Int) - (s : Int) < (b : Int) := by omega); have hc3 := IH.out mid e b d2 _ (by omega) S3.out c3.1 c3.2 (by omega) (by omega) (sym_two2 hC TT.out hcut.out he1 he2 hR1.out hP2.out (by omega)); rw [zs.out, hd2] at hc3; clear S3
        go_wp2_with fail
        all_goals
         refine hc3.mono ?_; rintro e' w3 ⟨rfl, d3, hd3, S4, hP3, hs3⟩
         go_wp2_with fail
         go_end0
         have hfin := sym_done hC TT.out hcut.out he1 he2 hR1.out (by omega) (by omega) hb hP1.out hP2.out hs2.out hP3 hs3; exact ⟨rfl, d3, by omega, S4, hfin.1, hfin.2⟩
       ·
        have hfin := sym_done hC TT.out hcut.out he1 he2 hR1.out (by omega) (by omega) hb hP1.out hP2.out hs2.out (permIn_refl d2 mid b) (sym_r hC TT.out hcut.out he1 he2 hR1.out hP2.out c3 (by omega)); by_cases k1 : mid < e
        · (have k1z : (mid : Int) < (mid : Int) + (m : Int) - (s : Int) := by omega); (have k2 : ¬ (mid : Int) + (m : Int) - (s : Int) < (b : Int) := by omega); go_wp2; all_goals (go_end0; exact ⟨rfl, d2, hd2, S3.out, hfin.1, hfin.2⟩)
        · (have k1z : ¬ (mid : Int) < (mid : Int) + (m : Int) - (s : Int) := by omega); go_wp2; all_goals (go_end0; exact ⟨rfl, d2, hd2, S3.out, hfin.1, hfin.2⟩)
    ·
     have hR1 : Hid (IsRot s m e d d) := (by
      by_cases q : s < m
      · (have : e = m := by omega); rw [this]; exact IsRot.right s m d
      ·
       (have : s = m := by omega); rw [this]
       exact IsRot.left m e (by omega) d)
     have hP1 : Hid (PermIn a b d d) := permIn_refl d a b; obtain ⟨d1, hd01⟩ : ∃ q, q = d := ⟨_, rfl⟩; have S2 := S1; rw [← hd01] at S2; have hR2 : Hid (IsRot s m e d d1) := (by rw [hd01]; exact hR1); have hP2 : Hid (PermIn a b d d1) := (by rw [hd01]; exact hP1); (have hd1 : d1.size = d.size := by rw [hd01]); clear S1 hd01 hR1 hP1; have hQ1 := hP2; clear hP2; by_cases i1 : s < m
     ·
      (have i1z : (s : Int) < (m : Int) := by omega); (have i2 : ¬ (m : Int) < (mid : Int) + (m : Int) - (s : Int) := by omega); clear c1; by_cases c2 : a < s ∧ s < mid
      ·
       (have j1 : (a : Int) < (s : Int) := by omega); (have j2 : (s : Int) < (mid : Int) := by omega); have hc2 := IH.out a s mid d1 _ (by omega) S2.out c2.1 c2.2 (by omega) (by omega) (sym_two hC TT.out hcut.out he1 he2 hR2.out); rw [hd1] at hc2; clear S2
       go_wp2_with fail
       refine hc2.mono ?_; rintro e' w2 ⟨rfl, d2, hd2', S3', hP2', hs2'⟩; have S3 : Aside (SW enc w0 blk off d2 w2) := S3'; (have hd2 : d2.size = d.size := by omega); have hP2 : Hid (PermIn a mid d1 d2) := hP2'; have hs2 : Hid (SortedIn lt' a mid d2) := hs2'; clear S3' hP2' hs2' hd2' c2; by_cases c3 : mid < e ∧ e < b
       ·
        (have k1 : (mid : Int) < (mid : Int) + (m : Int) - (s : Int) := by omega); (have k2 : (mid : Int) + (m : Int) - (s : Int) < (b : Int) := by omega); have hc3 := IH.out mid e b d2 _ (by omega) S3.out c3.1 c3.2 (by omega) (by omega) (sym_two2 hC TT.out hcut.out he1 he2 hR2.out hP2.out (by omega)); rw [zs.out, hd2] at hc3; clear S3
        go_wp2_with fail
        all_goals
         refine hc3.mono ?_; rintro e' w3 ⟨rfl, d3, hd3, S4, hP3, hs3⟩
         go_wp2_with fail
         go_end0
         have hfin := sym_done hC TT.out hcut.out he1 he2 hR2.out (by omega) (by omega) hb hQ1.out hP2.out hs2.out hP3 hs3; exact ⟨rfl, d3, by omega, S4, hfin.1, hfin.2⟩
       ·
        have hfin := sym_done hC TT.out hcut.out he1 he2 hR2.out (by omega) (by omega) hb hQ1.out hP2.out hs2.out (permIn_refl d2 mid b) (sym_r hC TT.out hcut.out he1 he2 hR2.out hP2.out c3 (by omega)); by_cases k1 : mid < e
        · (have k1z : (mid : Int) < (mid : Int) + (m : Int) - (s : Int) := by omega); (have k2 : ¬ (mid : Int) + (m : Int) - (s : Int) < (b : Int) := by omega); go_wp2; all_goals (go_end0; exact ⟨rfl, d2, hd2, S3.out, hfin.1, hfin.2⟩)
        · (have k1z : ¬ (mid : Int) < (mid : Int) + (m : Int) - (s : Int) := by omega); go_wp2; all_goals (go_end0; exact ⟨rfl, d2, hd2, S3.out, hfin.1, hfin.2⟩)
      ·
       obtain ⟨d2, hd12⟩ : ∃ q, q = d1 := ⟨_, rfl⟩; have hs2 : Hid (SortedIn lt' a mid d2) := (by rw [hd12]; exact sym_l hC TT.out hcut.out he1 he2 hR2.out c2 (by omega)); have hP2 : Hid (PermIn a mid d1 d2) := (by rw [hd12]; exact permIn_refl d1 a mid); have S3 := S2; rw [← hd12] at S3; (have hd2 : d2.size = d.size := by rw [hd12]; exact hd1); clear S2 hd12; by_cases j1 : a < s
       ·
        (have j1z : (a : Int) < (s : Int) := by omega); (have j2 : ¬ (s : Int) < (mid : Int) := by omega); clear c2; by_cases c3 : mid < e ∧ e < b
        ·
         (have k1 : (mid : Int) < (mid : Int) + (m : Int) - (s : Int) := by omega); (have k2 : (mid : Int) + (m : Int) - (s : Int) < (b : Int) := by omega); have hc3 := IH.out mid e b d2 _ (by omega) S3.out c3.1 c3.2 (by omega) (by omega) (sym_two2 hC TT.out hcut.out he1 he2 hR2.out hP2.out (by omega)); rw [zs.out, hd2] at hc3; clear S3
         go_wp2_with fail
         all_goals
          refine hc3.mono ?_; rintro e' w3 ⟨rfl, d3, hd3, S4, hP3, hs3⟩
          go_wp2_with fail
          go_end0
          have hfin := sym_done hC TT.out hcut.out he1 he2 hR2.out (by omega) (by omega) hb hQ1.out hP2.out hs2.out hP3 hs3; exact ⟨rfl, d3, by omega, S4, hfin.1, hfin.2⟩
        ·
         have hfin := sym_done hC TT.out hcut.out he1 he2 hR2.out (by omega) (by omega) hb hQ1.out hP2.out hs2.out (permIn_refl d2 mid b) (sym_r hC TT.out hcut.out he1 he2 hR2.out hP2.out c3 (by omega)); by_cases k1 : mid < e
         · (have k1z : (mid : Int) < (mid : Int) + (m : Int) - (s : Int) := by omega); (have k2 : ¬ (mid : Int) + (m : Int) - (s : Int) < (b : Int) := by omega); go_wp2; all_goals (go_end0; exact ⟨rfl, d2, hd2, S3.out, hfin.1, hfin.2⟩)
         · (have k1z : ¬ (mid : Int) < (mid : Int) + (m : Int) - (s : Int) := by omega); go_wp2; all_goals (go_end0; exact ⟨rfl, d2, hd2, S3.out, hfin.1, hfin.2⟩)
       ·
        (have j1z : ¬ (a : Int) < (s : Int) := by omega); clear c2; by_cases c3 : mid < e ∧ e < b
        ·
         (have k1 : (mid : Int) < (mid : Int) + (m : Int) - (s : Int) := by omega); (have k2 : (mid : Int) + (m : Int) - (s : Int) < (b : Int) := by omega); have hc3 := IH.out mid e b d2 _ (by omega) S3.out c3.1 c3.2 (by omega) (by omega) (sym_two2 hC TT.out hcut.out he1 he2 hR2.out hP2.out (by omega)); rw [zs.out, hd2] at hc3; clear S3
         go_wp2_with fail
         all_goals
          refine hc3.mono ?_; rintro e' w3 ⟨rfl, d3, hd3, S4, hP3, hs3⟩
          go_wp2_with fail
          go_end0
          have hfin := sym_done hC TT.out hcut.out he1 he2 hR2.out (by omega) (by omega) hb hQ1.out hP2.out hs2.out hP3 hs3; exact ⟨rfl, d3, by omega, S4, hfin.1, hfin.2⟩
        ·
         have hfin := sym_done hC TT.out hcut.out he1 he2 hR2.out (by omega) (by omega) hb hQ1.out hP2.out hs2.out (permIn_refl d2 mid b) (sym_r hC TT.out hcut.out he1 he2 hR2.out hP2.out c3 (by omega)); by_cases k1 : mid < e
         · (have k1z : (mid : Int) < (mid : Int) + (m : Int) - (s : Int) := by omega); (have k2 : ¬ (mid : Int) + (m : Int) - (s : Int) < (b : Int) := by omega); go_wp2; all_goals (go_end0; exact ⟨rfl, d2, hd2, S3.out, hfin.1, hfin.2⟩)
         · (have k1z : ¬ (mid : Int) < (mid : Int) + (m : Int) - (s : Int) := by omega); go_wp2; all_goals (go_end0; exact ⟨rfl, d2, hd2, S3.out, hfin.1, hfin.2⟩)
     ·
      (have i1z : ¬ (s : Int) < (m : Int) := by omega); clear c1; by_cases c2 : a < s ∧ s < mid
      ·
       (have j1 : (a : Int) < (s : Int) := by omega); (have j2 : (s : Int) < (mid : Int) := by omega); have hc2 := IH.out a s mid d1 _ (by omega) S2.out c2.1 c2.2 (by omega) (by omega) (sym_two hC TT.out hcut.out he1 he2 hR2.out); rw [hd1] at hc2; clear S2
       go_wp2_with fail
       refine hc2.mono ?_; rintro e' w2 ⟨rfl, d2, hd2', S3', hP2', hs2'⟩; have S3 : Aside (SW enc w0 blk off d2 w2) := S3'; (have hd2 : d2.size = d.size := by omega); have hP2 : Hid (PermIn a mid d1 d2) := hP2'; have hs2 : Hid (SortedIn lt' a mid d2) := hs2'; clear S3' hP2' hs2' hd2' c2; by_cases c3 : mid < e ∧ e < b
       ·
        (have k1 : (mid : Int) < (mid : Int) + (m : Int) - (s : Int) := by omega); (have k2 : (mid : Int) + (m : Int) - (s : Int) < (b : Int) := by omega); have hc3 := IH.out mid e b d2 _ (by omega) S3.out c3.1 c3.2 (by omega) (by omega) (sym_two2 hC TT.out hcut.out he1 he2 hR2.out hP2.out (by omega)); rw [zs.out, hd2] at hc3; clear S3
        go_wp2_with fail
        all_goals
         refine hc3.mono ?_; rintro e' w3 ⟨rfl, d3, hd3, S4, hP3, hs3⟩
         go_wp2_with fail
         go_end0
         have hfin := sym_done hC TT.out hcut.out he1 he2 hR2.out (by omega) (by omega) hb hQ1.out hP2.out hs2.out hP3 hs3; exact ⟨rfl, d3, by omega, S4, hfin.1, hfin.2⟩
       ·
        have hfin := sym_done hC TT.out hcut.out he1 he2 hR2.out (by omega) (by omega) hb hQ1.out hP2.out hs2.out (permIn_refl d2 mid b) (sym_r hC TT.out hcut.out he1 he2 hR2.out hP2.out c3 (by omega)); by_cases k1 : mid < e
        · (have k1z : (mid : Int) < (mid : Int) + (m : Int) - (s : Int) := by omega); (have k2 : ¬ (mid : Int) + (m : Int) - (s : Int) < (b : Int) := by omega); go_wp2; all_goals (go_end0; exact ⟨rfl, d2, hd2, S3.out, hfin.1, hfin.2⟩)
        · (have k1z : ¬ (mid : Int) < (mid : Int) + (m : Int) - (s : Int) := by omega); go_wp2; all_goals (go_end0; exact ⟨rfl, d2, hd2, S3.out, hfin.1, hfin.2⟩)
      ·
       obtain ⟨d2, hd12⟩ : ∃ q, q = d1 := ⟨_, rfl⟩; have hs2 : Hid (SortedIn lt' a mid d2) := (by rw [hd12]; exact sym_l hC TT.out hcut.out he1 he2 hR2.out c2 (by omega)); have hP2 : Hid (PermIn a mid d1 d2) := (by rw [hd12]; exact permIn_refl d1 a mid); have S3 := S2; rw [← hd12] at S3; (have hd2 : d2.size = d.size := by rw [hd12]; exact hd1); clear S2 hd12; by_cases j1 : a < s
       ·
        (have j1z : (a : Int) < (s : Int) := by omega); (have j2 : ¬ (s : Int) < (mid : Int) := by omega); clear c2; by_cases c3 : mid < e ∧ e < b
        ·
         (have k1 : (mid : Int) < (mid : Int) + (m : Int) - (s : Int) := by omega); (have k2 : (mid : Int) + (m : Int) - (s : Int) < (b : Int) := by omega); have hc3 := IH.out mid e b d2 _ (by omega) S3.out c3.1 c3.2 (by omega) (by omega) (sym_two2 hC TT.out hcut.out he1 he2 hR2.out hP2.out (by omega)); rw [zs.out, hd2] at hc3; clear S3
         go_wp2_with fail
         all_goals
          refine hc3.mono ?_; rintro e' w3 ⟨rfl, d3, hd3, S4, hP3, hs3⟩
          go_wp2_with fail
          go_end0
          have hfin := sym_done hC TT.out hcut.out he1 he2 hR2.out (by omega) (by omega) hb hQ1.out hP2.out hs2.out hP3 hs3; exact ⟨rfl, d3, by omega, S4, hfin.1, hfin.2⟩
        ·
         have hfin := sym_done hC TT.out hcut.out he1 he2 hR2.out (by omega) (by omega) hb hQ1.out hP2.out hs2.out (permIn_refl d2 mid b) (sym_r hC TT.out hcut.out he1 he2 hR2.out hP2.out c3 (by omega)); by_cases k1 : mid < e
         · (have k1z : (mid : Int) < (mid : Int) + (m : Int) - (s : Int) := by omega); (have k2 : ¬ (mid : Int) + (m : Int) - (s : Int) < (b : Int) := by omega); go_wp2; all_goals (go_end0; exact ⟨rfl, d2, hd2, S3.out, hfin.1, hfin.2⟩)
         · (have k1z : ¬ (mid : Int) < (mid : Int) + (m : Int) - (s : Int) := by omega); go_wp2; all_goals (go_end0; exact ⟨rfl, d2, hd2, S3.out, hfin.1, hfin.2⟩)
       ·
        (have j1z : ¬ (a : Int) < (s : Int) := by omega); clear c2; by_cases c3 : mid < e ∧ e < b
        ·
         (have k1 : (mid : Int) < (mid : Int) + (m : Int) - (s : Int) := by omega); (have k2 : (mid : Int) + (m : Int) - (s : Int) < (b : Int) := by omega); have hc3 := IH.out mid e b d2 _ (by omega) S3.out c3.1 c3.2 (by omega) (by omega) (sym_two2 hC TT.out hcut.out he1 he2 hR2.out hP2.out (by omega)); rw [zs.out, hd2] at hc3; clear S3
         go_wp2_with fail
         all_goals
          refine hc3.mono ?_; rintro e' w3 ⟨rfl, d3, hd3, S4, hP3, hs3⟩
          go_wp2_with fail
          go_end0
          have hfin := sym_done hC TT.out hcut.out he1 he2 hR2.out (by omega) (by omega) hb hQ1.out hP2.out hs2.out hP3 hs3; exact ⟨rfl, d3, by omega, S4, hfin.1, hfin.2⟩
        ·
         have hfin := sym_done hC TT.out hcut.out he1 he2 hR2.out (by omega) (by omega) hb hQ1.out hP2.out hs2.out (permIn_refl d2 mid b) (sym_r hC TT.out hcut.out he1 he2 hR2.out hP2.out c3 (by omega)); by_cases k1 : mid < e
         · (have k1z : (mid : Int) < (mid : Int) + (m : Int) - (s : Int) := by omega); (have k2 : ¬ (mid : Int) + (m : Int) - (s : Int) < (b : Int) := by omega); go_wp2; all_goals (go_end0; exact ⟨rfl, d2, hd2, S3.out, hfin.1, hfin.2⟩)
         · (have k1z : ¬ (mid : Int) < (mid : Int) + (m : Int) - (s : Int) := by omega); go_wp2; all_goals (go_end0; exact ⟨rfl, d2, hd2, S3.out, hfin.1, hfin.2⟩)

end
end Go.Proofs.Ytjcjpeckfikfkaa
