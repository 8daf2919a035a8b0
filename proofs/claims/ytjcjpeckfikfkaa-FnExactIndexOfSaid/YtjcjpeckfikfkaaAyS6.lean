/-
  A part of the proof of this claim (AyS6): what functions of the program compute, and plain facts of that. No conditions.
-/
import Derived.Test.YtjcjpeckfikfkaaAyI
import Derived.Test.YtjcjpeckfikfkaaAyS5
set_option linter.all false
namespace Go.Proofs.Ytjcjpeckfikfkaa
open Go Go.Am
open Go.Shelf Go.RowKit Go.Lib Go.Sort
noncomputable section
variable {α : Type} [Inhabited α]

theorem merge_all (enc : α → Value) (cf : α → α → Int) {lt' : α → α → Bool} {v : α → Int} (hC : Cmp2 (ltOf cf) lt' v) (g : Nat) (cb : Array Value) (blk off cap : Nat) (d0 : Array α) (w0 : World)
  (eg : ∀ args w, (callFunc g args).run Try.prog w = .ok (.enter g args) w) (hcmp : CmpLays1 Try.prog g cb enc cf blk off d0.size w0) (R : Row1 enc w0 blk off d0) (hsz : d0.size < 4611686018427387904) : ∀ n, MergeOK enc lt' v g cb blk off cap d0 w0 n := by
 intro n
 induction n with
 | zero => intro a m b d w _ _ h1 h2 _ h3; omega
 | succ n ih =>
  intro a m b d w hd S ham hmb hb hn hT; by_cases h1 : m = a + 1
  · exact symA_c enc cf hC g cb blk off cap a m b d0 d w0 w eg hcmp R hd.symm S h1 hmb hb (by omega) (h1 ▸ hT)
  ·
   by_cases h2 : b = m + 1
   · subst h2; exact symB_c enc cf hC g cb blk off cap a m (m + 1) d0 d w0 w eg hcmp R hd.symm S (by omega) rfl hb (by omega) hT
   · exact symC_c enc cf hC g cb blk off cap a m b n d0 d w0 w eg hcmp R hd.symm S (by omega) (by omega) hb hn (by omega) hT ih

theorem Len.two {g : Nat} (h : Len g) : Len (2 * g) ∨ 2 * g = 640 := by
 unfold Len at *; omega

set_option maxHeartbeats 8000000 in
set_option maxRecDepth 1000000 in
theorem stable_c (enc : α → Value) (cf : α → α → Int) {lt' : α → α → Bool} {v : α → Int} (hC : Cmp2 (ltOf cf) lt' v) (g : Nat) (cb : Array Value) (blk off cap n : Nat) (d0 d : Array α) (w0 w : World)
  (eg : ∀ args w, (callFunc g args).run Try.prog w = .ok (.enter g args) w) (hcmp : CmpLays1 Try.prog g cb enc cf blk off d0.size w0) (R : Row1 enc w0 blk off d0) (hs : d0.size = d.size) (S : SW enc w0 blk off d w) (hnd : n = d.size) (hn4 : n ≤ 400) (hasc : ∀ i j, i < j → j < n → v d[i]! < v d[j]!) :
  Calls Try.prog 109 #[.slice (some ⟨blk, off, none⟩) n cap, .int .i64 n, .func (.func g) #[] cb] w fun e w' => e = .returned (.tuple #[]) ∧ ∃ d' : Array α, d'.size = n ∧ SW enc w0 blk off d' w' ∧ PermIn 0 n d d' ∧ SortedIn lt' 0 n d' := by
 have HC : Aside _ := hcmp; have S0 : Aside (SW enc w0 blk off d w) := S; have HN : Aside (n = d.size) := hnd; have MA : Aside (∀ n, MergeOK enc lt' v g cb blk off cap d0 w0 n) := merge_all enc cf hC g cb blk off cap d0 w0 eg hcmp R (by omega); have H0 : Hid (Ins lt' v 0 n d) := Ins.zero hasc; have hs' : d0.size = n := by omega
 have HI : Aside (∀ (a b : Nat) (dk : Array α) (wr : World), dk.size = n → SW enc w0 blk off dk wr → a ≤ b → b ≤ n → Calls Try.prog 115 #[.slice (some ⟨blk, off, none⟩) n cap, .int .i64 a, .int .i64 b, .func (.func g) #[] cb] wr fun e w' => e = .returned (.tuple #[]) ∧ SW enc w0 blk off (Sort.insertionSort (ltOf cf) dk a b) w') := by
  intro a b dk wr hdk hS hab hb; have := Any.insertionSortCmpFunc_s insInts enc cf g cb blk off cap a b d0 dk w0 wr eg hcmp R (by omega) hS hab (by omega) (by omega)
  rw [hdk] at this
  exact this
 clear S hcmp hs hnd hasc
 go_enter Try.func109, Try.ntmps109
 go_wp2
 go_loopg [7, 8] n (fun kx s7 s8 wr => ∃ (a : Nat) (dk : Array α), s7 = .int .i64 a ∧ s8 = .int .i64 ((a : Int) + 20) ∧ a % 20 = 0 ∧ a ≤ n ∧ n - a ≤ kx ∧ dk.size = n ∧ Aside (SW enc w0 blk off dk wr) ∧ Hid (Ins lt' v a n dk) ∧ Hid (PermIn 0 n d dk))
 case atStart => exact ⟨0, d, rfl, rfl, rfl, Nat.zero_le _, Nat.le_refl _, HN.out.symm, S0, H0, permIn_refl d 0 n⟩
 case round =>
  clear S0 H0; obtain ⟨a, dk, rfl, rfl, ha, han, hkx, hdk, S1, HS, HP⟩ := hrel; by_cases hlt : a + 20 ≤ n
  ·
   (have hltz : (a : Int) + 20 ≤ (n : Int) := by omega); have hcall := HI.out a (a + 20) dk wr hdk S1.out (by omega) hlt; rw [show ((a + 20 : Nat) : Int) = (a : Int) + 20 by omega] at hcall; obtain ⟨hp, hso⟩ := insertionA hC (d := dk) (a := a) (b := a + 20) (by omega) (by omega) (HS.out.asc hlt); have hst : Hid (Ins lt' v (a + 20) n (Sort.insertionSort (ltOf cf) dk a (a + 20))) := HS.out.step ha (by omega) hlt (Nat.le_refl _) (fun h => by omega) (by omega) hp hso; (have hsz : (Sort.insertionSort (ltOf cf) dk a (a + 20)).size = n := by rw [hp.1]; exact hdk); have hpm : Hid (PermIn 0 n d (Sort.insertionSort (ltOf cf) dk a (a + 20))) := permIn_trans _ _ _ _ _ HP.out (permIn_mono _ _ _ _ _ _ (Nat.zero_le _) hlt (by omega) hp); generalize Sort.insertionSort (ltOf cf) dk a (a + 20) = d2 at *; clear S1 hp hso HS HP
   go_wp2_with fail
   refine hcall.mono ?_; rintro e w1 ⟨rfl, S2⟩
   go_wp2_with fail
   go_roundg (n - (a + 20))
   case measure => omega
   case rel => exact ⟨a + 20, d2, (by first | rfl | (congr 1; done) | (congr 1; omega)), (by first | rfl | (congr 1; done) | (congr 1; omega)), by omega, by omega, Nat.le_refl _, hsz, S2, hst, hpm⟩
  ·
   (have hltz : ¬ (a : Int) + 20 ≤ (n : Int) := by omega); have hcall := HI.out a n dk wr hdk S1.out han (Nat.le_refl _); obtain ⟨hp, hso⟩ := insertionA hC (d := dk) (a := a) (b := n) han (by omega) (HS.out.asc (Nat.le_refl _)); have hst : Hid (Runs lt' v 20 0 n (Sort.insertionSort (ltOf cf) dk a n)) := (HS.out.step ha han (Nat.le_refl _) (by omega) (fun _ => rfl) (by omega) hp hso).runs (by omega); (have hsz : (Sort.insertionSort (ltOf cf) dk a n).size = n := by rw [hp.1]; exact hdk); have hpm : Hid (PermIn 0 n d (Sort.insertionSort (ltOf cf) dk a n)) := permIn_trans _ _ _ _ _ HP.out (permIn_mono _ _ _ _ _ _ (Nat.zero_le _) (Nat.le_refl _) (by omega) hp); generalize Sort.insertionSort (ltOf cf) dk a n = d2 at *; clear S1 hp hso HS HP hkx
   go_wp2_with fail
   refine hcall.mono ?_; rintro e w1 ⟨rfl, S2⟩; have S2 : Aside (SW enc w0 blk off d2 w1) := S2
   go_wp2_with fail
   go_loopg [6, 7, 8, 9] 640 (fun kx s6 s7 s8 s9 wr => ∃ (q : Nat) (dk : Array α), s6 = .int .i64 q ∧ (Len q ∨ q = 640) ∧ 1 ≤ q ∧ q ≤ 640 ∧ 640 - q ≤ kx ∧ dk.size = n ∧ Aside (SW enc w0 blk off dk wr) ∧ Hid (Runs lt' v q 0 n dk) ∧ Hid (PermIn 0 n d dk))
   case atStart => exact ⟨20, d2, rfl, .inl (.inl rfl), by omega, by omega, by omega, hsz, S2, hst, hpm⟩
   case round =>
    clear S2 hst hpm hsz hlt hltz; obtain ⟨q, dk, rfl, hq, hq1, hq6, hkx, hdk, S1, HS, HP⟩ := hrel; by_cases hlt : q < n
    ·
     (have hltz : (q : Int) < (n : Int) := by omega); have hL : Hid (Len q) := (by rcases hq with h | h; exact h; omega : Len q); have hLL : Hid (Len (2 * q) ∨ 2 * q = 640) := Len.two hL.out; (have hq3 : q ≤ 320 := by have := hL.out; unfold Len at this; omega); clear hq
     go_wp2_with fail
     go_loopg [7, 8] n (fun kx s7 s8 wr => ∃ (a : Nat) (dk : Array α), s7 = .int .i64 a ∧ s8 = .int .i64 ((a : Int) + 2 * (q : Int)) ∧ Hid (a % (2 * q) = 0) ∧ a ≤ n ∧ n - a ≤ kx ∧ dk.size = n ∧ Aside (SW enc w0 blk off dk wr) ∧ Hid (Runs lt' v q a n dk) ∧ Hid (PermIn 0 n d dk))
     case atStart => exact ⟨0, dk, rfl, (by first | rfl | (congr 1; done) | (congr 1; omega)), Nat.zero_mod _, Nat.zero_le _, Nat.le_refl _, hdk, S1, HS, HP⟩
     case round =>
      clear S1 HS HP hdk; rename_i kx0; obtain ⟨a, dk, rfl, rfl, ha, han, hkx2, hdk, S1, HS, HP⟩ := hrel; by_cases hl2 : a + 2 * q ≤ n
      ·
       (have hl2z : (a : Int) + 2 * (q : Int) ≤ (n : Int) := by omega); have hcall := MA.out n a (a + q) (a + 2 * q) dk wr (by omega) S1.out (by omega) (by omega) (by omega) (by omega) (HS.out.two hL.out ha.out (by omega) hl2 (Nat.le_refl _)); rw [show ((a + q : Nat) : Int) = (a : Int) + (q : Int) by omega, show ((a + 2 * q : Nat) : Int) = (a : Int) + 2 * (q : Int) by omega, hdk] at hcall; clear S1
       go_wp2_with fail
       refine hcall.mono ?_; rintro e w1 ⟨rfl, d2, hd2, S2, hp, hso⟩; have hst : Hid (Runs lt' v q (a + 2 * q) n d2) := HS.out.step hL.out ha.out (by omega) hl2 (Nat.le_refl _) (fun h => by omega) (by omega) hp hso; have hpm : Hid (PermIn 0 n d d2) := permIn_trans _ _ _ _ _ HP.out (permIn_mono _ _ _ _ _ _ (Nat.zero_le _) hl2 (by omega) hp); have S2 : Aside (SW enc w0 blk off d2 w1) := S2; clear hp hso HS HP
       go_wp2_with fail
       go_roundg (n - (a + 2 * q))
       case measure => omega
       case rel => exact ⟨a + 2 * q, d2, (by first | rfl | (congr 1; done) | (congr 1; omega)), (by first | rfl | (congr 1; done) | (congr 1; omega)), (by have := ha.out; show (a + 2 * q) % (2 * q) = 0; rw [Nat.add_mod_right]; exact this), hl2, Nat.le_refl _, hd2, S2, hst, hpm⟩
      ·
       (have hl2z : ¬ (a : Int) + 2 * (q : Int) ≤ (n : Int) := by omega); by_cases hm : a + q < n
       ·
        (have hmz : (a : Int) + (q : Int) < (n : Int) := by omega); have hcall := MA.out n a (a + q) n dk wr (by omega) S1.out (by omega) hm (by omega) (by omega) (HS.out.two hL.out ha.out (by omega) (Nat.le_refl _) (by omega)); rw [show ((a + q : Nat) : Int) = (a : Int) + (q : Int) by omega, hdk] at hcall; clear S1
        go_wp2_with fail
        refine hcall.mono ?_; rintro e w1 ⟨rfl, d2, hd2, S2, hp, hso⟩; have hst : Hid (Runs lt' v (2 * q) 0 n d2) := (HS.out.step hL.out ha.out han (Nat.le_refl _) (by omega) (fun _ => rfl) (by omega) hp hso).next (by omega); have hpm : Hid (PermIn 0 n d d2) := permIn_trans _ _ _ _ _ HP.out (permIn_mono _ _ _ _ _ _ (Nat.zero_le _) (Nat.le_refl _) (by omega) hp); have S2 : Aside (SW enc w0 blk off d2 w1) := S2; clear hp hso HS HP
        go_wp2_with fail
        go_roundg (640 - 2 * q)
        case measure => omega
        case rel => exact ⟨2 * q, d2, (by first | rfl | (congr 1; done) | (congr 1; omega)), hLL.out, by omega, by omega, Nat.le_refl _, hd2, S2, hst, hpm⟩
       ·
        (have hmz : ¬ (a : Int) + (q : Int) < (n : Int) := by omega); have hst : Hid (Runs lt' v (2 * q) 0 n dk) := (HS.out.skip hL.out ha.out (by omega)).next (by omega); clear HS
        go_wp2_with fail
        go_roundg (640 - 2 * q)
        case measure => omega
        case rel => exact ⟨2 * q, dk, (by first | rfl | (congr 1; done) | (congr 1; omega)), hLL.out, by omega, by omega, Nat.le_refl _, hdk, S1, hst, HP⟩
    ·
     (have hltz : ¬ (q : Int) < (n : Int) := by omega); go_wp2
     go_end0
     exact ⟨rfl, dk, hdk, S1.out, HP.out, HS.out.done (by omega)⟩

end
end Go.Proofs.Ytjcjpeckfikfkaa
