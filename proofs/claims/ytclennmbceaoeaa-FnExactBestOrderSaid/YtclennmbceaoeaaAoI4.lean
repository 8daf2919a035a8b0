/-
  A part of the proof of this claim (AoI4): what functions of the program compute, and plain facts of that. No conditions.
-/
import Derived.Test.YtclennmbceaoeaaAoI3
set_option linter.all false
namespace Go.Proofs.Ytclennmbceaoeaa
open Go Go.Am
open Go.RowKit
noncomputable section

theorem mk1 : ∀ (n : Fin 6) (m : Fin 32) (i : Fin 5), (m.val : Int) < (1 : Int) * 2 ^ n.val → i.val < n.val → bits .and .i64 (m.val : Int) ((1 : Int) * 2 ^ i.val) = 0 →
  0 ≤ bits .or .i64 (m.val : Int) ((1 : Int) * 2 ^ i.val) ∧ bits .or .i64 (m.val : Int) ((1 : Int) * 2 ^ i.val) < (1 : Int) * 2 ^ n.val ∧ pc (bits .or .i64 (m.val : Int) ((1 : Int) * 2 ^ i.val)).toNat = pc m.val + 1 := by decide +kernel

theorem mk2 : ∀ (n : Fin 6) (m : Fin 32), (m.val : Int) < (1 : Int) * 2 ^ n.val → n.val ≤ pc m.val → (m.val : Int) = (1 : Int) * 2 ^ n.val - 1 := by decide +kernel

theorem mk3 : ∀ n : Fin 6, (1 : Int) * 2 ^ n.val ≤ 32 := by decide

structure MK (n : Nat) (l : List Int) (mask : Int) : Prop where
 m0 : 0 ≤ mask
 lt : mask < (1 : Int) * 2 ^ n
 pc : pc mask.toNat = l.length
 rl : RL n l

theorem MK.lt32 {n : Nat} {l : List Int} {mask : Int} (h : MK n l mask) (hn : n ≤ 5) : mask < 32 := by
 have := mk3 ⟨n, by omega⟩; have := h.lt; simp only at *; omega

theorem MK.next {n : Nat} {l : List Int} {mask : Int} (h : MK n l mask) (hn : n ≤ 5) {i : Nat} (hi : i < n) (hb : bits .and .i64 mask ((1 : Int) * 2 ^ i) = 0) : MK n (l ++ [((i : Nat) : Int)]) (bits .or .i64 mask ((1 : Int) * 2 ^ i)) := by
 have h0 := h.m0; have h32 := h.lt32 hn; have := mk1 ⟨n, by omega⟩ ⟨mask.toNat, by omega⟩ ⟨i, by omega⟩
 simp only [Int.toNat_of_nonneg h0] at this
 obtain ⟨a, b, c⟩ := this h.lt hi hb; exact ⟨a, b, by rw [c, h.pc]; simp, h.rl.snoc hi⟩

theorem MK.all {g : Graph} (hV : VG g) {l : List Int} {mask : Int} (h : MK g.Rows.length l mask) (hl : g.Rows.length ≤ l.length) : mask = gAll g := by
 have h5 := hV.n5; have h0 := h.m0; have h32 := h.lt32 h5; have := mk2 ⟨g.Rows.length, by omega⟩ ⟨mask.toNat, by omega⟩
 simp only [Int.toNat_of_nonneg h0, h.pc] at this
 exact this h.lt hl

theorem slice_inv {A : Nat → Prop} {w : World} {t : Ty} {xs : List t.den} {cs : List Value} (h : RepC A w (.slice t) xs cs) : ∃ p C, cs = [.slice p xs.length C] := by
 cases h with
 | nil => exact ⟨none, 0, rfl⟩
 | slice t xs a cap css hl hcap hA hs hlen hc hr => exact ⟨some a, cap, rfl⟩

theorem mk4 : ∀ n : Fin 6, 1 ≤ n.val → 1 ≤ (1 : Int) * 2 ^ n.val - 1 := by decide

theorem gAll_1 {g : Graph} (hV : VG g) : 1 ≤ gAll g := by
 have h1 := hV.n1; have h5 := hV.n5; exact mk4 ⟨g.Rows.length, by omega⟩ h1

theorem XW.rows {A : Nat → Prop} {w : World} {gb cb bb xb : Nat} {g : Graph} {c : Int} {bv : Value} (h : XW A w gb cb bb xb g c bv) : ∃ p C, w.cell? ⟨gb, 0, none⟩ = some (.slice p (List.length g.Rows) C) := by
 obtain ⟨gcs, el, h1, h2⟩ := h.hg
 have e : w.cell? ⟨gb, 0, none⟩ = gcs.toList[0]? := by
  unfold World.cell?; rw [h1]; simp
 rw [e]; generalize gcs.toList = l at h2
 cases h2 with
 | named n x cs h =>
  have h : RepL A w [⟨.slice (.int .i64), g.Rows⟩, ⟨.slice (.named 0), g.Edges⟩] l := h
  cases h with
  | cons t x r cs ds h' k =>
   obtain ⟨p, C, rfl⟩ := slice_inv h'; exact ⟨p, C, rfl⟩

theorem leaf_upd {l : List Int} {c : Int} {r : Rz} (h : r.2 = -1 ∨ c < r.2) : leaf l c r = (l, c) := by
 unfold leaf; rcases h with h | h
 · rw [h]; rfl
 ·
  cases (r.2 == -1) with
  | true => rfl
  | false => rw [cond_false, decide_eq_true h, cond_true]

set_option maxHeartbeats 4000000 in
set_option maxRecDepth 1000000 in
theorem ext_leaf {g : Graph} (hV : VG g) {A : Nat → Prop} {w : World} {gb cb bb xb : Nat} {ov bv : Value} {os : List Int} {mask cost : Int} {r : Rz} (hX : XW A w gb cb bb xb g r.2 bv) (hR : row w ov os) (ha : Apart A cb bb ov)
  (hM : MK g.Rows.length os mask) (hl : os.length ≤ 5) (hm : mask = gAll g) :
  Calls Try.prog 22 #[ov, .int .i64 mask, .int .i64 cost, .pointer (some ⟨gb, 0, none⟩), .pointer (some ⟨cb, 0, none⟩), .pointer (some ⟨bb, 0, none⟩), .pointer (some ⟨xb, 0, none⟩)] w fun e w' => e = .returned (.tuple #[]) ∧ XP w w' cb bb ov os bv r (leaf os cost r) := by
 have hne : os ≠ [] := by
  rintro rfl; have h1 := hM.pc; have hA := gAll_1 hV; have := (pc_one ⟨mask.toNat, by have := hM.lt32 hV.n5; have := hM.m0; omega⟩).1 (by simp only; omega)
  simp only at this
  rw [h1] at this
  exact absurd this (by decide)
 have hrng : ∀ x ∈ os, -9223372036854775808 ≤ x ∧ x ≤ 9223372036854775807 := by
  intro x hx; obtain ⟨i, hi, rfl⟩ := List.mem_iff_getElem.1 hx; have := hM.rl i hi; have h5 := hV.n5
  rw [List.getD_eq_getElem?_getD, List.getElem?_eq_getElem hi, Option.getD_some] at this
  omega
 subst hm
 go_enter Try.func22, Try.ntmps22
 go_wp2_with fail
 refine (gAll_call hX hV).mono ?_; rintro e w1 ⟨rfl, hG1⟩; have hX1 := hX.grow hG1; have hR1 : row w1 ov os := hR.keep fun b hb => hG1.old b (hR.lt hb); obtain ⟨el1, hc1⟩ := hX1.hc; obtain ⟨c1, f1⟩ := cell_of hc1
 have upd : ∀ w2 v, Grow w1 w2 → Own w1 w2 v os → leaf os cost r = (os, cost) → XP w ((w2.setCell ⟨bb, 0, none⟩ v).setCell ⟨cb, 0, none⟩ (.int .i64 cost)) cb bb ov os bv r (leaf os cost r) := by
  intro w2 v hG2 hO e; rw [e]; have hG := hG1.trans hG2; have hX2 := hX.grow hG; obtain ⟨ec, hc2⟩ := hX2.hc; obtain ⟨eb, hb2⟩ := hX2.hb; obtain ⟨b, C, cs, el, rfl, k1, k2, k3, k4⟩ := hO; have hlc := hX.lc; have hlb := hX.lb; have hs1 := hG1.size
  have hcb : ((w2.setCell ⟨bb, 0, none⟩ (.slice (some ⟨b, 0, none⟩) os.length C)).heap[cb]?) = some (.cells #[.int .i64 r.2] ec (0, 0)) := by
   rw [Go.heap_setCell_other _ _ _ _ (show cb ≠ bb from hX.ne)]; exact hc2
  have ho : ∀ c, c ≠ cb → c ≠ bb → ((w2.setCell ⟨bb, 0, none⟩ (.slice (some ⟨b, 0, none⟩) os.length C)).setCell ⟨cb, 0, none⟩ (.int .i64 cost)).heap[c]? = w2.heap[c]? := fun c h1 h2 => by
   rw [Go.heap_setCell_other _ _ _ _ (show c ≠ cb from h1), Go.heap_setCell_other _ _ _ _ (show c ≠ bb from h2)]
  refine ⟨hG.os, hG.tape, hG.output, ?_, fun c hc h1 h2 _ => (ho c h1 h2).trans (hG.old c hc), ?_, ⟨ec, ?_⟩, .slice (some ⟨b, 0, none⟩) os.length C, eb, ?_, rfl, .inr ⟨b, C, cs, el, rfl, by omega, ?_, ?_, k4⟩⟩
  · rw [World.size_setCell, World.size_setCell]; exact hG.size
  · refine hR.keep fun q hq => ?_; obtain ⟨_, q1, q2⟩ := ha q hq; exact (ho q q1 q2).trans (hG.old q (hR.lt hq))
  · rw [Go.heap_setCell_same _ _ _ _ _ _ hcb]; rfl
  · rw [Go.heap_setCell_other _ _ _ _ (show bb ≠ cb from Ne.symm hX.ne), Go.heap_setCell_same _ _ _ _ _ _ hb2]; rfl
  · rw [World.size_setCell, World.size_setCell]; exact k2
  · exact (ho b (by omega) (by omega)).trans k3
 go_wp2_with fail
 ·
  rename_i he _ _; (have hle : leaf os cost r = (os, cost) := leaf_upd (by first | exact .inl he | exact .inr he | exact .inr he.2 | (simp at he; omega))); refine (copied_call hR1 hne (by omega) hrng).mono ?_; rintro e w2 ⟨v, rfl, hG2, hO⟩; have hO0 := hO; obtain ⟨b', C', _, _, rfl, _⟩ := hO; have hX2 := hX1.grow hG2; obtain ⟨el2, hc2⟩ := hX2.hc; obtain ⟨c2, f2⟩ := cell_of hc2; obtain ⟨el3, hb2⟩ := hX2.hb; obtain ⟨c3, f3⟩ := cell_of hb2; have hne2 := hX.ne
  go_wp2_with fail
  refine bodyPost_ret (results_none rfl _ _ _) rfl ?_; exact ⟨rfl, upd _ _ hG2 hO0 hle⟩
 ·
  rename_i he _ _; (have hle : leaf os cost r = (os, cost) := leaf_upd (by first | exact .inl he | exact .inr he | exact .inr he.2 | (simp at he; omega))); refine (copied_call hR1 hne (by omega) hrng).mono ?_; rintro e w2 ⟨v, rfl, hG2, hO⟩; have hO0 := hO; obtain ⟨b', C', _, _, rfl, _⟩ := hO; have hX2 := hX1.grow hG2; obtain ⟨el2, hc2⟩ := hX2.hc; obtain ⟨c2, f2⟩ := cell_of hc2; obtain ⟨el3, hb2⟩ := hX2.hb; obtain ⟨c3, f3⟩ := cell_of hb2; have hne2 := hX.ne
  go_wp2_with fail
  refine bodyPost_ret (results_none rfl _ _ _) rfl ?_; exact ⟨rfl, upd _ _ hG2 hO0 hle⟩
 ·
  refine bodyPost_ret (results_none rfl _ _ _) rfl ?_; rename_i h1 h2
  have e : leaf os cost r = r := by
   unfold leaf; rw [h2.1, cond_false, decide_eq_false (by omega), cond_false]
  rw [e]; exact ⟨rfl, XP.start hX hR hG1⟩
end
end Go.Proofs.Ytclennmbceaoeaa
