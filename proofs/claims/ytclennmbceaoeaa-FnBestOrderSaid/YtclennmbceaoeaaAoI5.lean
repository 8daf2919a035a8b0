/-
  A part of the proof of this claim (AoI5): what functions of the program compute, and plain facts of that. No conditions.
-/
import Derived.Test.YtclennmbceaoeaaAoI3
import Derived.Deep.RegionHeld3
set_option linter.all false
namespace Go.Proofs.Ytclennmbceaoeaa
open Go Go.Am
open Go.RowKit
noncomputable section

theorem mk1 : ∀ (n : Fin 6) (m : Fin 32) (i : Fin 5), (m.val : Int) < (1 : Int) * 2 ^ n.val → i.val < n.val → bits .and .i64 (m.val : Int) ((1 : Int) * 2 ^ i.val) = 0 →
  0 ≤ bits .or .i64 (m.val : Int) ((1 : Int) * 2 ^ i.val) ∧ bits .or .i64 (m.val : Int) ((1 : Int) * 2 ^ i.val) < (1 : Int) * 2 ^ n.val ∧ pc (bits .or .i64 (m.val : Int) ((1 : Int) * 2 ^ i.val)).toNat = pc m.val + 1 := by decide +kernel

theorem mk2 : ∀ (n : Fin 6) (m : Fin 32), (m.val : Int) < (1 : Int) * 2 ^ n.val → n.val ≤ pc m.val → (m.val : Int) = (1 : Int) * 2 ^ n.val - 1 := by decide +kernel

theorem mk3 : ∀ n : Fin 6, (1 : Int) * 2 ^ n.val ≤ 32 := by decide

structure MK (n : Nat) (l : List Int) (mask : Int) : Prop where
 m0 : 0 ≤ mask
 lt : mask < (1 : Int) * 2 ^ n
 pc : pc mask.toNat = l.length
 rl : RL n l

theorem MK.lt32 {n : Nat} {l : List Int} {mask : Int} (h : MK n l mask) (hn : n ≤ 5) : mask < 32 := by
 have := mk3 ⟨n, by omega⟩; have := h.lt; simp only at *; omega

theorem MK.next {n : Nat} {l : List Int} {mask : Int} (h : MK n l mask) (hn : n ≤ 5) {i : Nat} (hi : i < n) (hb : bits .and .i64 mask ((1 : Int) * 2 ^ i) = 0) : MK n (l ++ [((i : Nat) : Int)]) (bits .or .i64 mask ((1 : Int) * 2 ^ i)) := by
 have h0 := h.m0; have h32 := h.lt32 hn; have := mk1 ⟨n, by omega⟩ ⟨mask.toNat, by omega⟩ ⟨i, by omega⟩
 simp only [Int.toNat_of_nonneg h0] at this
 obtain ⟨a, b, c⟩ := this h.lt hi hb; exact ⟨a, b, by rw [c, h.pc]; simp, h.rl.snoc hi⟩

theorem MK.all {g : Graph} (hV : VG g) {l : List Int} {mask : Int} (h : MK g.Rows.length l mask) (hl : g.Rows.length ≤ l.length) : mask = gAll g := by
 have h5 := hV.n5; have h0 := h.m0; have h32 := h.lt32 h5; have := mk2 ⟨g.Rows.length, by omega⟩ ⟨mask.toNat, by omega⟩
 simp only [Int.toNat_of_nonneg h0, h.pc] at this
 exact this h.lt hl

theorem slice_inv {A : Nat → Prop} {w : World} {t : Ty} {xs : List t.den} {cs : List Value} (h : RepC A w (.slice t) xs cs) : ∃ p C, cs = [.slice p xs.length C] := by
 cases h with
 | nil => exact ⟨none, 0, rfl⟩
 | slice t xs a cap css hl hcap hA hs hlen hc hr => exact ⟨some a, cap, rfl⟩

theorem mk4 : ∀ n : Fin 6, 1 ≤ n.val → 1 ≤ (1 : Int) * 2 ^ n.val - 1 := by decide

theorem gAll_1 {g : Graph} (hV : VG g) : 1 ≤ gAll g := by
 have h1 := hV.n1; have h5 := hV.n5; exact mk4 ⟨g.Rows.length, by omega⟩ h1

theorem XW.rows {A : Nat → Prop} {w : World} {gb cb bb xb : Nat} {g : Graph} {c : Int} {bv : Value} (h : XW A w gb cb bb xb g c bv) : ∃ p C, w.cell? ⟨gb, 0, none⟩ = some (.slice p (List.length g.Rows) C) := by
 obtain ⟨gcs, el, h1, h2⟩ := h.hg
 have e : w.cell? ⟨gb, 0, none⟩ = gcs.toList[0]? := by
  unfold World.cell?; rw [h1]; simp
 rw [e]; generalize gcs.toList = l at h2
 cases h2 with
 | named n x cs h =>
  have h : RepL A w [⟨.slice (.int .i64), g.Rows⟩, ⟨.slice (.named 0), g.Edges⟩] l := h
  cases h with
  | cons t x r cs ds h' k =>
   obtain ⟨p, C, rfl⟩ := slice_inv h'; exact ⟨p, C, rfl⟩

theorem leaf_upd {l : List Int} {c : Int} {r : Rz} (h : r.2 = -1 ∨ c < r.2) : leaf l c r = (l, c) := by
 unfold leaf; rcases h with h | h
 · rw [h]; rfl
 ·
  cases (r.2 == -1) with
  | true => rfl
  | false => rw [cond_false, decide_eq_true h, cond_true]

set_option maxHeartbeats 4000000 in
set_option maxRecDepth 1000000 in
theorem ext_leaf {g : Graph} (hV : VG g) {A : Nat → Prop} {w : World} {gb cb bb xb : Nat} {ov bv : Value} {os : List Int} {mask cost : Int} {r : Rz} (hX : XW A w gb cb bb xb g r.2 bv) (hR : row w ov os) (ha : Apart A cb bb ov)
  (hM : MK g.Rows.length os mask) (hl : os.length ≤ 5) (hm : mask = gAll g) :
  Calls Try.prog 22 #[ov, .int .i64 mask, .int .i64 cost, .pointer (some ⟨gb, 0, none⟩), .pointer (some ⟨cb, 0, none⟩), .pointer (some ⟨bb, 0, none⟩), .pointer (some ⟨xb, 0, none⟩)] w fun e w' => e = .returned (.tuple #[]) ∧ XP w w' cb bb ov os bv r (leaf os cost r) := by
 have hne : os ≠ [] := by
  rintro rfl; have h1 := hM.pc; have hA := gAll_1 hV; have := (pc_one ⟨mask.toNat, by have := hM.lt32 hV.n5; have := hM.m0; omega⟩).1 (by simp only; omega)
  simp only at this
  rw [h1] at this
  exact absurd this (by decide)
 have hrng : ∀ x ∈ os, -9223372036854775808 ≤ x ∧ x ≤ 9223372036854775807 := by
  intro x hx; obtain ⟨i, hi, rfl⟩ := List.mem_iff_getElem.1 hx; have := hM.rl i hi; have h5 := hV.n5
  rw [List.getD_eq_getElem?_getD, List.getElem?_eq_getElem hi, Option.getD_some] at this
  omega
 subst hm
 go_enter Try.func22, Try.ntmps22
 go_wp2_with fail
 refine (gAll_call hX hV).mono ?_; rintro e w1 ⟨rfl, hG1⟩; have hX1 := hX.grow hG1; have hR1 : row w1 ov os := hR.keep fun b hb => hG1.old b (hR.lt hb); obtain ⟨el1, hc1⟩ := hX1.hc; obtain ⟨c1, f1⟩ := cell_of hc1
 have upd : ∀ w2 v, Grow w1 w2 → Own w1 w2 v os → leaf os cost r = (os, cost) → XP w ((w2.setCell ⟨bb, 0, none⟩ v).setCell ⟨cb, 0, none⟩ (.int .i64 cost)) cb bb ov os bv r (leaf os cost r) := by
  intro w2 v hG2 hO e; rw [e]; have hG := hG1.trans hG2; have hX2 := hX.grow hG; obtain ⟨ec, hc2⟩ := hX2.hc; obtain ⟨eb, hb2⟩ := hX2.hb; obtain ⟨b, C, cs, el, rfl, k1, k2, k3, k4⟩ := hO; have hlc := hX.lc; have hlb := hX.lb; have hs1 := hG1.size
  have hcb : ((w2.setCell ⟨bb, 0, none⟩ (.slice (some ⟨b, 0, none⟩) os.length C)).heap[cb]?) = some (.cells #[.int .i64 r.2] ec (0, 0)) := by
   rw [Go.heap_setCell_other _ _ _ _ (show cb ≠ bb from hX.ne)]; exact hc2
  have ho : ∀ c, c ≠ cb → c ≠ bb → ((w2.setCell ⟨bb, 0, none⟩ (.slice (some ⟨b, 0, none⟩) os.length C)).setCell ⟨cb, 0, none⟩ (.int .i64 cost)).heap[c]? = w2.heap[c]? := fun c h1 h2 => by
   rw [Go.heap_setCell_other _ _ _ _ (show c ≠ cb from h1), Go.heap_setCell_other _ _ _ _ (show c ≠ bb from h2)]
  refine ⟨hG.os, hG.tape, hG.output, ?_, fun c hc h1 h2 _ => (ho c h1 h2).trans (hG.old c hc), ?_, ⟨ec, ?_⟩, .slice (some ⟨b, 0, none⟩) os.length C, eb, ?_, rfl, .inr ⟨b, C, cs, el, rfl, by omega, ?_, ?_, k4⟩⟩
  · rw [World.size_setCell, World.size_setCell]; exact hG.size
  · refine hR.keep fun q hq => ?_; obtain ⟨_, q1, q2⟩ := ha q hq; exact (ho q q1 q2).trans (hG.old q (hR.lt hq))
  · rw [Go.heap_setCell_same _ _ _ _ _ _ hcb]; rfl
  · rw [Go.heap_setCell_other _ _ _ _ (show bb ≠ cb from Ne.symm hX.ne), Go.heap_setCell_same _ _ _ _ _ _ hb2]; rfl
  · rw [World.size_setCell, World.size_setCell]; exact k2
  · exact (ho b (by omega) (by omega)).trans k3
 go_wp2_with fail
 ·
  rename_i he _ _; (have hle : leaf os cost r = (os, cost) := leaf_upd (by first | exact .inl he | exact .inr he | exact .inr he.2 | (simp at he; omega))); refine (copied_call hR1 hne (by omega) hrng).mono ?_; rintro e w2 ⟨v, rfl, hG2, hO⟩; have hO0 := hO; obtain ⟨b', C', _, _, rfl, _⟩ := hO; have hX2 := hX1.grow hG2; obtain ⟨el2, hc2⟩ := hX2.hc; obtain ⟨c2, f2⟩ := cell_of hc2; obtain ⟨el3, hb2⟩ := hX2.hb; obtain ⟨c3, f3⟩ := cell_of hb2; have hne2 := hX.ne
  go_wp2_with fail
  refine bodyPost_ret (results_none rfl _ _ _) rfl ?_; exact ⟨rfl, upd _ _ hG2 hO0 hle⟩
 ·
  rename_i he _ _; (have hle : leaf os cost r = (os, cost) := leaf_upd (by first | exact .inl he | exact .inr he | exact .inr he.2 | (simp at he; omega))); refine (copied_call hR1 hne (by omega) hrng).mono ?_; rintro e w2 ⟨v, rfl, hG2, hO⟩; have hO0 := hO; obtain ⟨b', C', _, _, rfl, _⟩ := hO; have hX2 := hX1.grow hG2; obtain ⟨el2, hc2⟩ := hX2.hc; obtain ⟨c2, f2⟩ := cell_of hc2; obtain ⟨el3, hb2⟩ := hX2.hb; obtain ⟨c3, f3⟩ := cell_of hb2; have hne2 := hX.ne
  go_wp2_with fail
  refine bodyPost_ret (results_none rfl _ _ _) rfl ?_; exact ⟨rfl, upd _ _ hG2 hO0 hle⟩
 ·
  refine bodyPost_ret (results_none rfl _ _ _) rfl ?_; rename_i h1 h2
  have e : leaf os cost r = r := by
   unfold leaf; rw [h2.1, cond_false, decide_eq_false (by omega), cond_false]
  rw [e]; exact ⟨rfl, XP.start hX hR hG1⟩
end
end Go.Proofs.Ytclennmbceaoeaa


namespace Go.Proofs.Ytclennmbceaoeaa
open Go Go.Am
open Go.RowKit
noncomputable section

def extMu (n : Nat) (a : Act) (_ : World) : Nat := match a.tmps[29]? with
 | some (Value.int _ p) => ((n : Int) - p).toNat
 | _ => 0

theorem extMu_at (n : Nat) (p : Int) (ts : Array Value) (d : List Deferred) (w : World) (h : ts[29]? = some (.int .i64 p)) : extMu n { tmps := ts, defers := d } w = ((n : Int) - p).toNat := by
 unfold extMu; rw [h]

def ExtSpec (g : Graph) (f : Nat) : Prop := ∀ (A : Nat → Prop) (w : World) (gb cb bb xb : Nat) (ov bv : Value) (os : List Int) (mask cost : Int) (r : Rz), XW A w gb cb bb xb g r.2 bv → row w ov os → Apart A cb bb ov →
 MK g.Rows.length os mask → g.Rows.length ≤ os.length + f → (0 ≤ cost ∧ cost ≤ 1000000000000000 * (os.length : Int)) →
  Calls Try.prog 22 #[ov, .int .i64 mask, .int .i64 cost, .pointer (some ⟨gb, 0, none⟩), .pointer (some ⟨cb, 0, none⟩), .pointer (some ⟨bb, 0, none⟩), .pointer (some ⟨xb, 0, none⟩)] w fun e w' => e = .returned (.tuple #[]) ∧ XP w w' cb bb ov os bv r (ext g f os mask cost r)

theorem extL_set {g : Graph} {s : List Int → Int → Int → Rz → Rz} {l : List Int} {m c : Int} {i : Nat} {r : Rz} (hi : i < g.Rows.length) (hb : bits .and .i64 m ((2 : Int) ^ i) ≠ 0) : extL g s l m c (g.Rows.length - i + 1) i r = extL g s l m c (g.Rows.length - (i + 1) + 1) (i + 1) r := by
 rw [show g.Rows.length - i + 1 = (g.Rows.length - (i + 1) + 1) + 1 by omega]; (conv => lhs; unfold extL); rw [decide_eq_true (by omega), cond_true, Int.one_mul, show (bits .and .i64 m ((2 : Int) ^ i) != 0) = true from bne_iff_ne.2 hb, cond_true]

theorem extL_unset {g : Graph} {s : List Int → Int → Int → Rz → Rz} {l : List Int} {m c : Int} {i : Nat} {r : Rz} (hi : i < g.Rows.length) (hb : bits .and .i64 m ((2 : Int) ^ i) = 0) : extL g s l m c (g.Rows.length - i + 1) i r =
  extL g s l m c (g.Rows.length - (i + 1) + 1) (i + 1) (s (l ++ [((i : Nat) : Int)]) (bits .or .i64 m ((2 : Int) ^ i)) (c + (bif m != 0 then gSize g (bits .or .i64 m ((2 : Int) ^ i)) else 0)) r) := by
 rw [show g.Rows.length - i + 1 = (g.Rows.length - (i + 1) + 1) + 1 by omega]; (conv => lhs; unfold extL); rw [decide_eq_true (by omega), cond_true, Int.one_mul, hb]; rfl

theorem extL_end {g : Graph} {s : List Int → Int → Int → Rz → Rz} {l : List Int} {m c : Int} {k i : Nat} {r : Rz} (hi : ¬ i < g.Rows.length) : extL g s l m c k i r = r := by
 cases k with
 | zero => rfl
 | succ k =>
  unfold extL; rw [decide_eq_false (by omega), cond_false]

theorem Grow.alloc (w : World) (o : Obj) : Grow w (w.alloc o) := ⟨rfl, rfl, rfl, by simp, fun c hc => by
 show (w.heap.push _)[c]? = _
 rw [Array.getElem?_push, if_neg (by omega)]⟩

theorem XP.clo {A : Nat → Prop} {w w1 : World} {gb cb bb xb : Nat} {g : Graph} {ov bv : Value} {l : List Int} {r r' : Rz} (p : XP w w1 cb bb ov l bv r r') (h : XW A w gb cb bb xb g r.2 bv) (ha : Apart A cb bb ov) : w1.cell? ⟨xb, 0, none⟩ = some (Proofs.Ytclennmbceaoeaa.clo gb cb bb xb) := by
 obtain ⟨bv', h1, _⟩ := p.xw h ha; obtain ⟨el, e⟩ := h1.hx; exact (cell_of e).1

theorem AP.cell {w w' : World} {ov ov' : Value} {l : List Int} {x : Int} (h : AP w w' ov ov' l x) {b : Nat} (hb : b < w.heap.size) (hne : some b ≠ blockOf ov) {v : Value} (hc : w.cell? ⟨b, 0, none⟩ = some v) : w'.cell? ⟨b, 0, none⟩ = some v := by
 rw [← hc]; exact World.cell?_of_block (h.old b hb hne)

set_option maxHeartbeats 4000000 in
set_option maxRecDepth 1000000 in
theorem ext_step {g : Graph} (hV : VG g) {f : Nat} (ih : ExtSpec g f) {A : Nat → Prop} {w : World} {gb cb bb xb : Nat} {ov bv : Value} {os : List Int} {mask cost : Int} {r : Rz} (hX : XW A w gb cb bb xb g r.2 bv) (hR : row w ov os) (ha : Apart A cb bb ov)
  (hM : MK g.Rows.length os mask) (hf : g.Rows.length ≤ os.length + (f + 1)) (hc : 0 ≤ cost ∧ cost ≤ 1000000000000000 * (os.length : Int)) (hl : os.length ≤ 5) (hm : mask ≠ gAll g) :
  Calls Try.prog 22 #[ov, .int .i64 mask, .int .i64 cost, .pointer (some ⟨gb, 0, none⟩), .pointer (some ⟨cb, 0, none⟩), .pointer (some ⟨bb, 0, none⟩), .pointer (some ⟨xb, 0, none⟩)] w fun e w' => e = .returned (.tuple #[]) ∧ XP w w' cb bb ov os bv r (extL g (ext g f) os mask cost (List.length g.Rows - 0 + 1) 0 r) := by
 have hmb : (mask == gAll g) = false := beq_false_of_ne hm; have h5 := hV.n5
 go_enter Try.func22, Try.ntmps22
 go_wp2_with fail
 refine (gAll_call hX hV).mono ?_; rintro e w1 ⟨rfl, hG1⟩; have hX1 := hX.grow hG1; obtain ⟨p0, C0, hrow⟩ := hX1.rows
 go_wp2_with fail
 refine wp_loop (fun a w' => ∃ (i : Nat) (r' : Rz) (v10 v11 v12 v30 v31 v32 v33 v34 v35 v36 v37 v38 v39 v40 v41 v42 v43 v44 v45 v46 v47 v48 v49 v50 v51 v52 v53 v54 v55 : Value), a = { tmps := #[ov, .int .i64 mask, .int .i64 cost, .pointer (some ⟨gb, 0, none⟩), .pointer (some ⟨cb, 0, none⟩), .pointer (some ⟨bb, 0, none⟩), .pointer (some ⟨xb, 0, none⟩), undef, undef, undef, v10, v11, v12, .int .i64 mask, .int .i64 (gAll g), .bool false, undef, undef, undef, undef, undef, undef, undef, undef, undef, undef, .pointer (some ⟨gb, 0, none⟩), .slice p0 (List.length g.Rows) C0, .int .i64 ((List.length g.Rows : Nat) : Int), .int .i64 ((i : Nat) : Int), v30, v31, v32, v33, v34, v35, v36, v37, v38, v39, v40, v41, v42, v43, v44, v45, v46, v47, v48, v49, v50, v51, v52, v53, v54, v55], defers := [] } ∧ XP w w' cb bb ov os bv r r' ∧ i ≤ List.length g.Rows ∧ extL g (ext g f) os mask cost (List.length g.Rows - 0 + 1) 0 r = extL g (ext g f) os mask cost (List.length g.Rows - i + 1) i r')
  (extMu (List.length g.Rows)) ⟨0, r, undef, undef, undef, undef, undef, undef, undef, undef, undef, undef, undef, undef, undef, undef, undef, undef, undef, undef, undef, undef, undef, undef, undef, undef, undef, undef, undef, undef, undef, rfl, XP.start hX hR hG1, Nat.zero_le _, rfl⟩ ?_
 rintro a w2 ⟨i, r', v10, v11, v12, v30, v31, v32, v33, v34, v35, v36, v37, v38, v39, v40, v41, v42, v43, v44, v45, v46, v47, v48, v49, v50, v51, v52, v53, v54, v55, rfl, hP, hi, he⟩; by_cases hlt : i < List.length g.Rows
 ·
  (have hlt' : ((i : Nat) : Int) < ((List.length g.Rows : Nat) : Int) := by omega); (have hi0 : (0 : Int) ≤ ((i : Nat) : Int) := by omega); (have hi64 : ((i : Nat) : Int) < 64 := by omega); have hpw := p16 ⟨i, by omega⟩; simp only at hpw; obtain ⟨bv2, hX2, hb2⟩ := hP.xw hX ha; obtain ⟨elx, hx2⟩ := hX2.hx; have hxne : some xb ≠ blockOf ov := fun e => (ha xb e.symm).1 hX.ax; have hxl := (hX2.hA xb hX2.ax).1; obtain ⟨cx, fx⟩ := cell_of hx2; unfold clo at cx; by_cases hb : bits .and .i64 mask ((2 : Int) ^ i) = 0
  ·
   have hnx : MK g.Rows.length (os ++ [((i : Nat) : Int)]) (bits .or .i64 mask ((2 : Int) ^ i)) := by
    have := hM.next h5 hlt (by rw [Int.one_mul]; exact hb)
    rwa [Int.one_mul] at this
   rw [extL_unset hlt hb] at he; by_cases hm0 : mask = 0
   ·
    subst hm0; rw [show ((0 : Int) != 0) = false from rfl, cond_false, Int.add_zero] at he; (have hwc : IntKind.i64.wrap cost = cost := by rw [IntKind.wrap_i64]; omega); have hR2 := hP.rd; have hW1 : Grow w2 (w2.drew.alloc (.cells #[.int .i64 ((i : Nat) : Int)] 3)) := (Grow.drew w2).trans (Grow.alloc _ _); (have hfu : g.Rows.length ≤ (os ++ [((i : Nat) : Int)]).length + f := by rw [List.length_append, List.length_cons, List.length_nil]; omega); have hcb : 0 ≤ cost ∧ cost ≤ 1000000000000000 * ((os ++ [((i : Nat) : Int)]).length : Int) := by rw [List.length_append, List.length_cons, List.length_nil]; omega
    go_wp2_with fail
    go_region_held3 (fun w' => w'.cell? ⟨xb, 0, none⟩ = some (.func (.func 22) #[] #[.pointer (some ⟨gb, 0, none⟩), .pointer (some ⟨cb, 0, none⟩), .pointer (some ⟨bb, 0, none⟩), .pointer (some ⟨xb, 0, none⟩)])) (first | go_keep | (exact hap.cell (by simp; omega) hxne (by first | assumption | simp [*])) | (exact hP5.clo ((hX2.grow hW1).app ha hap).1 ((hX2.grow hW1).app ha hap).2))
     (first
      | (refine step_app (by rfl) (.tmp 46) (.tmp 48) (by rfl) ov os ((i : Nat) : Int) w2.heap.size (by rfl) (by rfl) (hR2.keep fun b hb => (Grow.alloc _ _).old b (hR2.lt hb)) (by omega) (by simp) ?_; intro ov' w4 hap)
      | (go_at_call 22; refine (ih A w4 gb cb bb xb ov' bv2 _ _ _ r' ((hX2.grow hW1).app ha hap).1 hap.row ((hX2.grow hW1).app ha hap).2 hnx hfu hcb).mono ?_; rintro e w5 ⟨rfl, hP5⟩))
    go_wp2_with fail
    refine ⟨⟨i + 1, _, _, _, _, _, _, _, _, _, _, _, _, _, _, _, _, _, _, _, _, _, _, _, _, _, _, _, _, _, _, rfl, XP.call hX ha hR (hP.grow hW1) (hb2.imp id fun h => h.grow fun c _ hc _ => ⟨Nat.lt_of_lt_of_le hc hW1.size, hW1.old c hc⟩) hap hP5, hlt, he⟩, ?_⟩; rw [extMu_at _ (((i : Nat) : Int) + 1) _ _ _ rfl, extMu_at _ ((i : Nat) : Int) _ _ _ rfl]; omega
   ·
    have hmt : (mask != 0) = true := bne_iff_ne.2 hm0; rw [hmt, cond_true] at he; have hG := gSize_b hV (bits .or .i64 mask ((2 : Int) ^ i)); have hor := hnx.lt32 h5; have hor0 := hnx.m0; (have hwc : IntKind.i64.wrap (cost + gSize g (bits .or .i64 mask ((2 : Int) ^ i))) = cost + gSize g (bits .or .i64 mask ((2 : Int) ^ i)) := by rw [IntKind.wrap_i64]; omega); (have hfu : g.Rows.length ≤ (os ++ [((i : Nat) : Int)]).length + f := by rw [List.length_append, List.length_cons, List.length_nil]; omega); have hcb : 0 ≤ cost + gSize g (bits .or .i64 mask ((2 : Int) ^ i)) ∧ cost + gSize g (bits .or .i64 mask ((2 : Int) ^ i)) ≤ 1000000000000000 * ((os ++ [((i : Nat) : Int)]).length : Int) := by rw [List.length_append, List.length_cons, List.length_nil]; omega
    go_wp2_with fail
    refine (gSize_call hX2 hV (by omega)).mono ?_; rintro e w3 ⟨rfl, hG3⟩; have hX3 := hX2.grow hG3; have hP3 := hP.grow hG3; have hb3 : (bv2 = bv ∧ r'.1 = r.1) ∨ Own w w3 bv2 r'.1 := hb2.imp id fun h => h.grow fun c _ hc _ => ⟨Nat.lt_of_lt_of_le hc hG3.size, hG3.old c hc⟩; have hR2 := hP3.rd; obtain ⟨elx3, hx3⟩ := hX3.hx; have hxl3 := (hX3.hA xb hX3.ax).1; obtain ⟨cx3, fx3⟩ := cell_of hx3; unfold clo at cx3; have hW1 : Grow w3 (w3.drew.alloc (.cells #[.int .i64 ((i : Nat) : Int)] 3)) := (Grow.drew w3).trans (Grow.alloc _ _)
    go_wp2_with fail
    go_region_held3 (fun w' => w'.cell? ⟨xb, 0, none⟩ = some (.func (.func 22) #[] #[.pointer (some ⟨gb, 0, none⟩), .pointer (some ⟨cb, 0, none⟩), .pointer (some ⟨bb, 0, none⟩), .pointer (some ⟨xb, 0, none⟩)])) (first | go_keep | (exact hap.cell (by simp; omega) hxne (by first | assumption | simp [*])) | (exact hP5.clo ((hX3.grow hW1).app ha hap).1 ((hX3.grow hW1).app ha hap).2))
     (first
      | (refine step_app (by rfl) (.tmp 46) (.tmp 48) (by rfl) ov os ((i : Nat) : Int) w3.heap.size (by rfl) (by rfl) (hR2.keep fun b hb => (Grow.alloc _ _).old b (hR2.lt hb)) (by omega) (by simp) ?_; intro ov' w4 hap)
      | (go_at_call 22; refine (ih A w4 gb cb bb xb ov' bv2 _ _ _ r' ((hX3.grow hW1).app ha hap).1 hap.row ((hX3.grow hW1).app ha hap).2 hnx hfu hcb).mono ?_; rintro e w5 ⟨rfl, hP5⟩))
    go_wp2_with fail
    refine ⟨⟨i + 1, _, _, _, _, _, _, _, _, _, _, _, _, _, _, _, _, _, _, _, _, _, _, _, _, _, _, _, _, _, _, rfl, XP.call hX ha hR (hP3.grow hW1) (hb3.imp id fun h => h.grow fun c _ hc _ => ⟨Nat.lt_of_lt_of_le hc hW1.size, hW1.old c hc⟩) hap hP5, hlt, he⟩, ?_⟩; rw [extMu_at _ (((i : Nat) : Int) + 1) _ _ _ rfl, extMu_at _ ((i : Nat) : Int) _ _ _ rfl]; omega
  ·
   rw [extL_set hlt hb] at he
   go_wp2_with fail
   refine ⟨⟨i + 1, _, _, _, _, _, _, _, _, _, _, _, _, _, _, _, _, _, _, _, _, _, _, _, _, _, _, _, _, _, _, rfl, hP, hlt, he⟩, ?_⟩; rw [extMu_at _ (((i : Nat) : Int) + 1) _ _ _ rfl, extMu_at _ ((i : Nat) : Int) _ _ _ rfl]; omega
 ·
  (have hge : ¬ ((i : Nat) : Int) < ((List.length g.Rows : Nat) : Int) := by omega); rw [extL_end hlt] at he; rw [← he] at hP
  go_wp2_with fail
  go_end0
  exact ⟨rfl, hP⟩

theorem ext_ok {g : Graph} (hV : VG g) : ∀ f, ExtSpec g f := by
 intro f
 induction f with
 | zero =>
  intro A w gb cb bb xb ov bv os mask cost r hX hR ha hM hf hc; have hm := hM.all hV (by omega)
  have hl : os.length ≤ 5 := by
   have h5 := hV.n5; have := (pc_one ⟨mask.toNat, by have := hM.lt32 h5; have := hM.m0; omega⟩).2
   simp only at this
   rw [hM.pc] at this
   exact this
  have := ext_leaf hV hX hR ha hM hl hm (cost := cost); unfold ext; rw [beq_iff_eq.2 hm, cond_true]
  exact this
 | succ f ih =>
  intro A w gb cb bb xb ov bv os mask cost r hX hR ha hM hf hc
  have hl : os.length ≤ 5 := by
   have h5 := hV.n5; have := (pc_one ⟨mask.toNat, by have := hM.lt32 h5; have := hM.m0; omega⟩).2
   simp only at this
   rw [hM.pc] at this
   exact this
  unfold ext; by_cases hm : mask = gAll g
  · rw [beq_iff_eq.2 hm, cond_true]; exact ext_leaf hV hX hR ha hM hl hm
  · rw [beq_false_of_ne hm, cond_false]; exact ext_step hV ih hX hR ha hM hf hc hl hm
end
end Go.Proofs.Ytclennmbceaoeaa
