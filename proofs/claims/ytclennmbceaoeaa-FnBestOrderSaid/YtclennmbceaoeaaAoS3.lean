/-
  A part of the proof of this claim (AoS3): what functions of the program compute, and plain facts of that. No conditions.
-/
import Derived.Test.YtclennmbceaoeaaAo6
set_option linter.all false
namespace Go.Proofs.Ytclennmbceaoeaa
open Go Go.Am
noncomputable section

def RL (n : Nat) (l : List Int) : Prop := ∀ i : Nat, i < l.length → 0 ≤ List.getD l i 0 ∧ List.getD l i 0 < (n : Int)

theorem p16 : ∀ i : Fin 5, 1 ≤ (1 : Int) * 2 ^ i.val ∧ (1 : Int) * 2 ^ i.val ≤ 16 := by decide

theorem ord_bit {n : Nat} (hn : n ≤ 5) {l : List Int} (h : RL n l) {i : Nat} (hi : i < l.length) : (0 ≤ List.getD l i 0 ∧ List.getD l i 0 < 5) ∧ 1 ≤ (1 : Int) * 2 ^ Int.toNat (List.getD l i 0) ∧ (1 : Int) * 2 ^ Int.toNat (List.getD l i 0) ≤ 16 := by
 have a := h i hi; have b := p16 ⟨(List.getD l i 0).toNat, by omega⟩; exact ⟨by omega, b⟩

theorem oc_step {g : Graph} (hV : VG g) {l : List Int} (h : RL g.Rows.length l) {i : Nat} (hi : i < l.length) {m : Int} (hm : 0 ≤ m ∧ m < 32) :
  (0 ≤ bits .or .i64 m ((1 : Int) * 2 ^ Int.toNat (List.getD l i 0)) ∧ bits .or .i64 m ((1 : Int) * 2 ^ Int.toNat (List.getD l i 0)) < 32) ∧
  1 ≤ subsetSize g (bits .or .i64 m ((1 : Int) * 2 ^ Int.toNat (List.getD l i 0))) ∧ subsetSize g (bits .or .i64 m ((1 : Int) * 2 ^ Int.toNat (List.getD l i 0))) ≤ 1000000000000000 := by
 have a := ord_bit hV.n5 h hi; have b := or32 hm.1 hm.2 (b := (1 : Int) * 2 ^ Int.toNat (List.getD l i 0)) (by omega) (by omega); exact ⟨by omega, sSize_b hV (by omega) (by omega)⟩

def orderCost_l0 (g : Graph) (order : List Int) : Nat → Int → Int → Nat → Int
 | 0, mask1, cost1, i => cost1
 | k + 1, mask1, cost1, i => (bif (decide (((i : Nat) : Int) < ((List.length order : Nat) : Int))) then (bif (decide (0 < ((i : Nat) : Int))) then (orderCost_l0 g order k (bits .or .i64 mask1 ((1 : Int) * 2 ^ (Int.toNat (List.getD order i 0)))) (cost1 + (subsetSize g (bits .or .i64 mask1 ((1 : Int) * 2 ^ (Int.toNat (List.getD order i 0)))))) (i + 1)) else (orderCost_l0 g order k (bits .or .i64 mask1 ((1 : Int) * 2 ^ (Int.toNat (List.getD order i 0)))) cost1 (i + 1))) else cost1)

def orderCost (g : Graph) (order : List Int) : Int := (Go.Am.andThen (orderCost_l0 g order ((List.length order) - 0 + 1) 0 0 0) (fun z => (fun (cost1 : Int) => cost1) z))

def orderCost_sp : FnSpec := mkSpec [.val (.named 1), .val (.slice (.int .i64))] [.val (.int .i64)] (fun (g : Graph) (order : List Int) => VG g ∧ (RL g.Rows.length order ∧ order.length ≤ 5)) (fun (g : Graph) (order : List Int) => [⟨(.int .i64), (orderCost g order)⟩])

theorem orderCost_ok : FnOK Try.prog 40 orderCost_sp := by
 have hC : CtxOK Try.prog (mkCtx tyL [(45, subsetSize_sp)]) := CtxOK.cons subsetSize_ok (CtxOK.nil tyOK); refine FnOK.of_body Try.func40 (by kernel_rfl) rfl (C := (mkCtx tyL [(45, subsetSize_sp)])) hC.ty (by kernel_rfl) ?_; intro (g : Graph) (order : List Int) hwf hpre E; have hpre : VG g ∧ (RL g.Rows.length order ∧ order.length ≤ 5) := hpre; have hw_g : Wf ⟨(.named 1), (g : Graph)⟩ := hwf _ (List.Mem.head _); have hl_g_Rows : ((List.length (Graph.Rows g) : Nat) : Int) ≤ 9223372036854775807 := (hw_g.field (tv := ⟨(.slice (.int .i64)), Graph.Rows g⟩) (List.Mem.head _)).len; have hl_g_Edges : ((List.length (Graph.Edges g) : Nat) : Int) ≤ 9223372036854775807 := (hw_g.field (tv := ⟨(.slice (.named 0)), Graph.Edges g⟩) (List.Mem.tail _ (List.Mem.head _))).len; have hw_order : Wf ⟨(.slice (.int .i64)), (order : List Int)⟩ := hwf _ (List.Mem.tail _ (List.Mem.head _)); have hl_order : ((List.length order : Nat) : Int) ≤ 9223372036854775807 := hw_order.len; have h5 := hpre.1.n5; have e0 : orderCost g order = orderCost g order := rfl; refine AW.seq (AW.r1U hC [1, 2] [8] [(2, .ref 8 1 0)] [(8, .box 1 [.data (.slice (.int .i64)) ((Graph.Rows g) : List Int), .data (.slice (.named 0)) ((Graph.Edges g) : List Edge)])] ?_); refine AW.seq (AW.r1U hC [1, 2, 5] [8] [(5, .int .i64 0)] [] ?_); refine AW.seq (AW.r1U hC [1, 2, 5, 6] [8] [(6, .int .i64 0)] [] ?_); refine AW.seq (AW.seq (AW.r1U hC [1, 2, 5, 6, 7] [8] [(7, .int .i64 0)] [] ?_)); refine AW.lpB (ζ := Int) (fun x => ⟨[(6, .int .i64 x)], []⟩) (fun x => 0 ≤ x ∧ x ≤ 5000000000000000) (fun x => x) (α := Int × Int × Nat) (fun x => ⟨[(1, .data (.slice (.int .i64)) (order : List Int)), (2, .ref 8 1 0), (5, .int .i64 x.1), (6, .int .i64 x.2.1), (7, .int .i64 ((x.2.2 : Nat) : Int))], [(8, .box 1 [.data (.slice (.int .i64)) ((Graph.Rows g) : List Int), .data (.slice (.named 0)) ((Graph.Edges g) : List Edge)])]⟩) (fun x => (0 ≤ x.1 ∧ x.1 < 32) ∧ 0 ≤ x.2.1 ∧ x.2.1 ≤ 1000000000000000 * ((x.2.2 : Nat) : Int) ∧ x.2.2 ≤ List.length order) (fun x => (List.length order) - x.2.2) (fun k x => orderCost_l0 g order k x.1 x.2.1 x.2.2) (0, 0, 0) (by kernel_rfl) ?_ ?_ ?_
 · first | exact trivial | (refine ⟨?_, ?_⟩ <;> first | omega | (simp; done)) | omega | (simp; done) | (dsimp only; exact trivial) | (dsimp only; (refine ⟨?_, ?_⟩ <;> first | omega | (simp; done))) | (dsimp only; omega) | (dsimp only; (simp; done)) | (show (0 ≤ 0 ∧ 0 < 32) ∧ 0 ≤ 0 ∧ 0 ≤ 1000000000000000 * ((0 : Nat) : Int) ∧ 0 ≤ List.length order; exact trivial) | (show (0 ≤ 0 ∧ 0 < 32) ∧ 0 ≤ 0 ∧ 0 ≤ 1000000000000000 * ((0 : Nat) : Int) ∧ 0 ≤ List.length order; (refine ⟨?_, ?_⟩ <;> first | omega | (simp; done))) | (show (0 ≤ 0 ∧ 0 < 32) ∧ 0 ≤ 0 ∧ 0 ≤ 1000000000000000 * ((0 : Nat) : Int) ∧ 0 ≤ List.length order; omega) | (show (0 ≤ 0 ∧ 0 < 32) ∧ 0 ≤ 0 ∧ 0 ≤ 1000000000000000 * ((0 : Nat) : Int) ∧ 0 ≤ List.length order; (simp; done))
 ·
  intro x k35q hI0 hk33 e34; obtain ⟨mask1, cost1, i⟩ := x; (first | dsimp only at e34 | skip); replace hI0 : (0 ≤ mask1 ∧ mask1 < 32) ∧ 0 ≤ cost1 ∧ cost1 ≤ 1000000000000000 * ((i : Nat) : Int) ∧ i ≤ List.length order := hI0; refine AW.seq (AW.seq (AW.r1U hC [1, 2, 5, 6, 7, 11] [8] [(11, .bool (decide (((i : Nat) : Int) < ((List.length order : Nat) : Int))))] [] ?_)); refine AW.cdE e34 ?_ ?_
  ·
   intro h36q e37; refine AW.kpU [1, 2, 5, 6, 7] [8] [] [] ?_; refine AW.skip (AW.seq (AW.block (AW.seq (AW.r0U hC [1, 2, 5, 6, 7] [8] [(5, .int .i64 (bits .or .i64 mask1 ((1 : Int) * 2 ^ (Int.toNat (List.getD order i 0)))))] [] [(0 ≤ ((i : Nat) : Int) ∧ ((i : Nat) : Int) < ((List.length order : Nat) : Int)), (0 ≤ (List.getD order i 0) ∧ (List.getD order i 0) ≤ 64), (-9223372036854775808 ≤ ((1 : Int) * 2 ^ (Int.toNat (List.getD order i 0))) ∧ ((1 : Int) * 2 ^ (Int.toNat (List.getD order i 0))) ≤ 9223372036854775807)] ?_ ?_))))
   ·
    refine ⟨?_, ?_, ?_, trivial⟩
    · have hb := ord_bit h5 hpre.2.1 (i := i) (by omega); have ho := oc_step hpre.1 hpre.2.1 (i := i) (by omega) hI0.1; omega
    · have hb := ord_bit h5 hpre.2.1 (i := i) (by omega); have ho := oc_step hpre.1 hpre.2.1 (i := i) (by omega) hI0.1; omega
    · have hb := ord_bit h5 hpre.2.1 (i := i) (by omega); have ho := oc_step hpre.1 hpre.2.1 (i := i) (by omega) hI0.1; omega
   refine AW.seq (AW.r1U hC [1, 2, 5, 6, 7, 22] [8] [(22, .bool (decide (0 < ((i : Nat) : Int))))] [] ?_); refine AW.cdE e37 ?_ ?_
   ·
    intro h38q e39; refine AW.r0U hC [1, 2, 5, 6, 7] [8] [(6, .int .i64 (cost1 + (subsetSize g (bits .or .i64 mask1 ((1 : Int) * 2 ^ (Int.toNat (List.getD order i 0)))))))] [] [(VG g ∧ 0 ≤ (bits .or .i64 mask1 ((1 : Int) * 2 ^ (Int.toNat (List.getD order i 0))))), (-9223372036854775808 ≤ (cost1 + (subsetSize g (bits .or .i64 mask1 ((1 : Int) * 2 ^ (Int.toNat (List.getD order i 0)))))) ∧ (cost1 + (subsetSize g (bits .or .i64 mask1 ((1 : Int) * 2 ^ (Int.toNat (List.getD order i 0)))))) ≤ 9223372036854775807)] ?_ ?_
    ·
     refine ⟨?_, ?_, trivial⟩
     · have hb := ord_bit h5 hpre.2.1 (i := i) (by omega); have ho := oc_step hpre.1 hpre.2.1 (i := i) (by omega) hI0.1; exact ⟨hpre.1, by omega⟩
     · have hb := ord_bit h5 hpre.2.1 (i := i) (by omega); have ho := oc_step hpre.1 hpre.2.1 (i := i) (by omega) hI0.1; omega
    refine AW.r0U hC [1, 2, 5, 6, 7] [8] [(7, .int .i64 ((i + 1 : Nat) : Int))] [] [(-9223372036854775808 ≤ ((i + 1 : Nat) : Int) ∧ ((i + 1 : Nat) : Int) ≤ 9223372036854775807)] ?_ ?_
    ·
     refine ⟨?_, trivial⟩
     · have hb := ord_bit h5 hpre.2.1 (i := i) (by omega); have ho := oc_step hpre.1 hpre.2.1 (i := i) (by omega) hI0.1; omega
    refine AW.bk ((bits .or .i64 mask1 ((1 : Int) * 2 ^ (Int.toNat (List.getD order i 0)))), (cost1 + (subsetSize g (bits .or .i64 mask1 ((1 : Int) * 2 ^ (Int.toNat (List.getD order i 0)))))), i + 1) e39 hk33 ?_ ?_
    · first | have hb := ord_bit h5 hpre.2.1 (i := i) (by omega); have ho := oc_step hpre.1 hpre.2.1 (i := i) (by omega) hI0.1; omega | (dsimp only; have hb := ord_bit h5 hpre.2.1 (i := i) (by omega); have ho := oc_step hpre.1 hpre.2.1 (i := i) (by omega) hI0.1; omega) | (show (0 ≤ (bits .or .i64 mask1 ((1 : Int) * 2 ^ (Int.toNat (List.getD order i 0)))) ∧ (bits .or .i64 mask1 ((1 : Int) * 2 ^ (Int.toNat (List.getD order i 0)))) < 32) ∧ 0 ≤ (cost1 + (subsetSize g (bits .or .i64 mask1 ((1 : Int) * 2 ^ (Int.toNat (List.getD order i 0)))))) ∧ (cost1 + (subsetSize g (bits .or .i64 mask1 ((1 : Int) * 2 ^ (Int.toNat (List.getD order i 0)))))) ≤ 1000000000000000 * (((i + 1) : Nat) : Int) ∧ (i + 1) ≤ List.length order; have hb := ord_bit h5 hpre.2.1 (i := i) (by omega); have ho := oc_step hpre.1 hpre.2.1 (i := i) (by omega) hI0.1; omega)
    · first | omega | (simp only [lens]; omega) | (dsimp only; omega) | (dsimp only; (simp only [lens]; omega)) | (show (List.length order) - (i + 1) < (List.length order) - i; omega) | (show (List.length order) - (i + 1) < (List.length order) - i; (simp only [lens]; omega))
   ·
    intro h40q e41; refine AW.kpU [1, 2, 5, 6, 7] [8] [] [] ?_; refine AW.skip (AW.r0U hC [1, 2, 5, 6, 7] [8] [(7, .int .i64 ((i + 1 : Nat) : Int))] [] [(-9223372036854775808 ≤ ((i + 1 : Nat) : Int) ∧ ((i + 1 : Nat) : Int) ≤ 9223372036854775807)] ?_ ?_)
    ·
     refine ⟨?_, trivial⟩
     · have hb := ord_bit h5 hpre.2.1 (i := i) (by omega); have ho := oc_step hpre.1 hpre.2.1 (i := i) (by omega) hI0.1; omega
    refine AW.bk ((bits .or .i64 mask1 ((1 : Int) * 2 ^ (Int.toNat (List.getD order i 0)))), cost1, i + 1) e41 hk33 ?_ ?_
    · first | have hb := ord_bit h5 hpre.2.1 (i := i) (by omega); have ho := oc_step hpre.1 hpre.2.1 (i := i) (by omega) hI0.1; omega | (dsimp only; have hb := ord_bit h5 hpre.2.1 (i := i) (by omega); have ho := oc_step hpre.1 hpre.2.1 (i := i) (by omega) hI0.1; omega) | (show (0 ≤ (bits .or .i64 mask1 ((1 : Int) * 2 ^ (Int.toNat (List.getD order i 0)))) ∧ (bits .or .i64 mask1 ((1 : Int) * 2 ^ (Int.toNat (List.getD order i 0)))) < 32) ∧ 0 ≤ cost1 ∧ cost1 ≤ 1000000000000000 * (((i + 1) : Nat) : Int) ∧ (i + 1) ≤ List.length order; have hb := ord_bit h5 hpre.2.1 (i := i) (by omega); have ho := oc_step hpre.1 hpre.2.1 (i := i) (by omega) hI0.1; omega)
    · first | omega | (simp only [lens]; omega) | (dsimp only; omega) | (dsimp only; (simp only [lens]; omega)) | (show (List.length order) - (i + 1) < (List.length order) - i; omega) | (show (List.length order) - (i + 1) < (List.length order) - i; (simp only [lens]; omega))
  · intro h42q e43; refine AW.kpU [6] [] [] [] ?_; refine AW.exit ?_; refine AW.meet cost1 (by kernel_rfl) ⟨?_, e43⟩; first | omega | (dsimp only; omega) | (show 0 ≤ cost1 ∧ cost1 ≤ 5000000000000000; omega)
 · intro cost1 hJ0 e44; replace hJ0 : 0 ≤ cost1 ∧ cost1 ≤ 5000000000000000 := hJ0; have e45 := e0.trans (Go.Am.then_eq e44); (first | dsimp only at e45 | skip); refine AW.seq (AW.r1 hC [4] [] ⟨[(4, .int .i64 cost1)], []⟩ ?_); exact AW.ret (AW.retE (β := Int) (fun v => [⟨(.int .i64), v⟩]) (fun v => []) (v := cost1) e45 (by kernel_rfl) rfl rfl)

end
end Go.Proofs.Ytclennmbceaoeaa


namespace Go.Proofs.Ytclennmbceaoeaa
open Go Go.Am
noncomputable section

theorem orderCost_l0_b {g : Graph} (hV : VG g) {l : List Int} (h : RL g.Rows.length l) : ∀ (k : Nat) (m c : Int) (i : Nat), 0 ≤ m ∧ m < 32 → 0 ≤ c → i ≤ l.length → 0 ≤ orderCost_l0 g l k m c i ∧ orderCost_l0 g l k m c i ≤ c + 1000000000000000 * ((l.length - i : Nat) : Int) := by
 intro k
 induction k with
 | zero => intro m c i _ hc _; exact ⟨hc, by show c ≤ _; omega⟩
 | succ k ih =>
  intro m c i hm hc hi; unfold orderCost_l0; by_cases hlt : i < l.length
  ·
   rw [lt_dec hlt, cond_true]; obtain ⟨a, b⟩ := oc_step hV h hlt hm
   cases decide ((0 : Int) < ((i : Nat) : Int)) with
   | true =>
    have := ih _ (c + subsetSize g (bits .or .i64 m ((1 : Int) * 2 ^ Int.toNat (List.getD l i 0)))) (i + 1) a (by omega) hlt; rw [cond_true]; omega
   | false =>
    have := ih _ c (i + 1) a hc hlt; rw [cond_false]; omega
  · rw [ge_dec hlt, cond_false]; exact ⟨hc, by omega⟩

theorem orderCost_b {g : Graph} (hV : VG g) {l : List Int} (h : RL g.Rows.length l) (h5 : l.length ≤ 5) : 0 ≤ orderCost g l ∧ orderCost g l ≤ 5000000000000000 := by
 have := orderCost_l0_b hV h (l.length - 0 + 1) 0 0 0 (by decide) (by decide) (Nat.zero_le _); show 0 ≤ orderCost_l0 g l (l.length - 0 + 1) 0 0 0 ∧ orderCost_l0 g l (l.length - 0 + 1) 0 0 0 ≤ _; omega

theorem or_sub : ∀ (m : Fin 32) (i : Fin 5), has (m.val : Int) ((i.val : Nat) : Int) = false → bits .or .i64 (m.val : Int) ((1 : Int) * 2 ^ i.val) - (1 : Int) * 2 ^ i.val = (m.val : Int) := by decide +kernel

structure LV (n d : Nat) (l : List Int) (u c : Int) : Prop where
 rl : RL n l
 len : l.length = d
 u : 0 ≤ u ∧ u < 32
 c : -1 ≤ c ∧ c ≤ 5000000000000000

theorem LV.zero (n : Nat) : LV n 0 [] 0 (-1) := ⟨fun i h => absurd h (Nat.not_lt_zero _), rfl, by decide, by decide⟩

theorem RL.snoc {n : Nat} {l : List Int} (h : RL n l) {i : Nat} (hi : i < n) : RL n (l ++ ([((i : Nat) : Int)] : List Int)) := by
 intro j hj; rw [List.length_append] at hj; by_cases hlt : j < l.length
 · rw [List.getD_eq_getElem?_getD, List.getElem?_append_left hlt, ← List.getD_eq_getElem?_getD]; exact h j hlt
 ·
  have : j = l.length := by simp only [List.length_cons, List.length_nil] at hj; omega
  subst this
  rw [List.getD_eq_getElem?_getD, List.getElem?_append_right (Nat.le_refl _)]; simp only [Nat.sub_self, List.getElem?_cons_zero, Option.getD_some]; omega

theorem bit_b {u : Int} (hu : 0 ≤ u ∧ u < 32) {n i : Nat} (hn : n ≤ 5) (hi : i < n) : (1 ≤ (1 : Int) * 2 ^ i ∧ (1 : Int) * 2 ^ i ≤ 16) ∧ 0 ≤ bits .or .i64 u ((1 : Int) * 2 ^ i) ∧ bits .or .i64 u ((1 : Int) * 2 ^ i) < 32 := by
 have b := p16 ⟨i, by omega⟩; simp only at b; have := or32 hu.1 hu.2 (b := (1 : Int) * 2 ^ i) (by omega) (by omega); exact ⟨b, by omega⟩

theorem LV.next {n d : Nat} {l : List Int} {u c : Int} (h : LV n d l u c) (hn : n ≤ 5) {i : Nat} (hi : i < n) : LV n (d + 1) (l ++ ([((i : Nat) : Int)] : List Int)) (bits .or .i64 u ((1 : Int) * 2 ^ i)) c :=
 ⟨h.rl.snoc hi, by rw [List.length_append, h.len]; rfl, (bit_b h.u hn hi).2, h.c⟩

theorem LV.back {n d : Nat} {l l' L : List Int} {u u' U c c' : Int} (h : LV n d l u c) (hn : n ≤ 5) {i : Nat} (hi : i < n) (hh : has u ((i : Nat) : Int) = false) (hl : l' = l ++ ([((i : Nat) : Int)] : List Int)) (hu : u' = bits .or .i64 u ((1 : Int) * 2 ^ i))
  (hc : -1 ≤ c' ∧ c' ≤ 5000000000000000) (he : l = L ∧ u = U) : LV n d (List.take (Int.toNat (((List.length l' : Nat) : Int) - 1)) l') (u' - (1 : Int) * 2 ^ i) c' ∧ (List.take (Int.toNat (((List.length l' : Nat) : Int) - 1)) l' = L ∧ u' - (1 : Int) * 2 ^ i = U) := by
 have e1 : List.take (Int.toNat (((List.length l' : Nat) : Int) - 1)) l' = l := by
  rw [hl, List.length_append, show Int.toNat (((l.length + ([((i : Nat) : Int)] : List Int).length : Nat) : Int) - 1) = l.length by simp only [List.length_cons, List.length_nil]; omega, List.take_left']; rfl
 have e2 : u' - (1 : Int) * 2 ^ i = u := by
  have h1 := h.u; have := or_sub ⟨u.toNat, by omega⟩ ⟨i, by omega⟩
  simp only [Int.toNat_of_nonneg h1.1] at this
  rw [hu]; exact this hh
 rw [e1, e2]; exact ⟨⟨h.rl, h.len, h.u, hc⟩, he⟩

end
end Go.Proofs.Ytclennmbceaoeaa
