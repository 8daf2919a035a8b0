/-
  A part of the proof of this claim (AoJ): what functions of the program compute, and plain facts of that. No conditions.
-/
import Derived.Test.YtclennmbceaoeaaAoT
import Derived.Test.YtclennmbceaoeaaAnE
import Derived.WalkKit
import Derived.TacticsIn
import Derived.BigFrameIn
import Derived.Test.YtclennmbceaoeaaAo6
set_option linter.all false
namespace Go.Proofs.Ytclennmbceaoeaa
open Go Go.Am
open Go.RowKit
noncomputable section

def partsFrom (mask : Int) : Nat → Int → List Int
 | 0, _ => []
 | k + 1, p => bif decide (p < mask) then (bif (bits .andNot .i64 p mask == 0) then p :: partsFrom mask k (p + 1) else partsFrom mask k (p + 1)) else []

def parts (mask : Int) : List Int := partsFrom mask mask.toNat 1

def partsMu (mask : Int) (a : Act) (_ : World) : Nat := match a.tmps[3]? with
 | some (Value.int _ p) => (mask + 1 - p).toNat
 | _ => 0

theorem partsMu_at (mask p : Int) (ts : Array Value) (d : List Deferred) (w : World) (h : ts[3]? = some (.int .i64 p)) : partsMu mask { tmps := ts, defers := d } w = (mask + 1 - p).toNat := by
 unfold partsMu; rw [h]

set_option maxHeartbeats 1000000 in
theorem parts_iter (b : Nat) (mask : Int) (hm : 0 ≤ mask ∧ mask ≤ 4294967296) : IterOK Try.prog 46 [.pointer (some ⟨b, 0, none⟩)] ((parts mask).map (Value.int .i64)) (fun W => W.cell? ⟨b, 0, none⟩ = some (.int .i64 mask)) := by
 intro L J Jx W hK hY h0; refine callsIn_of_wp Try.func46 rfl trivial ?_ rfl; simp only [Try.ntmps46, List.size_toArray, List.length_cons, List.length_nil, Nat.reduceAdd, Nat.reduceSub, Array.replicate_succ, Array.replicate_zero, List.push_toArray, List.append_toArray, List.nil_append, List.cons_append]; gi_wp2
 refine wpIn_loop (fun a w => ∃ (k f : Nat) (p : Int) (v2 v4 v5 v6 v7 v8 v9 v10 v11 v12 v13 v14 v15 v16 v17 v18 : Value), a = { tmps := #[.func (.yield L) #[] #[], .pointer (some ⟨b, 0, none⟩), v2, .int .i64 p, v4, v5, v6, v7, v8, v9, v10, v11, v12, v13, v14, v15, v16, v17, v18], defers := [] } ∧ J k w ∧ (parts mask).drop k = partsFrom mask f p ∧ (mask - p ≤ f ∧ 1 ≤ p ∧ p ≤ mask + 1) ∧ k ≤ (parts mask).length)
  (partsMu mask) ⟨0, mask.toNat, 1, undef, undef, undef, undef, undef, undef, undef, undef, undef, undef, undef, undef, undef, undef, undef, undef, rfl, h0, rfl, by omega, Nat.zero_le _⟩ ?_
 rintro a w ⟨k, f, p, v2, v4, v5, v6, v7, v8, v9, v10, v11, v12, v13, v14, v15, v16, v17, v18, rfl, hJ, hd, hf, hk⟩; have hc := hK k w hJ; by_cases hlt : p < mask
 ·
  obtain ⟨f, rfl⟩ : ∃ g, f = g + 1 := ⟨f - 1, by omega⟩; unfold partsFrom at hd; rw [decide_eq_true hlt, cond_true] at hd; (have hp1 : IntKind.i64.wrap (p + 1) = p + 1 := by rw [IntKind.wrap_i64]; omega); by_cases hb : bits .andNot .i64 p mask = 0
  ·
   rw [beq_iff_eq.2 hb, cond_true] at hd
   have hkl : k < (parts mask).length := by
    rcases Nat.lt_or_ge k (parts mask).length with h | h
    · exact h
    · rw [List.drop_eq_nil_of_le h] at hd; cases hd
   rw [List.drop_eq_getElem_cons hkl, List.cons.injEq] at hd; obtain ⟨fn, tmps, assign, body, hy, hR⟩ := hY k (.int .i64 p) w (by rw [List.getElem?_map, List.getElem?_eq_getElem hkl, hd.1]; rfl) hJ; gi_wp2; refine ⟨rfl, hR.mono ?_⟩; rintro e W1 (⟨rfl, h⟩ | ⟨rfl, h⟩)
   · gi_wp2; refine ⟨⟨k + 1, f, p + 1, _, _, _, _, _, _, _, _, _, _, _, _, _, _, _, _, rfl, h, hd.2, by omega, hkl⟩, ?_⟩; rw [partsMu_at mask (p + 1) _ _ _ rfl, partsMu_at mask p _ _ _ rfl]; omega
   · gi_wp2; refine bodyPost_ret (results_none rfl _ _ _) rfl ?_; exact ⟨⟨_, rfl⟩, .inr h⟩
  · rw [beq_false_of_ne hb, cond_false] at hd; gi_wp2; refine ⟨fun _ h => (by cases h), ?_⟩; gi_wp2; refine ⟨⟨k, f, p + 1, _, _, _, _, _, _, _, _, _, _, _, _, _, _, _, _, rfl, hJ, hd, by omega, hk⟩, ?_⟩; rw [partsMu_at mask (p + 1) _ _ _ rfl, partsMu_at mask p _ _ _ rfl]; omega
 ·
  have hd0 : (parts mask).drop k = [] := by
   rw [hd]
   cases f with
   | zero => rfl
   | succ f =>
    unfold partsFrom; rw [decide_eq_false hlt, cond_false]
  have hkl : k = (parts mask).length := by
   have := List.drop_eq_nil_iff.1 hd0; omega
  gi_wp2; (first | go_end0 | go_ret); exact ⟨⟨_, rfl⟩, .inl (by rw [← hkl]; exact hJ)⟩

theorem parts_it {α : Type} {S : α → St} {id ep : Nat} {mask : Int} (hb : 0 ≤ mask ∧ mask ≤ 4294967296) (hm : ∀ x, (S x).memf id = some (.box ep [.int .i64 mask])) (cvs : List Value) (hl : [SV.ref id ep 0].length = cvs.length) :
  IterOK Try.prog 46 cvs ((parts mask).map (Value.int .i64)) (CapsAt S [.ref id ep 0] cvs) := by
 intro L J Jx W hK hY h0
 match cvs, hl with
 | [v], _ =>
  -- the captured variable
  have cell : ∀ W, CapsAt S [.ref id ep 0] [v] W → ∃ b, v = .pointer (some ⟨b, 0, none⟩) ∧ W.cell? ⟨b, 0, none⟩ = some (.int .i64 mask) := by
   rintro W ⟨E, x, β, h1, h2⟩; have hv := h1 0 _ _ rfl rfl
   cases hv with
   | ref _ _ _ b hx h =>
    obtain ⟨C, hC⟩ := h _ (hm x); obtain ⟨b', C', cs, el, g1, g2, g3, g4⟩ := h2 id _ (hm x); rw [hC] at g1; simp only [Option.some.injEq, Prod.mk.injEq] at g1; obtain ⟨rfl, rfl⟩ := g1; obtain ⟨u, hu, _, hr⟩ := g4 0 _ rfl; cases hr; refine ⟨b, rfl, ?_⟩; unfold World.cell?; rw [g2]; exact hu
  obtain ⟨b, rfl, _⟩ := cell W (hK 0 W h0); refine parts_iter b mask hb L J Jx W (fun k W1 h => ?_) hY h0; obtain ⟨b', e, h'⟩ := cell W1 (hK k W1 h); simp only [Value.pointer.injEq, Option.some.injEq, Addr.mk.injEq, and_true] at e; rw [e]; exact h'


theorem partsFrom_mem {mask : Int} : ∀ {k : Nat} {p y : Int}, y ∈ partsFrom mask k p → p ≤ y ∧ y < mask ∧ bits .andNot .i64 y mask = 0 := by
 intro k
 induction k with
 | zero => intro p y h; cases h
 | succ k ih =>
  intro p y h; unfold partsFrom at h; by_cases hlt : p < mask
  ·
   rw [decide_eq_true hlt, cond_true] at h; by_cases hb : bits .andNot .i64 p mask = 0
   ·
    rw [beq_iff_eq.2 hb, cond_true] at h; rcases List.mem_cons.1 h with rfl | h
    · exact ⟨Int.le_refl _, hlt, hb⟩
    · have := ih h; exact ⟨by omega, this.2⟩
   · rw [beq_false_of_ne hb, cond_false] at h; have := ih h; exact ⟨by omega, this.2⟩
  · rw [decide_eq_false hlt, cond_false] at h; cases h

theorem parts_mem {mask y : Int} (h : y ∈ parts mask) : 1 ≤ y ∧ y < mask ∧ bits .andNot .i64 y mask = 0 := partsFrom_mem h

theorem parts_rng {mask y : Int} (hm : mask ≤ 4294967296) (h : y ∈ parts mask) : -9223372036854775808 ≤ y ∧ y ≤ 9223372036854775807 := by
 have := parts_mem h; omega

end
end Go.Proofs.Ytclennmbceaoeaa


namespace Go.Proofs.Ytclennmbceaoeaa
open Go Go.Am
noncomputable section

def CB (c : List Int) : Prop := ∀ j : Nat, 0 ≤ c.getD j 0 ∧ c.getD j 0 ≤ 1000000000000000 * ((j - 1 : Nat) : Int)

theorem part_facts : ∀ m p : Fin 32, 1 ≤ p.val → p.val < m.val → bits .andNot .i64 (p.val : Int) (m.val : Int) = 0 → 1 ≤ bits .andNot .i64 (m.val : Int) (p.val : Int) ∧ (p.val : Int) + bits .andNot .i64 (m.val : Int) (p.val : Int) = (m.val : Int) := by decide +kernel

theorem part_rest {m p : Int} (hm : m < 32) (h : 1 ≤ p ∧ p < m ∧ bits .andNot .i64 p m = 0) : 1 ≤ bits .andNot .i64 m p ∧ p + bits .andNot .i64 m p = m := by
 obtain ⟨m', rfl⟩ := Int.eq_ofNat_of_zero_le (show 0 ≤ m by omega); obtain ⟨p', rfl⟩ := Int.eq_ofNat_of_zero_le (show 0 ≤ p by omega); exact part_facts ⟨m', by omega⟩ ⟨p', by omega⟩ (by show 1 ≤ p'; omega) (by show p' < m'; omega) h.2.2

theorem gAll_b {g : Graph} (h : VG g) : 1 ≤ gAll g ∧ gAll g ≤ 31 := by
 have h1 := h.n1; have h5 := h.n5; unfold gAll; (have : ∀ n : Fin 6, 1 ≤ n.val → (1 : Int) ≤ 1 * 2 ^ n.val - 1 ∧ (1 : Int) * 2 ^ n.val - 1 ≤ 31 := by decide); exact this ⟨g.Rows.length, by omega⟩ h1

theorem CB.set {c : List Int} (h : CB c) {i : Nat} {v : Int} (h0 : 0 ≤ v) (h1 : v ≤ 1000000000000000 * ((i - 1 : Nat) : Int)) : CB (List.set c i v) := by
 intro j; rw [List.getD_eq_getElem?_getD, List.getElem?_set]; split
 ·
  rename_i e; subst e; split
  · exact ⟨h0, h1⟩
  · simp; omega
 ·
  have := h j
  rwa [List.getD_eq_getElem?_getD] at this

theorem CB.zero (n : Nat) : CB (List.replicate n 0) := by
 intro j; rw [List.getD_eq_getElem?_getD, List.getElem?_replicate]; split <;> simp <;> omega

def bestCosts_l1 (g : Graph) (mask : Nat) : List Int → (List Int) → (List Int) → (List Int) × (List Int)
 | [], ar401, ar561 => (ar401, ar561)
 | v23 :: l, ar401, ar561 => (bif (bif ((List.getD ar561 mask 0) == 0) then true else (decide ((((gSize g ((mask : Nat) : Int)) + (List.getD ar401 (Int.toNat v23) 0)) + (List.getD ar401 (Int.toNat (bits .andNot .i64 ((mask : Nat) : Int) v23)) 0)) < (List.getD ar401 mask 0)))) then (bestCosts_l1 g mask l (List.set ar401 mask (((gSize g ((mask : Nat) : Int)) + (List.getD ar401 (Int.toNat v23) 0)) + (List.getD ar401 (Int.toNat (bits .andNot .i64 ((mask : Nat) : Int) v23)) 0))) (List.set ar561 mask v23)) else (bestCosts_l1 g mask l ar401 ar561))

def bestCosts_l0 (g : Graph) : Nat → Nat → (List Int) → (List Int) → (List Int) × (List Int)
 | 0, mask, ar40, ar56 => (ar40, ar56)
 | k + 1, mask, ar40, ar56 => (bif (decide (((mask : Nat) : Int) ≤ (gAll g))) then (Go.Am.andThen (bestCosts_l1 g mask (parts ((mask : Nat) : Int)) ar40 ar56) (fun z => (fun (ar401 : List Int) (ar561 : List Int) => (bestCosts_l0 g k (mask + 1) ar401 ar561)) z.1 z.2)) else (ar40, ar56))

def bestCosts (g : Graph) : (List Int) × (List Int) := (Go.Am.andThen (bestCosts_l0 g (Int.toNat (gAll g + 1 - (1 : Int)) + 1) 1 (List.replicate (Int.toNat ((gAll g) + 1)) 0 : List Int) (List.replicate (Int.toNat ((gAll g) + 1)) 0 : List Int)) (fun z => (fun (ar40 : List Int) (ar56 : List Int) => (ar40, ar56)) z.1 z.2))

def bestCosts_sp : FnSpec := mkSpec [.rd (.named 1)] [.own (.int .i64), .own (.int .i64)] (fun (g : Graph) => VG g) (fun (g : Graph) => [⟨(.slice (.int .i64)), ((bestCosts g).1)⟩, ⟨(.slice (.int .i64)), ((bestCosts g).2)⟩])

theorem bestCosts_ok : FnOK Try.prog 28 bestCosts_sp := by
 have hC : CtxOK Try.prog (mkCtx tyL [(23, gAll_sp), (25, gSize_sp)]) := CtxOK.cons gAll_ok (CtxOK.cons gSize_ok (CtxOK.nil tyOK)); have hM : Try.prog.follows .mixedOrders = true := Try.checked.mixed; have hC1 := hC.rebase 1000; refine FnOK.of_bodyR Try.func28 (by kernel_rfl) rfl (C := (mkCtx tyL [(23, gAll_sp), (25, gSize_sp)])) hC.ty (by kernel_rfl) ?_; intro (g : Graph) hwf hpre E hro; have hpre : VG g := hpre; have hw_g : Wf ⟨(.named 1), (g : Graph)⟩ := hwf _ (List.Mem.head _); have hl_g_Rows : ((List.length (Graph.Rows g) : Nat) : Int) ≤ 9223372036854775807 := (hw_g.field (tv := ⟨(.slice (.int .i64)), Graph.Rows g⟩) (List.Mem.head _)).len; have hl_g_Edges : ((List.length (Graph.Edges g) : Nat) : Int) ≤ 9223372036854775807 := (hw_g.field (tv := ⟨(.slice (.named 0)), Graph.Edges g⟩) (List.Mem.tail _ (List.Mem.head _))).len; have hA := gAll_b hpre; have hn5 := hpre.n5; have e0 : bestCosts g = bestCosts g := rfl; refine AW.seq (AW.r1 hC [1, 2, 3] [4, 8, 12] ⟨[(1, .ref 4 1 0), (2, .ref 8 1 0), (3, .ref 12 1 0)], [(4, .box 1 [.dref (.named 1) (g : Graph)]), (8, .box 1 [.nilsl]), (12, .box 1 [.nilsl])]⟩ ?_); refine AW.seq (AW.r0U hC [1, 2, 3] [4, 8, 12, 40] [] [(8, .box 1 [.arr 40 1]), (40, .arr 1 (.int .i64) ((List.replicate (Int.toNat ((gAll g) + 1)) 0 : List Int) : List Int))] [(g.Rows.length ≤ 40), (-9223372036854775808 ≤ ((gAll g) + 1) ∧ ((gAll g) + 1) ≤ 9223372036854775807), (0 ≤ ((gAll g) + 1) ∧ ((gAll g) + 1) ≤ ((gAll g) + 1) ∧ ((gAll g) + 1) ≤ 4294967296)] ?_ ?_)
 ·
  refine ⟨?_, ?_, ?_, trivial⟩
  · first | (omega) | ((simp only [lens] at *; omega))
  · first | (omega) | ((simp only [lens] at *; omega))
  · first | (omega) | ((simp only [lens] at *; omega))
 refine AW.seq (AW.r0U hC [1, 2, 3] [4, 8, 12, 40, 56] [] [(12, .box 1 [.arr 56 1]), (56, .arr 1 (.int .i64) ((List.replicate (Int.toNat ((gAll g) + 1)) 0 : List Int) : List Int))] [(g.Rows.length ≤ 40), (-9223372036854775808 ≤ ((gAll g) + 1) ∧ ((gAll g) + 1) ≤ 9223372036854775807), (0 ≤ ((gAll g) + 1) ∧ ((gAll g) + 1) ≤ ((gAll g) + 1) ∧ ((gAll g) + 1) ≤ 4294967296)] ?_ ?_)
 ·
  refine ⟨?_, ?_, ?_, trivial⟩
  · first | (omega) | ((simp only [lens] at *; omega))
  · first | (omega) | ((simp only [lens] at *; omega))
  · first | (omega) | ((simp only [lens] at *; omega))
 refine AW.seq (AW.seq (AW.r1U hC [1, 2, 3, 4] [4, 8, 12, 16, 40, 56] [(4, .ref 16 1 0)] [(16, .box 1 [.int .i64 1])] ?_)); refine AW.lpB (ζ := (List Int) × (List Int)) (fun x => ⟨[(2, .ref 8 1 0), (3, .ref 12 1 0)], [(8, .box 1 [.arr 40 1]), (12, .box 1 [.arr 56 1]), (40, .arr 1 (.int .i64) (x.1 : List Int)), (56, .arr 1 (.int .i64) (x.2 : List Int))]⟩) (fun x => (List.length x.1 = Int.toNat (gAll g + 1) ∧ List.length x.2 = Int.toNat (gAll g + 1)) ∧ CB x.1) (fun x => x) (α := Nat × (List Int) × (List Int)) (fun x => ⟨[(1, .ref 4 1 0), (2, .ref 8 1 0), (3, .ref 12 1 0), (4, .ref 16 1 0)], [(4, .box 1 [.dref (.named 1) (g : Graph)]), (8, .box 1 [.arr 40 1]), (12, .box 1 [.arr 56 1]), (16, .box 1 [.int .i64 ((x.1 : Nat) : Int)]), (40, .arr 1 (.int .i64) (x.2.1 : List Int)), (56, .arr 1 (.int .i64) (x.2.2 : List Int))]⟩) (fun x => ((List.length x.2.1 = Int.toNat (gAll g + 1) ∧ List.length x.2.2 = Int.toNat (gAll g + 1)) ∧ CB x.2.1) ∧ 1 ≤ x.1) (fun x => Int.toNat (gAll g + 1 - (x.1 : Int))) (fun k x => bestCosts_l0 g k x.1 x.2.1 x.2.2) (1, (List.replicate (Int.toNat ((gAll g) + 1)) 0 : List Int), (List.replicate (Int.toNat ((gAll g) + 1)) 0 : List Int)) (by kernel_rfl) ?_ ?_ ?_
 · first | exact ⟨⟨⟨by simp, by simp⟩, CB.zero _⟩, Nat.le_refl _⟩ | (dsimp only; exact ⟨⟨⟨by simp, by simp⟩, CB.zero _⟩, Nat.le_refl _⟩) | (show ((List.length (List.replicate (Int.toNat ((gAll g) + 1)) 0 : List Int) = Int.toNat (gAll g + 1) ∧ List.length (List.replicate (Int.toNat ((gAll g) + 1)) 0 : List Int) = Int.toNat (gAll g + 1)) ∧ CB (List.replicate (Int.toNat ((gAll g) + 1)) 0 : List Int)) ∧ 1 ≤ 1; exact ⟨⟨⟨by simp, by simp⟩, CB.zero _⟩, Nat.le_refl _⟩)
 ·
  intro x k81q hI0 hk79 e80; obtain ⟨mask, ar40, ar56⟩ := x; (first | dsimp only at e80 | skip); replace hI0 : ((List.length ar40 = Int.toNat (gAll g + 1) ∧ List.length ar56 = Int.toNat (gAll g + 1)) ∧ CB ar40) ∧ 1 ≤ mask := hI0; refine AW.seq (AW.seq (AW.d0U hC hM [1, 2, 3, 4, 18] [4, 8, 12, 16, 40, 56] [(18, .bool (decide (((mask : Nat) : Int) ≤ (gAll g))))] [] [(g.Rows.length ≤ 40)] ?_ ?_))
  ·
   refine ⟨?_, trivial⟩
   · first | (omega) | ((simp only [lens] at *; omega))
  refine AW.cdE e80 ?_ ?_
  ·
   intro h82q e83; refine AW.kpU [1, 2, 3, 4] [4, 8, 12, 16, 40, 56] [] [] ?_; refine AW.skip (AW.seq (AW.block (AW.seq (AW.regionO [0, 1] (by rfl) ?_))))
   refine AWO.runU hC false [] [0] [1] [1, 2, 3, 4, 21] [4, 8, 12, 16, 40, 56]
    [(21, .int .i64 ((mask : Nat) : Int))] []
    [] (by rfl) (by kernel_rfl) ?_ ?_
   · exact trivial
   refine AWO.call hC.ty (vs := [.int .i64 ((mask : Nat) : Int)]) (caps := []) (by rfl) rfl (.inl rfl) (by decide) (by kernel_rfl) (by kernel_rfl) Try.func42 (by kernel_rfl) rfl (by kernel_rfl) ?_; intro o1 ho1; refine AW.kpU [0, 1001, 1002, 1003, 1004] [4, 8, 12, 16, 40, 56] [] [] ?_; refine AW.seq (AW.r1U hC1 [1, 1001, 1002, 1003, 1004] [4, 8, 12, 16, 40, 56, 4004] [(1, .ref 4004 1 0)] [(4004, .box 1 [.int .i64 ((mask : Nat) : Int)])] ?_); refine AW.seq (AW.r1U hC1 [2, 1001, 1002, 1003, 1004] [4, 8, 12, 16, 40, 56, 4004] [(2, .clo 46 [.ref 4004 1 0])] [] ?_); refine AW.ret ?_; refine ⟨[.clo 46 [.ref 4004 1 0]], by kernel_rfl, ?_⟩; refine AWO.keep [1, 2, 3, 4, 22] [4, 8, 12, 16, 40, 56, 4004] ⟨[(1, .ref 4 1 0), (2, .ref 8 1 0), (3, .ref 12 1 0), (4, .ref 16 1 0), (22, .clo 46 [.ref 4004 1 0])], [(4, .box 1 [.dref (.named 1) (g : Graph)]), (8, .box 1 [.arr 40 1]), (12, .box 1 [.arr 56 1]), (16, .box 1 [.int .i64 ((mask : Nat) : Int)]), (40, .arr 1 (.int .i64) (ar40 : List Int)), (56, .arr 1 (.int .i64) (ar56 : List Int)), (4004, .box 1 [.int .i64 ((mask : Nat) : Int)])]⟩ (by kernel_rfl) ?_
   refine AWO.runU hC false [] [] [] [1, 2, 3, 4, 22] [4, 8, 12, 16, 40, 56, 4004]
    [] []
    [] (by rfl) (by kernel_rfl) ?_ ?_
   · exact trivial
   refine AWO.nil ?_; refine AW.block (AW.cutQ (α := (List Int) × (List Int)) (fun x => ⟨[(1, .ref 4 1 0), (2, .ref 8 1 0), (3, .ref 12 1 0), (4, .ref 16 1 0), (22, .clo 46 [.ref 4004 1 0])], [(4, .box 1 [.dref (.named 1) (g : Graph)]), (8, .box 1 [.arr 40 1]), (12, .box 1 [.arr 56 1]), (16, .box 1 [.int .i64 ((mask : Nat) : Int)]), (40, .arr 1 (.int .i64) (x.1 : List Int)), (56, .arr 1 (.int .i64) (x.2 : List Int)), (4004, .box 1 [.int .i64 ((mask : Nat) : Int)])]⟩) (fun x => ((List.length x.1 = Int.toNat (gAll g + 1) ∧ List.length x.2 = Int.toNat (gAll g + 1)) ∧ CB x.1) ∧ (bestCosts_l1 g mask (parts ((mask : Nat) : Int)) ar40 ar56) = x) ?_ ?_)
   ·
    skip; refine AW.rangeFunc (α := (List Int) × (List Int)) hro Try.func46 rfl rfl (by rfl) (by decide) (fun x => ⟨[(1, .ref 4 1 0), (2, .ref 8 1 0), (3, .ref 12 1 0), (4, .ref 16 1 0), (22, .clo 46 [.ref 4004 1 0])], [(4, .box 1 [.dref (.named 1) (g : Graph)]), (8, .box 1 [.arr 40 1]), (12, .box 1 [.arr 56 1]), (16, .box 1 [.int .i64 ((mask : Nat) : Int)]), (40, .arr 1 (.int .i64) (x.1 : List Int)), (56, .arr 1 (.int .i64) (x.2 : List Int)), (4004, .box 1 [.int .i64 ((mask : Nat) : Int)])]⟩) (fun k x => ((List.length x.1 = Int.toNat (gAll g + 1) ∧ List.length x.2 = Int.toNat (gAll g + 1)) ∧ CB x.1) ∧ (bestCosts_l1 g mask (parts ((mask : Nat) : Int)) ar40 ar56) = bestCosts_l1 g mask (List.drop k (parts ((mask : Nat) : Int))) x.1 x.2) ((parts ((mask : Nat) : Int)).map (SV.int .i64)) ((parts ((mask : Nat) : Int)).map (Value.int .i64)) (by simp) (els_int_rep (fun y hy => parts_rng (by omega) hy)) [1, 2, 3, 4, 22] [4, 8, 12, 16, 40, 56, 4004] (fun x => by kernel_rfl) (fun cvs hl => parts_it (id := 4004) (ep := 1) (mask := ((mask : Nat) : Int)) (by omega) (fun x => by kernel_rfl) cvs hl) (ar40, ar56) (by kernel_rfl) ⟨?_, by rw [List.drop_zero]⟩ ?_ ?_
    · show (List.length ar40 = Int.toNat (gAll g + 1) ∧ List.length ar56 = Int.toNat (gAll g + 1)) ∧ CB ar40; exact hI0.1
    ·
     intro k x sv hsv hR E1; obtain ⟨ar401, ar561⟩ := x; obtain ⟨hI1, he96⟩ := hR; replace hI1 : (List.length ar401 = Int.toNat (gAll g + 1) ∧ List.length ar561 = Int.toNat (gAll g + 1)) ∧ CB ar401 := hI1; obtain ⟨v23, hd98, rfl, hy99⟩ := els_int hsv; have e97 : (bestCosts_l1 g mask (parts ((mask : Nat) : Int)) ar40 ar56) = bestCosts_l1 g mask (v23 :: List.drop (k + 1) (parts ((mask : Nat) : Int))) ar401 ar561 := he96.trans (by rw [hd98]); have hy99m := parts_mem hy99; have hr := part_rest (by omega) hy99m; have hs := gSize_b hpre ((mask : Nat) : Int); have c1 := hI1.2 (Int.toNat v23); have c2 := hI1.2 (Int.toNat (bits .andNot .i64 ((mask : Nat) : Int) v23)); have hl := hI1.1; refine AW.kp [1, 2, 3, 4, 22, 23, 1001, 1002, 1003, 1004, 1022] [4, 8, 12, 16, 40, 56, 4004] ⟨[(1, .ref 4 1 0), (2, .ref 8 1 0), (3, .ref 12 1 0), (4, .ref 16 1 0), (22, .clo 46 [.ref 4004 1 0]), (23, .int .i64 v23), (1001, .ref 4 1 0), (1002, .ref 8 1 0), (1003, .ref 12 1 0), (1004, .ref 16 1 0), (1022, .clo 46 [.ref 4004 1 0])], [(4, .box 1 [.dref (.named 1) (g : Graph)]), (8, .box 1 [.arr 40 1]), (12, .box 1 [.arr 56 1]), (16, .box 1 [.int .i64 ((mask : Nat) : Int)]), (40, .arr 1 (.int .i64) (ar401 : List Int)), (56, .arr 1 (.int .i64) (ar561 : List Int)), (4004, .box 1 [.int .i64 ((mask : Nat) : Int)])]⟩ ?_; refine AW.r1U hC1 [1, 2, 3, 4, 5, 1001, 1002, 1003, 1004, 1022] [4, 8, 12, 16, 40, 56, 4004] [(5, .int .i64 v23)] [] ?_; intro E99; refine AW.block (AW.seq (AW.d0U hC1 hM [2, 3, 4, 5, 6, 1001, 1002, 1003, 1004, 1022] [4, 8, 12, 16, 40, 56, 4004] [(6, .int .i64 (((gSize g ((mask : Nat) : Int)) + (List.getD ar401 (Int.toNat v23) 0)) + (List.getD ar401 (Int.toNat (bits .andNot .i64 ((mask : Nat) : Int) v23)) 0)))] [] [(VG g ∧ True), (0 ≤ v23 ∧ v23 < ((List.length ar401 : Nat) : Int)), (-9223372036854775808 ≤ ((gSize g ((mask : Nat) : Int)) + (List.getD ar401 (Int.toNat v23) 0)) ∧ ((gSize g ((mask : Nat) : Int)) + (List.getD ar401 (Int.toNat v23) 0)) ≤ 9223372036854775807), (0 ≤ (bits .andNot .i64 ((mask : Nat) : Int) v23) ∧ (bits .andNot .i64 ((mask : Nat) : Int) v23) < ((List.length ar401 : Nat) : Int)), (-9223372036854775808 ≤ (((gSize g ((mask : Nat) : Int)) + (List.getD ar401 (Int.toNat v23) 0)) + (List.getD ar401 (Int.toNat (bits .andNot .i64 ((mask : Nat) : Int) v23)) 0)) ∧ (((gSize g ((mask : Nat) : Int)) + (List.getD ar401 (Int.toNat v23) 0)) + (List.getD ar401 (Int.toNat (bits .andNot .i64 ((mask : Nat) : Int) v23)) 0)) ≤ 9223372036854775807)] ?_ ?_))
     ·
      refine ⟨?_, ?_, ?_, ?_, ?_, trivial⟩
      · exact ⟨hpre, trivial⟩
      · first | (omega) | ((simp only [lens] at *; omega))
      · first | (omega) | ((simp only [lens] at *; omega))
      · first | (omega) | ((simp only [lens] at *; omega))
      · first | (omega) | ((simp only [lens] at *; omega))
     refine AW.seq (AW.r0U hC1 [2, 3, 4, 5, 6, 51, 1001, 1002, 1003, 1004, 1022] [4, 8, 12, 16, 40, 56, 4004] [(51, .bool (bif ((List.getD ar561 mask 0) == 0) then true else (decide ((((gSize g ((mask : Nat) : Int)) + (List.getD ar401 (Int.toNat v23) 0)) + (List.getD ar401 (Int.toNat (bits .andNot .i64 ((mask : Nat) : Int) v23)) 0)) < (List.getD ar401 mask 0)))))] [] [(0 ≤ ((mask : Nat) : Int) ∧ ((mask : Nat) : Int) < ((List.length ar561 : Nat) : Int)), ((((List.getD ar561 mask 0) == 0) = false) → ((((List.getD ar561 mask 0) == 0) = false))), ((((List.getD ar561 mask 0) == 0) = false) → ((((List.getD ar561 mask 0) == 0) = false))), ((((List.getD ar561 mask 0) == 0) = false) → (0 ≤ ((mask : Nat) : Int) ∧ ((mask : Nat) : Int) < ((List.length ar401 : Nat) : Int))), ((((List.getD ar561 mask 0) == 0) = false) → ((((List.getD ar561 mask 0) == 0) = false))), ((((List.getD ar561 mask 0) == 0) = false) → ((((List.getD ar561 mask 0) == 0) = false))), ((((List.getD ar561 mask 0) == 0) = false) → ((((List.getD ar561 mask 0) == 0) = false))), ((((List.getD ar561 mask 0) == 0) = false) → ((((List.getD ar561 mask 0) == 0) = false)))] ?_ ?_)
     ·
      refine ⟨?_, ?_, ?_, ?_, ?_, ?_, ?_, ?_, trivial⟩
      · first | (omega) | ((simp only [lens] at *; omega))
      · first | (intro g100; assumption) | (intro g100; exact ⟨by assumption, by assumption⟩) | (intro g100; (have g100p0 : (List.getD ar561 mask 0) ≠ 0 := (Go.Am.beq_neg g100)); assumption) | (intro g100; (have g100p0 : (List.getD ar561 mask 0) ≠ 0 := (Go.Am.beq_neg g100)); exact ⟨by assumption, by assumption⟩)
      · first | (intro g101; assumption) | (intro g101; exact ⟨by assumption, by assumption⟩) | (intro g101; (have g101p0 : (List.getD ar561 mask 0) ≠ 0 := (Go.Am.beq_neg g101)); assumption) | (intro g101; (have g101p0 : (List.getD ar561 mask 0) ≠ 0 := (Go.Am.beq_neg g101)); exact ⟨by assumption, by assumption⟩)
      · first | (intro g102; omega) | (intro g102; (simp only [lens] at *; omega)) | (intro g102; (have g102p0 : (List.getD ar561 mask 0) ≠ 0 := (Go.Am.beq_neg g102)); omega) | (intro g102; (have g102p0 : (List.getD ar561 mask 0) ≠ 0 := (Go.Am.beq_neg g102)); (simp only [lens] at *; omega))
      · first | (intro g103; assumption) | (intro g103; exact ⟨by assumption, by assumption⟩) | (intro g103; (have g103p0 : (List.getD ar561 mask 0) ≠ 0 := (Go.Am.beq_neg g103)); assumption) | (intro g103; (have g103p0 : (List.getD ar561 mask 0) ≠ 0 := (Go.Am.beq_neg g103)); exact ⟨by assumption, by assumption⟩)
      · first | (intro g104; assumption) | (intro g104; exact ⟨by assumption, by assumption⟩) | (intro g104; (have g104p0 : (List.getD ar561 mask 0) ≠ 0 := (Go.Am.beq_neg g104)); assumption) | (intro g104; (have g104p0 : (List.getD ar561 mask 0) ≠ 0 := (Go.Am.beq_neg g104)); exact ⟨by assumption, by assumption⟩)
      · first | (intro g105; assumption) | (intro g105; exact ⟨by assumption, by assumption⟩) | (intro g105; (have g105p0 : (List.getD ar561 mask 0) ≠ 0 := (Go.Am.beq_neg g105)); assumption) | (intro g105; (have g105p0 : (List.getD ar561 mask 0) ≠ 0 := (Go.Am.beq_neg g105)); exact ⟨by assumption, by assumption⟩)
      · first | (intro g106; assumption) | (intro g106; exact ⟨by assumption, by assumption⟩) | (intro g106; (have g106p0 : (List.getD ar561 mask 0) ≠ 0 := (Go.Am.beq_neg g106)); assumption) | (intro g106; (have g106p0 : (List.getD ar561 mask 0) ≠ 0 := (Go.Am.beq_neg g106)); exact ⟨by assumption, by assumption⟩)
     refine AW.cdE e97 ?_ ?_
     ·
      intro h107q e108; refine AW.d0U hC1 hM [1001, 1002, 1003, 1004, 1022] [4, 8, 12, 16, 40, 56, 4004] [] [(40, .arr 1 (.int .i64) ((List.set ar401 mask (((gSize g ((mask : Nat) : Int)) + (List.getD ar401 (Int.toNat v23) 0)) + (List.getD ar401 (Int.toNat (bits .andNot .i64 ((mask : Nat) : Int) v23)) 0))) : List Int)), (56, .arr 1 (.int .i64) ((List.set ar561 mask v23) : List Int))] [(0 ≤ ((mask : Nat) : Int) ∧ ((mask : Nat) : Int) < ((List.length ar401 : Nat) : Int)), (0 ≤ ((mask : Nat) : Int) ∧ ((mask : Nat) : Int) < ((List.length ar561 : Nat) : Int))] ?_ ?_
      ·
       refine ⟨?_, ?_, trivial⟩
       · first | (omega) | ((simp only [lens] at *; omega))
       · first | (omega) | ((simp only [lens] at *; omega))
      refine ⟨((List.set ar401 mask (((gSize g ((mask : Nat) : Int)) + (List.getD ar401 (Int.toNat v23) 0)) + (List.getD ar401 (Int.toNat (bits .andNot .i64 ((mask : Nat) : Int) v23)) 0))), (List.set ar561 mask v23)), by kernel_rfl, ?_, e108⟩; show (List.length (List.set ar401 mask (((gSize g ((mask : Nat) : Int)) + (List.getD ar401 (Int.toNat v23) 0)) + (List.getD ar401 (Int.toNat (bits .andNot .i64 ((mask : Nat) : Int) v23)) 0))) = Int.toNat (gAll g + 1) ∧ List.length (List.set ar561 mask v23) = Int.toNat (gAll g + 1)) ∧ CB (List.set ar401 mask (((gSize g ((mask : Nat) : Int)) + (List.getD ar401 (Int.toNat v23) 0)) + (List.getD ar401 (Int.toNat (bits .andNot .i64 ((mask : Nat) : Int) v23)) 0))); exact ⟨⟨by rw [List.length_set]; exact hI1.1.1, by rw [List.length_set]; exact hI1.1.2⟩, hI1.2.set (by omega) (by omega)⟩
     · intro h109q e110; refine AW.kpU [1001, 1002, 1003, 1004, 1022] [4, 8, 12, 16, 40, 56, 4004] [] [] ?_; refine AW.skip ?_; refine ⟨(ar401, ar561), by kernel_rfl, ?_, e110⟩; show (List.length ar401 = Int.toNat (gAll g + 1) ∧ List.length ar561 = Int.toNat (gAll g + 1)) ∧ CB ar401; exact hI1
    · intro x hR; obtain ⟨ar401, ar561⟩ := x; obtain ⟨hI1, he96⟩ := hR; replace hI1 : (List.length ar401 = Int.toNat (gAll g + 1) ∧ List.length ar561 = Int.toNat (gAll g + 1)) ∧ CB ar401 := hI1; have e97 : (bestCosts_l1 g mask (parts ((mask : Nat) : Int)) ar40 ar56) = bestCosts_l1 g mask [] ar401 ar561 := he96.trans (by rw [List.drop_of_length_le (by simp)]); refine AW.meet (ar401, ar561) (by kernel_rfl) ⟨?_, e97⟩; show (List.length ar401 = Int.toNat (gAll g + 1) ∧ List.length ar561 = Int.toNat (gAll g + 1)) ∧ CB ar401; exact hI1
   ·
    intro x hR; obtain ⟨ar401, ar561⟩ := x; obtain ⟨hJ1, e111⟩ := hR; replace hJ1 : (List.length ar401 = Int.toNat (gAll g + 1) ∧ List.length ar561 = Int.toNat (gAll g + 1)) ∧ CB ar401 := hJ1; have e112 := e83.trans (Go.Am.then_eq e111); (first | dsimp only at e112 | skip); refine AW.seq (AW.seq (AW.r1U hC [1, 2, 3, 60] [4, 8, 12, 40, 56] [(60, .int .i64 ((mask : Nat) : Int))] [] ?_)); refine AW.r1U hC [1, 2, 3, 4] [4, 8, 12, 16, 40, 56] [(4, .ref 16 1 0)] [(16, .box 1 [.int .i64 ((mask : Nat) : Int)])] ?_; refine AW.r0U hC [1, 2, 3, 4] [4, 8, 12, 16, 40, 56] [] [(16, .box 1 [.int .i64 ((mask + 1 : Nat) : Int)])] [(-9223372036854775808 ≤ ((mask + 1 : Nat) : Int) ∧ ((mask + 1 : Nat) : Int) ≤ 9223372036854775807)] ?_ ?_
    ·
     refine ⟨?_, trivial⟩
     · first | (omega) | ((simp only [lens] at *; omega))
    refine AW.bk (mask + 1, ar401, ar561) e112 hk79 ?_ ?_
    · first | exact ⟨hJ1, by omega⟩ | (dsimp only; exact ⟨hJ1, by omega⟩) | (show ((List.length ar401 = Int.toNat (gAll g + 1) ∧ List.length ar561 = Int.toNat (gAll g + 1)) ∧ CB ar401) ∧ 1 ≤ (mask + 1); exact ⟨hJ1, by omega⟩)
    · first | omega | (simp only [lens]; omega) | (dsimp only; omega) | (dsimp only; (simp only [lens]; omega)) | (show Int.toNat (gAll g + 1 - ((mask + 1) : Int)) < Int.toNat (gAll g + 1 - (mask : Int)); omega) | (show Int.toNat (gAll g + 1 - ((mask + 1) : Int)) < Int.toNat (gAll g + 1 - (mask : Int)); (simp only [lens]; omega))
  · intro h113q e114; refine AW.kpU [2, 3] [8, 12, 40, 56] [] [] ?_; refine AW.exit ?_; refine AW.meet (ar40, ar56) (by kernel_rfl) ⟨?_, e114⟩; first | exact hI0.1 | (dsimp only; exact hI0.1) | (show (List.length ar40 = Int.toNat (gAll g + 1) ∧ List.length ar56 = Int.toNat (gAll g + 1)) ∧ CB ar40; exact hI0.1)
 · intro x hJ0 e115; obtain ⟨ar40, ar56⟩ := x; replace hJ0 : (List.length ar40 = Int.toNat (gAll g + 1) ∧ List.length ar56 = Int.toNat (gAll g + 1)) ∧ CB ar40 := hJ0; have e116 := e0.trans (Go.Am.then_eq e115); (first | dsimp only at e116 | skip); refine AW.seq (AW.d1U hC hM [2, 3] [8, 12, 40, 56] [] [] ?_); exact AW.ret (AW.retE (β := (List Int) × (List Int)) (fun v => [⟨(.slice (.int .i64)), v.1⟩, ⟨(.slice (.int .i64)), v.2⟩]) (fun v => []) (v := (ar40, ar56)) e116 (by kernel_rfl) rfl rfl)

end
end Go.Proofs.Ytclennmbceaoeaa
