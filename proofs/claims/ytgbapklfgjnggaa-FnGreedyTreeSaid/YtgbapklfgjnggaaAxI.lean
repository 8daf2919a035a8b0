/-
  A part of the proof of this claim (AxI): what functions of the program compute, and plain facts of that. No conditions.
-/
import Derived.Test.YtgbapklfgjnggaaAxT
import Derived.Test.YtgbapklfgjnggaaAnE
import Derived.WalkKit
import Derived.TacticsIn
import Derived.BigFrameIn
set_option linter.all false
namespace Go.Proofs.Ytgbapklfgjnggaa
open Go Go.Am
open Go.RowKit
noncomputable section

def partsFrom (mask : Int) : Nat → Int → List Int
 | 0, _ => []
 | k + 1, p => bif decide (p < mask) then (bif (bits .andNot .i64 p mask == 0) then p :: partsFrom mask k (p + 1) else partsFrom mask k (p + 1)) else []

def parts (mask : Int) : List Int := partsFrom mask mask.toNat 1

def partsMu (mask : Int) (a : Act) (_ : World) : Nat := match a.tmps[3]? with
 | some (Value.int _ p) => (mask + 1 - p).toNat
 | _ => 0

theorem partsMu_at (mask p : Int) (ts : Array Value) (d : List Deferred) (w : World) (h : ts[3]? = some (.int .i64 p)) : partsMu mask { tmps := ts, defers := d } w = (mask + 1 - p).toNat := by
 unfold partsMu
 rw [h]

set_option maxHeartbeats 1000000 in
theorem parts_iter (b : Nat) (mask : Int) (hm : 0 ≤ mask ∧ mask ≤ 4294967296) : IterOK Try.prog 85 [.pointer (some ⟨b, 0, none⟩)] ((parts mask).map (Value.int .i64)) (fun W => W.cell? ⟨b, 0, none⟩ = some (.int .i64 mask)) := by
 intro L J Jx W hK hY h0
 refine callsIn_of_wp Try.func85 rfl trivial ?_ rfl
 simp only [Try.ntmps85, List.size_toArray, List.length_cons, List.length_nil, Nat.reduceAdd, Nat.reduceSub, Array.replicate_succ, Array.replicate_zero, List.push_toArray, List.append_toArray, List.nil_append, List.cons_append]
 gi_wp2
 refine wpIn_loop (fun a w => ∃ (k f : Nat) (p : Int) (v2 v4 v5 v6 v7 v8 v9 v10 v11 v12 v13 v14 v15 v16 v17 v18 : Value), a = { tmps := #[.func (.yield L) #[] #[], .pointer (some ⟨b, 0, none⟩), v2, .int .i64 p, v4, v5, v6, v7, v8, v9, v10, v11, v12, v13, v14, v15, v16, v17, v18], defers := [] } ∧ J k w ∧ (parts mask).drop k = partsFrom mask f p ∧ (mask - p ≤ f ∧ 1 ≤ p ∧ p ≤ mask + 1) ∧ k ≤ (parts mask).length)
  (partsMu mask) ⟨0, mask.toNat, 1, undef, undef, undef, undef, undef, undef, undef, undef, undef, undef, undef, undef, undef, undef, undef, undef, rfl, h0, rfl, by omega, Nat.zero_le _⟩ ?_
 rintro a w ⟨k, f, p, v2, v4, v5, v6, v7, v8, v9, v10, v11, v12, v13, v14, v15, v16, v17, v18, rfl, hJ, hd, hf, hk⟩
 have hc := hK k w hJ
 by_cases hlt : p < mask
 ·
  obtain ⟨f, rfl⟩ : ∃ g, f = g + 1 := ⟨f - 1, by omega⟩
  unfold partsFrom at hd
  rw [decide_eq_true hlt, cond_true] at hd
  have hp1 : IntKind.i64.wrap (p + 1) = p + 1 := by rw [IntKind.wrap_i64]; omega
  by_cases hb : bits .andNot .i64 p mask = 0
  ·
   rw [beq_iff_eq.2 hb, cond_true] at hd
   have hkl : k < (parts mask).length := by
    rcases Nat.lt_or_ge k (parts mask).length with h | h
    ·
     exact h
    ·
     rw [List.drop_eq_nil_of_le h] at hd; cases hd
   rw [List.drop_eq_getElem_cons hkl, List.cons.injEq] at hd
   obtain ⟨fn, tmps, assign, body, hy, hR⟩ := hY k (.int .i64 p) w (by rw [List.getElem?_map, List.getElem?_eq_getElem hkl, hd.1]; rfl) hJ
   gi_wp2
   refine ⟨rfl, hR.mono ?_⟩
   rintro e W1 (⟨rfl, h⟩ | ⟨rfl, h⟩)
   ·
    gi_wp2
    refine ⟨⟨k + 1, f, p + 1, _, _, _, _, _, _, _, _, _, _, _, _, _, _, _, _, rfl, h, hd.2, by omega, hkl⟩, ?_⟩
    rw [partsMu_at mask (p + 1) _ _ _ rfl, partsMu_at mask p _ _ _ rfl]
    omega
   ·
    gi_wp2
    refine bodyPost_ret (results_none rfl _ _ _) rfl ?_
    exact ⟨⟨_, rfl⟩, .inr h⟩
  ·
   rw [beq_false_of_ne hb, cond_false] at hd
   gi_wp2
   refine ⟨fun _ h => (by cases h), ?_⟩
   gi_wp2
   refine ⟨⟨k, f, p + 1, _, _, _, _, _, _, _, _, _, _, _, _, _, _, _, _, rfl, hJ, hd, by omega, hk⟩, ?_⟩
   rw [partsMu_at mask (p + 1) _ _ _ rfl, partsMu_at mask p _ _ _ rfl]
   omega
 ·
  have hd0 : (parts mask).drop k = [] := by
   rw [hd]
   cases f with
   | zero => rfl
   | succ f =>
    unfold partsFrom
    rw [decide_eq_false hlt, cond_false]
  have hkl : k = (parts mask).length := by
   have := List.drop_eq_nil_iff.1 hd0
   omega
  gi_wp2
  go_end0
  exact ⟨⟨_, rfl⟩, .inl (by rw [← hkl]; exact hJ)⟩

theorem parts_it {α : Type} {S : α → St} {id ep : Nat} {mask : Int} (hb : 0 ≤ mask ∧ mask ≤ 4294967296) (hm : ∀ x, (S x).memf id = some (.box ep [.int .i64 mask])) (cvs : List Value) (hl : [SV.ref id ep 0].length = cvs.length) :
  IterOK Try.prog 85 cvs ((parts mask).map (Value.int .i64)) (CapsAt S [.ref id ep 0] cvs) := by
 intro L J Jx W hK hY h0
 match cvs, hl with
 | [v], _ =>
  -- the captured variable
  have cell : ∀ W, CapsAt S [.ref id ep 0] [v] W → ∃ b, v = .pointer (some ⟨b, 0, none⟩) ∧ W.cell? ⟨b, 0, none⟩ = some (.int .i64 mask) := by
   rintro W ⟨E, x, β, h1, h2⟩
   have hv := h1 0 _ _ rfl rfl
   cases hv with
   | ref _ _ _ b hx h =>
    obtain ⟨C, hC⟩ := h _ (hm x)
    obtain ⟨b', C', cs, el, g1, g2, g3, g4⟩ := h2 id _ (hm x)
    rw [hC] at g1
    simp only [Option.some.injEq, Prod.mk.injEq] at g1
    obtain ⟨rfl, rfl⟩ := g1
    obtain ⟨u, hu, _, hr⟩ := g4 0 _ rfl
    cases hr
    refine ⟨b, rfl, ?_⟩
    unfold World.cell?
    rw [g2]
    exact hu
  obtain ⟨b, rfl, _⟩ := cell W (hK 0 W h0)
  refine parts_iter b mask hb L J Jx W (fun k W1 h => ?_) hY h0
  obtain ⟨b', e, h'⟩ := cell W1 (hK k W1 h)
  simp only [Value.pointer.injEq, Option.some.injEq, Addr.mk.injEq, and_true] at e
  rw [e]
  exact h'


theorem partsFrom_mem {mask : Int} : ∀ {k : Nat} {p y : Int}, y ∈ partsFrom mask k p → p ≤ y ∧ y < mask ∧ bits .andNot .i64 y mask = 0 := by
 intro k
 induction k with
 | zero => intro p y h; cases h
 | succ k ih =>
  intro p y h
  unfold partsFrom at h
  by_cases hlt : p < mask
  ·
   rw [decide_eq_true hlt, cond_true] at h
   by_cases hb : bits .andNot .i64 p mask = 0
   ·
    rw [beq_iff_eq.2 hb, cond_true] at h
    rcases List.mem_cons.1 h with rfl | h
    ·
     exact ⟨Int.le_refl _, hlt, hb⟩
    ·
     have := ih h
     exact ⟨by omega, this.2⟩
   ·
    rw [beq_false_of_ne hb, cond_false] at h
    have := ih h
    exact ⟨by omega, this.2⟩
  ·
   rw [decide_eq_false hlt, cond_false] at h
   cases h

theorem parts_mem {mask y : Int} (h : y ∈ parts mask) : 1 ≤ y ∧ y < mask ∧ bits .andNot .i64 y mask = 0 := partsFrom_mem h

theorem parts_rng {mask y : Int} (hm : mask ≤ 4294967296) (h : y ∈ parts mask) : -9223372036854775808 ≤ y ∧ y ≤ 9223372036854775807 := by
 have := parts_mem h
 omega

end
end Go.Proofs.Ytgbapklfgjnggaa
