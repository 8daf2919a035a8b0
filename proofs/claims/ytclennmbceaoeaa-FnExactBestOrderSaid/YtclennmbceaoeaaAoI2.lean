/-
  A part of the proof of this claim (AoI2): what functions of the program compute, and plain facts of that. No conditions.
-/
import Derived.Test.YtclennmbceaoeaaAoI1
set_option linter.all false
namespace Go.Proofs.Ytclennmbceaoeaa
open Go Go.Am
open Go.RowKit
noncomputable section

structure AP (w w' : World) (ov ov' : Value) (l : List Int) (x : Int) : Prop where
 os : w'.os = w.os
 tape : w'.tape = w.tape
 output : w'.output = w.output
 size : w.heap.size ≤ w'.heap.size
 row : row w' ov' (l ++ [x])
 blk : ∃ q, blockOf ov' = some q ∧ (blockOf ov = some q ∨ w.heap.size ≤ q)
 old : ∀ c, c < w.heap.size → some c ≠ blockOf ov → w'.heap[c]? = w.heap[c]?
 back : ∀ w4 : World, Proofs.Ytclennmbceaoeaa.row w4 ov' (l ++ [x]) → (∀ b, blockOf ov = some b → blockOf ov' ≠ some b → w4.heap[b]? = w'.heap[b]?) → Proofs.Ytclennmbceaoeaa.row w4 ov l

theorem app_run {w : World} {ov : Value} {os : List Int} (hr : row w ov os) (hl : os.length ≤ 10) {x : Int} {pb : Nat} (hp : w.cell? ⟨pb, 0, none⟩ = some (.int .i64 x)) (ty : TypeId) :
  ∃ ov' w', (Builtin.append_ #[23, 23] ty #[ov, .slice (some ⟨pb, 0, none⟩) 1 1]).run Try.prog w = .ok ov' w' ∧ AP w w' ov ov' os x := by
 obtain ⟨i0, hi0, hz0, hz1, hz2⟩ := info_parts (show (Try.prog.info? 3).map (fun i => (i.zero, i.size, i.bytes)) = some (some (.int .i64 0), 1, 8) by kernel_rfl); (have hT : Try.prog.underlying 23 = some (.slice 3) := by kernel_rfl); (have hsz : (sizeOf 3).run Try.prog w = .ok 1 w := by simp [sizeOf, typeInfo, hi0, hz1]); have hlen : (Builtin.lenOf (.slice (some ⟨pb, 0, none⟩) 1 1)).run Try.prog w = .ok 1 w := rfl
 have hf : ∀ w1 : World, w1.heap = w.heap → (Builtin.firstCells 1 1 (.slice (some ⟨pb, 0, none⟩) 1 1)).run Try.prog w1 = .ok ([Value.int .i64 x]).toArray w1 := by
  intro w1 h1; refine run_firstCells_some w1 1 1 ⟨pb, 0, none⟩ 1 1 [.int .i64 x] rfl fun j v hj => ?_
  cases j with
  | zero =>
   simp only [List.getElem?_cons_zero, Option.some.injEq] at hj; subst hj; rw [Addr.add_lit]; unfold World.cell? at hp ⊢; rw [h1]; exact hp
  | succ j => simp at hj
 have up : ∀ (base : Option Addr) (C : Nat), ov = .slice base os.length C → C < os.length + 1 → (Builtin.firstCells i0.size os.length (.slice base os.length C)).run Try.prog w.drew = .ok (os.map (Value.int .i64)).toArray w.drew →
   (∀ b, blockOf ov = some b → b < w.heap.size) →
   ∃ ov' w', (Builtin.append_ #[23, 23] ty #[ov, .slice (some ⟨pb, 0, none⟩) 1 1]).run Try.prog w = .ok ov' w' ∧ AP w w' ov ov' os x := by
  rintro base C rfl hC ho hlt
  have hb : Builtin.nextslicecap (os.length + 1) C * i0.bytes ≤ 281474976710656 := growslice_fits hC (by
   rw [hz2]
   omega)
  have hrun := run_append_up (ty := ty) hT hT hi0 hz0 hlen ho (by rw [hz1]; exact hf w.drew rfl) hC (by omega) hb; generalize hcapn : grownCap w (os.length + 1) C 3 = capn at hrun; (have hcapn' : os.length + 1 ≤ capn := by rw [← hcapn]; exact Go.Am.grownCap_le w 3 (by omega)); refine ⟨_, _, hrun, ⟨rfl, rfl, rfl, by simp, ?_, ⟨w.heap.size, rfl, .inr (Nat.le_refl _)⟩, fun c hc _ => ?_, fun w4 h4 hk => hr.keep fun b hb => (hk b hb ?_).trans ?_⟩⟩
  ·
   refine .inr ⟨w.heap.size, capn, (os.map (Value.int .i64) ++ [Value.int .i64 x] ++ (Builtin.zeroCells (Value.int .i64 0).cells (capn - (os.length + 1))).toList).toArray, 3, by simp, (by show (w.heap.push _)[w.heap.size]? = _; simp), ?_, by simpa using hcapn', fun i hi => ?_⟩
   · simp [size_zeroCells, Value.cells]; omega
   ·
    simp only [List.getElem?_toArray]; rw [List.getElem?_append_left (by simpa using hi)]; (have hi2 : i < os.length + 1 := by simpa using hi); by_cases hlt2 : i < os.length
    · rw [List.getElem?_append_left (by simpa using hlt2), List.getElem?_map, List.getElem?_eq_getElem hlt2, List.getElem_append_left hlt2]; rfl
    · (obtain rfl : i = os.length := by omega); rw [List.getElem?_append_right (by simp)]; simp
  · show (w.heap.push _)[c]? = _; rw [Array.getElem?_push, if_neg (by omega)]
  · intro e; have h1 := hlt b hb; have h2 : w.heap.size = b := Option.some.inj e; omega
  · have h1 := hlt b hb; show (w.heap.push _)[b]? = _; rw [Array.getElem?_push, if_neg (by omega)]
 rcases hr with ⟨rfl, rfl⟩ | ⟨b, C, cs, el, rfl, hh, hs, hle, hcell⟩
 · exact up none 0 rfl (by simp) (by simp [Builtin.firstCells]) (fun b hb => by cases hb)
 ·
  by_cases hroom : os.length + 1 ≤ C
  ·
   have hrun := run_append_in (P := Try.prog) (ty := ty) (el := el) hT hT hsz hh hlen (hf w rfl) (by simp [Value.oneCell']) hroom (by simp; omega); refine ⟨_, _, hrun, ⟨rfl, rfl, rfl, by simp, ?_, ⟨b, rfl, .inl rfl⟩, fun c _ hc => setRow_other _ _ _ _ (fun e => hc (by rw [e]; rfl)), fun w4 h4 _ => ?_⟩⟩
   ·
    refine .inr ⟨b, C, _, el, by simp, setRow_heap _ _ _ _ _ _ hh, ?_, by simpa using hroom, fun i hi => ?_⟩
    · simp; omega
    ·
     simp only [List.getElem?_toArray]; (have hi2 : i < os.length + 1 := by simpa using hi); (have htl : (cs.toList.take (os.length * 1)).length = os.length := by simp; omega); by_cases hlt2 : i < os.length
     · rw [List.append_assoc, List.getElem?_append_left (by omega), List.getElem?_take, if_pos (by omega), List.getElem_append_left hlt2]; simpa using hcell i hlt2
     · (obtain rfl : i = os.length := by omega); rw [List.append_assoc, List.getElem?_append_right (by omega), htl]; simp
   ·
    rcases h4 with ⟨h4, _⟩ | ⟨b4, C4, cs4, el4, h4, g1, g2, g3, g4⟩
    · cases h4
    ·
     simp only [Value.slice.injEq, Option.some.injEq, Addr.mk.injEq, and_true] at h4; obtain ⟨rfl, _, rfl⟩ := h4; refine .inr ⟨b, C, cs4, el4, rfl, g1, g2, hle, fun i hi => ?_⟩; have := g4 i (by simp; omega)
     rwa [List.getElem_append_left hi] at this
  ·
   refine up (some ⟨b, 0, none⟩) C rfl (by omega) ?_ (fun b' hb' => by obtain rfl := Option.some.inj hb'; exact lt_heap hh); rw [hz1]; refine run_firstCells_some w.drew 1 os.length ⟨b, 0, none⟩ os.length C (os.map (Value.int .i64)) (by simp) fun j v hj => ?_; rw [List.getElem?_map] at hj
   have hjl : j < os.length := by
    rcases Nat.lt_or_ge j os.length with h | h
    · exact h
    · rw [List.getElem?_eq_none h] at hj; cases hj
   rw [List.getElem?_eq_getElem hjl] at hj; obtain rfl := Option.some.inj hj; rw [Addr.add_lit]; unfold World.cell?; rw [show w.drew.heap[b]? = w.heap[b]? from rfl, hh]; simpa using hcell j hjl

end
end Go.Proofs.Ytclennmbceaoeaa
