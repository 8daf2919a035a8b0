/-
  A part of the proof of this claim (AyB): what functions of the program compute, and plain facts of that. No conditions.
-/
import Derived.Test.YtjcjpeckfikfkaaAyA
import Derived.Test.YtjcjpeckfikfkaaAwY
import Derived.WalkKit
import Derived.TacticsIn
import Derived.BigFrameIn
set_option linter.all false
namespace Go.Proofs.Ytjcjpeckfikfkaa
open Go Go.Am
open Go.RowKit
noncomputable section

def keptRows (rows : List (List Val)) (r : Rng) (col : Int) : List (List Val) := rows.filter fun row => keepF row r col

theorem cell_in {w : World} {ad : Addr} {u : Value} (hu : w.cell? ad = some u) : isCells w ad.block := by
 unfold World.cell? at hu
 split at hu
 ·
  rename_i c e f hh
  exact ⟨c, e, f, hh⟩
 ·
  cases hu

theorem pin_cell {A : Nat → Prop} {w W : World} {ad : Addr} {u : Value} (hP : PinAt A w W) (hA : A ad.block) (hu : w.cell? ad = some u) : W.cell? ad = some u := by
 rw [World.cell?_eq_of_heap (hP _ hA)]
 exact hu

theorem keep_call {A B : Nat → Prop} {w W : World} {row : List Val} {v : Value} {r : Rng} {col : Int} {b1 o1 b2 o2 : Nat} {cs1 cs2 : List Value} (hx : RepC A w (.slice (.named 1)) row [v]) (hP : ∀ b, A b → W.heap[b]? = w.heap[b]?) (hA : ∀ b, A b → isCells w b)
  (hB : ∀ b, B b → b < W.heap.size) (h1 : B b1) (h2 : B b2) (c1 : ∀ (j : Nat) (v : Value), cs1[j]? = some v → W.cell? ⟨b1, o1 + j, none⟩ = some v) (c2 : ∀ (j : Nat) (v : Value), cs2[j]? = some v → W.cell? ⟨b2, o2 + j, none⟩ = some v)
  (r1 : RepC B W (.named 0) r cs1) (r2 : RepC B W (.int .i64) col cs2) (hp : 0 ≤ col ∧ col < (List.length row : Int)) :
  CallsIn Fence.wide 0 Try.prog 89 #[v, .pointer (some ⟨b1, o1, none⟩), .pointer (some ⟨b2, o2, none⟩)] W fun e w' => e = .returned (.bool (keepF row r col)) ∧ ∃ q os, w' = Go.Sort.grow (W.drewN q) os := by
 refine callsIn_wide.2 ?_
 have ht : ∀ n, Ty.slice (.named 1) ≠ .named n := fun n h => by cases h
 have := keepF_ok.2 (fun b => A b ∨ B b) W [v, .pointer (some ⟨b1, o1, none⟩), .pointer (some ⟨b2, o2, none⟩)] [⟨.slice (.named 1), row⟩, ⟨.named 0, r⟩, ⟨.int .i64, col⟩] [] (fun b hb => ⟨by
   rcases hb with hb | hb
   ·
    obtain ⟨c, e, f, hh⟩ := hA b hb
    rw [← hP b hb] at hh
    exact (Array.getElem?_eq_some_iff.1 hh).1
   ·
    exact hB b hb, by simp⟩) (by simp) List.nodup_nil
  (.val _ _ _ _ _ _ _ (.one _ _ _ ht (hx.mono fun b hb => ⟨.inl hb, hP b hb⟩)) (.rd _ _ _ _ cs1 _ _ _ _ (.inr h1) c1 (r1.mono fun b hb => ⟨.inr hb, rfl⟩) (.rd _ _ _ _ cs2 _ _ _ _ (.inr h2) c2 (r2.mono fun b hb => ⟨.inr hb, rfl⟩) .nil))) hp (noGlob _ _)
 refine this.mono ?_
 rintro e w' ⟨rvs, nb, A', hp⟩
 have hr : RepRess A' w' [.val .bool] [⟨.bool, keepF row r col⟩] rvs nb := hp.ress
 have hrv : rvs = [.bool (keepF row r col)] := by
  cases hr with
  | val _ _ v _ _ vs _ h1 h2 =>
   cases h2
   cases h1 with
   | one _ _ _ _ h1 => cases h1; rfl
 refine ⟨by rw [hp.ret, hrv]; rfl, world_grow hp.os hp.tape hp.output.1 hp.output.2 hp.grow fun c hc => hp.old c hc (by simp)⟩

theorem keep_at {α : Type} {S : α → St} {kb ep : Nat} {t : Tab} {r : Rng} {col : Int} (hm : ∀ x, (S x).memf kb = some (.box ep [.clo 89 [.dref (.named 0) r, .dref (.int .i64) col]])) {v1 : Value} {bb : Nat} {W : World}
  (h : CapsAt S [.dref (.named 2) t, .ref kb ep 0] [v1, .pointer (some ⟨bb, 0, none⟩)] W) :
  ∃ (B : Nat → Prop) (b1 o1 b2 o2 : Nat) (cs1 cs2 : List Value), W.cell? ⟨bb, 0, none⟩ = some (.func (.func 89) #[] #[.pointer (some ⟨b1, o1, none⟩), .pointer (some ⟨b2, o2, none⟩)]) ∧ (∀ b, B b → b < W.heap.size) ∧ B b1 ∧ B b2 ∧
   (∀ (j : Nat) (v : Value), cs1[j]? = some v → W.cell? ⟨b1, o1 + j, none⟩ = some v) ∧ (∀ (j : Nat) (v : Value), cs2[j]? = some v → W.cell? ⟨b2, o2 + j, none⟩ = some v) ∧ RepC B W (.named 0) r cs1 ∧ RepC B W (.int .i64) col cs2 := by
 obtain ⟨E', x, β', h1, h2⟩ := h
 have hv := h1 1 _ _ rfl rfl
 cases hv with
 | ref _ _ _ _ hx h =>
  obtain ⟨C, hC⟩ := h _ (hm x)
  obtain ⟨b', C', cs, el, g1, g2, g3, g4⟩ := h2 kb _ (hm x)
  rw [hC] at g1
  simp only [Option.some.injEq, Prod.mk.injEq] at g1
  obtain ⟨rfl, rfl⟩ := g1
  obtain ⟨u, hu, _, hr⟩ := g4 0 _ rfl
  cases hr with
  | clo _ _ us hl hur =>
   match us, hl with
   | [u1, u2], _ =>
    have q1 := hur 0 _ _ rfl rfl
    have q2 := hur 1 _ _ rfl rfl
    cases q1 with
    | dref _ _ b1 o1 cs1 hA1 hc1 hr1 =>
     cases q2 with
     | dref _ _ b2 o2 cs2 hA2 hc2 hr2 =>
      refine ⟨allow E' W β', b1, o1, b2, o2, cs1, cs2, ?_, fun b hb => hb.1, hA1, hA2, hc1, hc2, hr1, hr2⟩
      unfold World.cell?
      rw [g2]
      exact hu

set_option maxHeartbeats 1000000 in
theorem sel_none (b off kb cap : Nat) (p : Option Addr) : IterOKg Try.prog 111 [.pointer (some ⟨b, off, none⟩), .pointer (some ⟨kb, 0, none⟩)] [] (fun W => W.cell? ⟨b, off + 1, none⟩ = some (.slice p 0 cap)) := by
 intro L J Jx W hK hG hY h0
 have hc := hK 0 W h0
 refine callsIn_of_wp Try.func111 rfl trivial ?_ rfl
 simp only [Try.ntmps111, List.size_toArray, List.length_cons, List.length_nil, Nat.reduceAdd, Nat.reduceSub, Array.replicate_succ, Array.replicate_zero, List.push_toArray, List.append_toArray, List.nil_append, List.cons_append]
 gi_wp2
 refine wpIn_loop (fun a w => ∃ (v3 v4 v5 v6 v10 v11 v12 v13 v14 v15 v16 v17 v18 v19 v20 v21 v22 : Value), a = { tmps := #[.func (.yield L) #[] #[], .pointer (some ⟨b, off, none⟩), .pointer (some ⟨kb, 0, none⟩), v3, v4, v5, v6, .slice p 0 cap, .int .i64 0, .int .i64 0, v10, v11, v12, v13, v14, v15, v16, v17, v18, v19, v20, v21, v22], defers := [] } ∧ J 0 w)
  (fun _ _ => 0) ⟨undef, undef, undef, _, undef, undef, undef, undef, undef, undef, undef, undef, undef, undef, undef, undef, undef, rfl, h0⟩ ?_
 rintro a w ⟨v3, v4, v5, v6, v10, v11, v12, v13, v14, v15, v16, v17, v18, v19, v20, v21, v22, rfl, hJ⟩
 gi_wp2
 go_end0
 exact ⟨⟨_, rfl⟩, .inl hJ⟩

theorem sel_hit {α : Type} {S : α → St} {kb ep : Nat} {t : Tab} {r : Rng} {col : Int} (hm : ∀ x, (S x).memf kb = some (.box ep [.clo 89 [.dref (.named 0) r, .dref (.int .i64) col]])) (hp : ∀ row ∈ t.Rows, 0 ≤ col ∧ col < (List.length row : Int))
  {x0 : α} {E : Ent} {N : Nat} (a : Act) (w : World) (β : Bind) (cvs : List Value) (hs : SimB E N (S x0).env (S x0).memf a w β)
  (hl : [SV.dref (.named 2) t, SV.ref kb ep 0].length = cvs.length)
  (hr : ∀ (i : Nat) (sv : SV) (v : Value), [SV.dref (.named 2) t, SV.ref kb ep 0][i]? = some sv → cvs[i]? = some v → RepSV (allow E w β) w β (S x0).memf sv v) :
  ∃ vals : List Value, ((keptRows t.Rows r col).map (SV.data (.slice (.named 1)))).length = vals.length ∧ IterOKg Try.prog 111 cvs vals (fun W => PinAt (atData E w β) w W ∧ CapsAt S [SV.dref (.named 2) t, SV.ref kb ep 0] cvs W) ∧
   ∀ (k : Nat) (sv : SV) (v : Value), ((keptRows t.Rows r col).map (SV.data (.slice (.named 1))))[k]? = some sv → vals[k]? = some v → ∀ β' mem', RepSV (atData E w β) w β' mem' sv v := by
 match cvs, hl with
 | [v1, v2], _ =>
  have h0 := hr 0 _ _ rfl rfl
  have h1 := hr 1 _ _ rfl rfl
  cases h1 with
  | ref _ _ _ bb hx2 h2 =>
  cases h0 with
  | dref _ _ b off cs hA hc hrep =>
   obtain ⟨wd, rows⟩ := t
   have hrep2 := hrep.inCells
   cases hrep2 with
   | named _ _ _ hL =>
   cases hL with
   | cons _ _ _ cs1 ds h3 h4 =>
   cases h3
   cases h4 with
   | cons _ _ _ cs2 ds h5 h6 =>
   cases h6
   have hcell : ∀ u, cs2 = [u] → w.cell? ⟨b, off + 1, none⟩ = some u := fun u hu => hc 1 u (by rw [hu]; rfl)
   have dat : ∀ {ad : Addr} {u : Value}, allow E w β ad.block → w.cell? ad = some u → atData E w β ad.block := fun hA hu => ⟨hA, cell_in hu⟩
   change RepC _ w (.slice (.slice (.named 1))) rows cs2 at h5
   cases h5 with
   | nil =>
    have h1 := hcell _ rfl
    refine ⟨[], rfl, ?_, fun k sv v hk => by cases k <;> cases hk⟩
    exact (sel_none b off bb 0 none).weaken fun W h => pin_cell h.1 (dat hA h1) h1
   | slice _ _ ad cap css hlm hcap hA2 hsp hlen hcc hrr =>
    have h1 := hcell _ rfl
    by_cases hx : rows = []
    ·
     subst hx
     refine ⟨[], rfl, ?_, fun k sv v hk => by cases k <;> cases hk⟩
     exact (sel_none b off bb cap (some ad)).weaken fun W h => pin_cell h.1 (dat hA h1) h1
    ·
     obtain ⟨ab, ao, sp⟩ := ad
     obtain rfl : sp = none := hsp hx
     have hA2 := hA2 hx
     have hcv : ∀ i, i < rows.length → ∃ v, css i = [v] := fun i hi => List.length_eq_one_iff.1 (hlen i hi)
     obtain ⟨ps, hps⟩ : ∃ ps : List (Value × List Val), ps = (List.range rows.length).map fun i => ((css i).headD undef, rows.getD i []) := ⟨_, rfl⟩
     have hpl : ps.length = rows.length := by rw [hps, List.length_map, List.length_range]
     have hpg : ∀ i p, ps[i]? = some p → ∃ hi : i < rows.length, css i = [p.1] ∧ p.2 = rows[i] := by
      intro i p hp
      rw [hps, List.getElem?_map] at hp
      obtain ⟨j, hj, rfl⟩ := Option.map_eq_some_iff.1 hp
      obtain ⟨hjl, rfl⟩ := List.getElem?_eq_some_iff.1 hj
      simp only [List.length_range] at hjl
      rw [List.getElem_range]
      obtain ⟨v, hv⟩ := hcv i hjl
      refine ⟨hjl, by rw [hv]; rfl, ?_⟩
      show rows.getD i [] = _
      rw [List.getD_eq_getElem?_getD, List.getElem?_eq_getElem hjl]
      rfl
     have hpm : ps.map Prod.snd = rows := by
      apply List.ext_getElem?
      intro i
      rw [List.getElem?_map]
      by_cases hi : i < rows.length
      ·
       obtain ⟨_, _, e⟩ := hpg i ps[i] (List.getElem?_eq_getElem (by omega))
       rw [List.getElem?_eq_getElem (by omega : i < ps.length), List.getElem?_eq_getElem hi, Option.map_some, e]
      ·
       rw [List.getElem?_eq_none (by omega), List.getElem?_eq_none (by omega)]
       rfl
     have hrepP : ∀ p, p ∈ ps → RepC (atData E w β) w (.slice (.named 1)) p.2 [p.1] ∧ p.2 ∈ rows := by
      intro p hp
      obtain ⟨i, hi, rfl⟩ := List.mem_iff_getElem.1 hp
      obtain ⟨hil, e1, e2⟩ := hpg i ps[i] (List.getElem?_eq_getElem hi)
      have := hrr i hil
      rw [e1] at this
      rw [e2]
      exact ⟨this, List.getElem_mem hil⟩
     have hdm : (ps.filter fun p => keepF p.2 r col).map Prod.snd = keptRows rows r col := by
      unfold keptRows
      rw [← hpm, List.filter_map]
      rfl
     refine ⟨(ps.filter fun p => keepF p.2 r col).map Prod.fst, ?_, ?_, ?_⟩
     ·
      refine (List.length_map (SV.data (.slice (.named 1)))).trans ?_
      rw [List.length_map]
      show (keptRows rows r col).length = _
      rw [← hdm]
      exact List.length_map _
     ·
      refine sel_iter (α := Value × List Val) Prod.fst (fun p => keepF p.2 r col) b off bb 0 ab ao rows.length cap ps hpl hlm _ (fun W1 h => ?_)
      obtain ⟨B, b1, o1, b2, o2, cs1, cs2, k1, k2, k3, k4, k5, k6, k7, k8⟩ := keep_at hm h.2
      refine ⟨pin_cell h.1 (dat hA h1) h1, fun i p hp => ?_, some ⟨b1, o1, none⟩, some ⟨b2, o2, none⟩, k1, fun x hx => ?_⟩
      ·
       obtain ⟨hil, e1, e2⟩ := hpg i p hp
       have h2 := hcc i 0 p.1 hil (by rw [e1]; rfl)
       refine ⟨?_, ?_⟩
       ·
        have := pin_cell (W := W1) (ad := ⟨ab, ao + i * Ty.size (.slice (.named 1)) + 0, none⟩) h.1 hA2 h2
        simpa [Ty.size] using this
       ·
        exact (hrepP p (List.mem_of_getElem? hp)).1.one _ (List.mem_singleton.2 rfl)
      ·
       exact keep_call (hrepP x hx).1 h.1 (fun b hb => hb.2) k2 k3 k4 k5 k6 k7 k8 (hp _ (hrepP x hx).2)
     ·
      intro k sv v hk hv β' mem'
      obtain ⟨r', hr', rfl, -⟩ : ∃ y : List Val, List.drop k (keptRows rows r col) = y :: List.drop (k + 1) (keptRows rows r col) ∧ sv = SV.data (.slice (.named 1)) y ∧ y ∈ keptRows rows r col := els_data hk
      have hr : (keptRows rows r col)[k]? = some r' := by
       have := congrArg (·[0]?) hr'
       simpa [List.getElem?_drop] using this
      rw [List.getElem?_map] at hv
      obtain ⟨p, hp', rfl⟩ := Option.map_eq_some_iff.1 hv
      have : (keptRows rows r col)[k]? = some p.2 := by rw [← hdm, List.getElem?_map, hp']; rfl
      rw [this] at hr
      obtain rfl := Option.some.inj hr
      exact .data _ _ _ (.one _ _ _ (fun n h => by cases h) (hrepP p (List.mem_filter.1 (List.mem_of_getElem? hp')).1).1)

end
end Go.Proofs.Ytjcjpeckfikfkaa
