/-
  A part of the proof of this claim (AwK): what functions of the program compute, and plain facts of that. No conditions.
-/
import Derived.Test.YtjcjpeckfikfkaaAw5
import Derived.Test.YtjcjpeckfikfkaaAnM
import Derived.WalkKit
import Derived.TacticsIn
import Derived.BigFrameIn
set_option linter.all false
namespace Go.Proofs.Ytjcjpeckfikfkaa
open Go Go.Am
open List (drop)
open Go.RowKit
noncomputable section

def likeP {α : Type} (same : α → α → Bool) : Option α → α → Bool
 | none, _ => false
 | some q, p => same q p

def diffP {α : Type} (same : α → α → Bool) : Option α → List α → List α
 | _, [] => []
 | prev, p :: l => bif likeP same prev p then diffP same (some p) l else p :: diffP same (some p) l

theorem diffP_map {α β : Type} {same : α → α → Bool} {same' : β → β → Bool} (f : α → β) (h : ∀ x y, same' (f x) (f y) = same x y) : ∀ (l : List α) (p : Option α), (diffP same p l).map f = diffP same' (p.map f) (l.map f) := by
 intro l
 induction l with
 | nil => intro p; rfl
 | cons x l ih =>
  intro p; (have e : likeP same' (p.map f) (f x) = likeP same p x := by cases p <;> simp [likeP, h]); simp only [diffP, List.map_cons, e]
  cases likeP same p x with
  | true => simp only [cond_true]; exact ih (some x)
  | false => simp only [cond_false, List.map_cons]; rw [ih (some x)]; rfl

theorem diffP_mem {α : Type} {same : α → α → Bool} : ∀ {l : List α} {p : Option α} {x : α}, x ∈ diffP same p l → x ∈ l := by
 intro l
 induction l with
 | nil => intro p x h; cases h
 | cons y l ih =>
  intro p x h; simp only [diffP] at h
  cases e : likeP same p y with
  | true => rw [e, cond_true] at h; exact List.mem_cons_of_mem _ (ih h)
  | false =>
   rw [e, cond_false] at h; rcases List.mem_cons.1 h with rfl | h
   · exact List.mem_cons_self
   · exact List.mem_cons_of_mem _ (ih h)

def diffMu (n : Nat) (a : Act) (_ : World) : Nat := match a.tmps[7]? with
 | some (Value.int _ p) => (n + 1 - p).toNat
 | _ => 0

theorem diffMu_at (n : Nat) (p : Int) (ts : Array Value) (d : List Deferred) (w : World) (h : ts[7]? = some (.int .i64 p)) : diffMu n { tmps := ts, defers := d } w = (n + 1 - p).toNat := by
 unfold diffMu; rw [h]

def prevAt {α : Type} (ps : List α) : Nat → Option α
 | 0 => none
 | i + 1 => ps[i]?

set_option maxHeartbeats 2000000 in
theorem diff_iter {α : Type} (enc : α → Value) (cf : α → α → Int) (b off ab ao n cap : Nat) (ps : List α) (hn : ps.length = n) (hlim : (n : Int) ≤ 9223372036854775807) (Kp : World → Prop)
  (hKp : ∀ W, Kp W → W.cell? ⟨b, off, none⟩ = some (.slice (some ⟨ab, ao, none⟩) n cap) ∧ (∀ i p, ps[i]? = some p → W.cell? ⟨ab, ao + i, none⟩ = some (enc p) ∧ (enc p).oneCell' = true) ∧
   ∀ x y, x ∈ ps → y ∈ ps → CallsIn Fence.wide 0 Try.prog 68 #[enc x, enc y] W fun e w' => e = .returned (.int .i64 (cf x y)) ∧ ∃ q os, w' = Go.Sort.grow (W.drewN q) os) :
  IterOKg Try.prog 107 [.pointer (some ⟨b, off, none⟩)] ((diffP (fun x y => cf x y == 0) none ps).map enc) Kp := by
 intro L J Jx W hK hG hY h0; have hc := (hKp W (hK 0 W h0)).1; refine callsIn_of_wp Try.func107 rfl trivial ?_ rfl; simp only [Try.ntmps107, List.size_toArray, List.length_cons, List.length_nil, Nat.reduceAdd, Nat.reduceSub, Array.replicate_succ, Array.replicate_zero, List.push_toArray, List.append_toArray, List.nil_append, List.cons_append]; gi_wp2
 refine wpIn_loop (fun a w => ∃ (k i : Nat) (v2 v3 v4 v8 v9 v10 v11 v12 v13 v14 v15 v16 v17 v18 v19 v20 v21 v22 v23 v24 v25 v26 v27 v28 : Value), a = { tmps := #[.func (.yield L) #[] #[], .pointer (some ⟨b, off, none⟩), v2, v3, v4, .slice (some ⟨ab, ao, none⟩) n cap, .int .i64 n, .int .i64 i, v8, v9, v10, v11, v12, v13, v14, v15, v16, v17, v18, v19, v20, v21, v22, v23, v24, v25, v26, v27, v28], defers := [] } ∧ J k w ∧ i ≤ n ∧
   (diffP (fun x y => cf x y == 0) none ps).drop k = diffP (fun x y => cf x y == 0) (prevAt ps i) (ps.drop i) ∧ k ≤ (diffP (fun x y => cf x y == 0) none ps).length)
  (diffMu n) ⟨0, 0, undef, undef, undef, undef, undef, undef, undef, undef, undef, undef, undef, undef, undef, undef, undef, undef, undef, undef, undef, undef, undef, undef, undef, undef, rfl, h0, Nat.zero_le _, rfl, Nat.zero_le _⟩ ?_
 rintro a w ⟨k, i, v2, v3, v4, v8, v9, v10, v11, v12, v13, v14, v15, v16, v17, v18, v19, v20, v21, v22, v23, v24, v25, v26, v27, v28, rfl, hJ, hi, hd, hk⟩; obtain ⟨hcw, hcells, hcalls⟩ := hKp w (hK k w hJ); by_cases hlt : (i : Int) < (n : Int)
 ·
  (have hin : i < ps.length := by omega); (have hp1 : IntKind.i64.wrap ((i : Int) + 1) = ((i + 1 : Nat) : Int) := by rw [IntKind.wrap_i64]; omega); obtain ⟨hv, hv1⟩ := hcells i ps[i] (List.getElem?_eq_getElem hin); have hpi : prevAt ps (i + 1) = some ps[i] := List.getElem?_eq_getElem hin; rw [List.drop_eq_getElem_cons hin] at hd
  -- behind the comparison
  have hyield : ∀ (W1 : World) (u : α), u = ps[i] → J k W1 → (diffP (fun x y => cf x y == 0) none ps).drop k = u :: diffP (fun x y => cf x y == 0) (some u) (ps.drop (i + 1)) →
    k < (diffP (fun x y => cf x y == 0) none ps).length ∧ YieldAt Fence.wide 0 Try.prog L #[enc u] W1 fun e W' => (e = .returned (.bool true) ∧ J (k + 1) W') ∨ (e = .returned (.bool false) ∧ Jx W') := by
   intro W1 u hu hJ1 hdd
   have hkl : k < (diffP (fun x y => cf x y == 0) none ps).length := by
    rcases Nat.lt_or_ge k (diffP (fun x y => cf x y == 0) none ps).length with h | h
    · exact h
    · rw [List.drop_eq_nil_of_le h] at hdd; cases hdd
   rw [List.drop_eq_getElem_cons hkl, List.cons.injEq] at hdd; exact ⟨hkl, hY k (enc u) W1 (by rw [List.getElem?_map, List.getElem?_eq_getElem hkl, hdd.1]; rfl) hJ1⟩
  by_cases hz : i = 0
  ·
   subst hz; have hdd : (diffP (fun x y => cf x y == 0) none ps).drop k = ps[0] :: diffP (fun x y => cf x y == 0) (some ps[0]) (ps.drop 1) := hd; obtain ⟨hkl, fn, tmps, assign, body, hy, hR⟩ := hyield w _ rfl hJ hdd; (have hn0 : 0 < n := by omega); (have hlt0 : (0 : Int) < (n : Int) := by omega); generalize ps[0] = u at *; have hv : w.cell? ⟨ab, ao, none⟩ = some (enc u) := hv; (have hp1 : IntKind.i64.wrap (0 + 1) = 1 := by rw [IntKind.wrap_i64]; omega); clear hlt; gi_wp2; refine ⟨trivial, ?_⟩; gi_wp2; refine ⟨rfl, hR.mono ?_⟩; rintro e W1 (⟨rfl, h⟩ | ⟨rfl, h⟩)
   ·
    gi_wp2; refine ⟨⟨k + 1, 1, _, _, _, _, _, _, _, _, _, _, _, _, _, _, _, _, _, _, _, _, _, _, _, _, rfl, h, by omega, ?_, by omega⟩, ?_⟩
    · rw [hpi]; rw [List.drop_eq_getElem_cons hkl, List.cons.injEq] at hdd; exact hdd.2
    · rw [diffMu_at n _ _ _ _ rfl, diffMu_at n _ _ _ _ rfl]; omega
   · gi_wp2; refine bodyPost_ret (results_none rfl _ _ _) rfl ?_; exact ⟨⟨_, rfl⟩, .inr h⟩
  ·
   obtain ⟨m, rfl⟩ : ∃ m, i = m + 1 := ⟨i - 1, by omega⟩; (have hm : m < ps.length := by omega); have hpm : prevAt ps (m + 1) = some ps[m] := List.getElem?_eq_getElem hm; obtain ⟨hvm, hvm1⟩ := hcells m ps[m] (List.getElem?_eq_getElem hm); have hcall := hcalls ps[m] ps[m + 1] (List.getElem_mem hm) (List.getElem_mem hin); (have hpos : (0 : Int) < ((m + 1 : Nat) : Int) := by omega); (have hsub : IntKind.i64.wrap (((m + 1 : Nat) : Int) - 1) = (m : Int) := by rw [IntKind.wrap_i64]; omega); simp only [diffP, hpm, likeP] at hd; have hu := hyield; generalize hum : ps[m] = um at *; generalize huv : ps[m + 1] = u at *; generalize hc : cf um u = c at *; by_cases hc0 : c = 0
   ·
    subst hc0; rw [beq_self_eq_true, cond_true] at hd; gi_wp2; refine ⟨trivial, rfl, hcall.mono ?_⟩; rintro e w' ⟨rfl, q, os, rfl⟩; have hJ2 := hG k w q os hJ; generalize Go.Sort.grow (w.drewN q) os = w2 at *; gi_wp2; refine ⟨⟨k, m + 2, _, _, _, _, _, _, _, _, _, _, _, _, _, _, _, _, _, _, _, _, _, _, _, _, rfl, hJ2, by omega, ?_, hk⟩, ?_⟩
    · rw [hpi]; exact hd
    · rw [diffMu_at n _ _ _ _ rfl, diffMu_at n _ _ _ _ rfl]; omega
   ·
    rw [beq_eq_false_iff_ne.2 hc0, cond_false] at hd; gi_wp2; refine ⟨trivial, rfl, hcall.mono ?_⟩; rintro e w' ⟨rfl, q, os, rfl⟩; have hJ2 := hG k w q os hJ; generalize Go.Sort.grow (w.drewN q) os = w2 at *; obtain ⟨hkl, fn, tmps, assign, body, hy, hR⟩ := hyield w2 _ rfl hJ2 hd; gi_wp2; refine ⟨rfl, hR.mono ?_⟩; rintro e W1 (⟨rfl, h⟩ | ⟨rfl, h⟩)
    ·
     gi_wp2; refine ⟨⟨k + 1, m + 2, _, _, _, _, _, _, _, _, _, _, _, _, _, _, _, _, _, _, _, _, _, _, _, _, rfl, h, by omega, ?_, by omega⟩, ?_⟩
     · rw [hpi]; rw [List.drop_eq_getElem_cons hkl, List.cons.injEq] at hd; exact hd.2
     · rw [diffMu_at n _ _ _ _ rfl, diffMu_at n _ _ _ _ rfl]; omega
    · gi_wp2; refine bodyPost_ret (results_none rfl _ _ _) rfl ?_; exact ⟨⟨_, rfl⟩, .inr h⟩
 ·
  have hin : i = n := by omega
  have hdn : (diffP (fun x y => cf x y == 0) none ps).drop k = [] := by
   rw [hd, List.drop_of_length_le (by omega)]; rfl
  have hkl : k = (diffP (fun x y => cf x y == 0) none ps).length := by
   have := List.drop_eq_nil_iff.1 hdn; omega
  gi_wp2
  go_end0
  exact ⟨⟨_, rfl⟩, .inl (by first | (rw [List.length_map, ← hkl]; exact hJ) | (rw [← hkl]; exact hJ))⟩

set_option maxHeartbeats 1000000 in
theorem diff_none (b off cap : Nat) (p : Option Addr) : IterOKg Try.prog 107 [.pointer (some ⟨b, off, none⟩)] [] (fun W => W.cell? ⟨b, off, none⟩ = some (.slice p 0 cap)) := by
 intro L J Jx W hK hG hY h0; have hc := hK 0 W h0; refine callsIn_of_wp Try.func107 rfl trivial ?_ rfl; simp only [Try.ntmps107, List.size_toArray, List.length_cons, List.length_nil, Nat.reduceAdd, Nat.reduceSub, Array.replicate_succ, Array.replicate_zero, List.push_toArray, List.append_toArray, List.nil_append, List.cons_append]; gi_wp2
 refine wpIn_loop (fun a w => ∃ (v2 v3 v4 v8 v9 v10 v11 v12 v13 v14 v15 v16 v17 v18 v19 v20 v21 v22 v23 v24 v25 v26 v27 v28 : Value), a = { tmps := #[.func (.yield L) #[] #[], .pointer (some ⟨b, off, none⟩), v2, v3, v4, .slice p 0 cap, .int .i64 0, .int .i64 0, v8, v9, v10, v11, v12, v13, v14, v15, v16, v17, v18, v19, v20, v21, v22, v23, v24, v25, v26, v27, v28], defers := [] } ∧ J 0 w)
  (fun _ _ => 0) ⟨undef, undef, undef, undef, undef, undef, undef, undef, undef, undef, undef, undef, undef, undef, undef, undef, undef, undef, undef, undef, undef, undef, undef, undef, rfl, h0⟩ ?_
 rintro a w ⟨v2, v3, v4, v8, v9, v10, v11, v12, v13, v14, v15, v16, v17, v18, v19, v20, v21, v22, v23, v24, v25, v26, v27, v28, rfl, hJ⟩; gi_wp2
 go_end0
 exact ⟨⟨_, rfl⟩, .inl hJ⟩

def diffRows (rows : List (List Val)) : List (List Val) := diffP (fun x y => icompareRows x y == 0) none rows

theorem cmp_call {A : Nat → Prop} {w W : World} {x y : List Val} {u v : Value} (hx : RepC A w (.slice (.named 1)) x [u]) (hy : RepC A w (.slice (.named 1)) y [v]) (hP : ∀ b, A b → W.heap[b]? = w.heap[b]?) (hA : ∀ b, A b → isCells w b) :
  CallsIn Fence.wide 0 Try.prog 68 #[u, v] W fun e w' => e = .returned (.int .i64 (icompareRows x y)) ∧ ∃ q os, w' = Go.Sort.grow (W.drewN q) os := by
 refine callsIn_wide.2 ?_; have hA2 : ∀ b, A b → A b ∧ W.heap[b]? = w.heap[b]? := fun b hb => ⟨hb, hP b hb⟩; have ht : ∀ n, Ty.slice (.named 1) ≠ .named n := fun n h => by cases h
 have := icompareRows_ok.2 A W [u, v] [⟨.slice (.named 1), x⟩, ⟨.slice (.named 1), y⟩] [] (fun b hb => ⟨by
   obtain ⟨c, e, f, hh⟩ := hA b hb; rw [← hP b hb] at hh
   exact (Array.getElem?_eq_some_iff.1 hh).1, by simp⟩) (by simp) List.nodup_nil
  (.val _ _ _ _ _ _ _ (.one _ _ _ ht (hx.mono hA2)) (.val _ _ _ _ _ _ _ (.one _ _ _ ht (hy.mono hA2)) .nil)) trivial (noGlob _ _)
 refine this.mono ?_; rintro e w' ⟨rvs, nb, A', hp⟩; have hr : RepRess A' w' [.val (.int .i64)] [⟨.int .i64, icompareRows x y⟩] rvs nb := hp.ress
 have hrv : rvs = [.int .i64 (icompareRows x y)] := by
  cases hr with
  | val _ _ v _ _ vs _ h1 h2 =>
   cases h2
   cases h1 with
   | one _ _ _ _ h1 => cases h1; rfl
 refine ⟨by rw [hp.ret, hrv]; rfl, world_grow hp.os hp.tape hp.output.1 hp.output.2 hp.grow fun c hc => hp.old c hc (by simp)⟩

theorem diff_hit {rows : List (List Val)} {E : Ent} {N : Nat} {env : Nat → SV} {mem : Nat → Option Blk} (a : Act) (w : World) (β : Bind) (cvs : List Value) (hs : SimB E N env mem a w β)
  (hl : [SV.dref (.slice (.slice (.named 1))) (rows : List (List Val))].length = cvs.length)
  (hr : ∀ (i : Nat) (sv : SV) (v : Value), [SV.dref (.slice (.slice (.named 1))) (rows : List (List Val))][i]? = some sv → cvs[i]? = some v → RepSV (allow E w β) w β mem sv v) :
  ∃ vals : List Value, ((diffRows rows).map (SV.data (.slice (.named 1)))).length = vals.length ∧ IterOKg Try.prog 107 cvs vals (PinAt (atData E w β) w) ∧ ∀ (k : Nat) (sv : SV) (v : Value), ((diffRows rows).map (SV.data (.slice (.named 1))))[k]? = some sv → vals[k]? = some v → ∀ β' mem', RepSV (atData E w β) w β' mem' sv v := by
 match cvs, hl with
 | [v], _ =>
  have h0 := hr 0 _ _ rfl rfl
  cases h0 with
  | dref _ _ b off cs hA hc hrep =>
   have hrep2 := hrep.inCells
   have cellIn : ∀ {ad : Addr} {u : Value}, w.cell? ad = some u → isCells w ad.block := by
    intro ad u hu; unfold World.cell? at hu; split at hu
    · rename_i c e f hh; exact ⟨c, e, f, hh⟩
    · cases hu
   have stay : ∀ {W : World} {ad : Addr} {u : Value}, PinAt (atData E w β) w W → allow E w β ad.block → w.cell? ad = some u → W.cell? ad = some u := by
    intro W ad u hP hA hu; rw [World.cell?_eq_of_heap (hP _ ⟨hA, cellIn hu⟩)]; exact hu
   cases hrep2 with
   | nil =>
    have h1 := hc 0 _ rfl; refine ⟨[], rfl, ?_, fun k sv v hk => by cases k <;> cases hk⟩; intro L J Jx W hK hG hY h0; exact diff_none b off 0 none L J Jx W (fun k W1 h => stay (hK k W1 h) hA h1) hG hY h0
   | slice _ _ ad cap css hlm hcap hA2 hsp hlen hcc hrr =>
    have h1 := hc 0 _ rfl; by_cases hx : rows = []
    · subst hx; refine ⟨[], rfl, ?_, fun k sv v hk => by cases k <;> cases hk⟩; intro L J Jx W hK hG hY h0; exact diff_none b off cap (some ad) L J Jx W (fun k W1 h => stay (hK k W1 h) hA h1) hG hY h0
    ·
     obtain ⟨ab, ao, sp⟩ := ad; obtain rfl : sp = none := hsp hx; have hA2 := hA2 hx; have hcv : ∀ i, i < rows.length → ∃ v, css i = [v] := fun i hi => List.length_eq_one_iff.1 (hlen i hi)
     -- the rows beside their headers
     obtain ⟨ps, hps⟩ : ∃ ps : List (Value × List Val), ps = (List.range rows.length).map fun i => ((css i).headD undef, rows.getD i []) := ⟨_, rfl⟩; have hpl : ps.length = rows.length := by rw [hps, List.length_map, List.length_range]
     have hpg : ∀ i p, ps[i]? = some p → ∃ hi : i < rows.length, css i = [p.1] ∧ p.2 = rows[i] := by
      intro i p hp; rw [hps, List.getElem?_map] at hp; obtain ⟨j, hj, rfl⟩ := Option.map_eq_some_iff.1 hp; obtain ⟨hjl, rfl⟩ := List.getElem?_eq_some_iff.1 hj; simp only [List.length_range] at hjl; rw [List.getElem_range]; obtain ⟨v, hv⟩ := hcv i hjl; refine ⟨hjl, by rw [hv]; rfl, ?_⟩; rw [List.getD_eq_getElem?_getD, List.getElem?_eq_getElem hjl]; rfl
     have hpm : ps.map Prod.snd = rows := by
      apply List.ext_getElem?; intro i; rw [List.getElem?_map]; by_cases hi : i < rows.length
      · obtain ⟨_, _, e⟩ := hpg i ps[i] (List.getElem?_eq_getElem (by omega)); rw [List.getElem?_eq_getElem (by omega : i < ps.length), List.getElem?_eq_getElem hi, Option.map_some, e]
      · rw [List.getElem?_eq_none (by omega), List.getElem?_eq_none (by omega)]; rfl
     have hrepP : ∀ p, p ∈ ps → RepC (atData E w β) w (.slice (.named 1)) p.2 [p.1] := by
      intro p hp; obtain ⟨i, hi, rfl⟩ := List.mem_iff_getElem.1 hp; obtain ⟨hil, e1, e2⟩ := hpg i ps[i] (List.getElem?_eq_getElem hi); have := hrr i hil
      rw [e1] at this
      rw [e2]
      exact this
     have hdm : (diffP (fun x y : Value × List Val => icompareRows x.2 y.2 == 0) none ps).map Prod.snd = diffRows rows := by
      have := diffP_map (same := fun x y : Value × List Val => icompareRows x.2 y.2 == 0) (same' := fun x y => icompareRows x y == 0) Prod.snd (fun _ _ => rfl) ps none
      rw [hpm] at this
      exact this
     refine ⟨(diffP (fun x y : Value × List Val => icompareRows x.2 y.2 == 0) none ps).map Prod.fst, ?_, ?_, ?_⟩
     · refine (List.length_map (SV.data (.slice (.named 1)))).trans ?_; rw [List.length_map, ← hdm]; exact List.length_map _
     ·
      intro L J Jx W hK hG hY h0; refine diff_iter (α := Value × List Val) Prod.fst (fun x y => icompareRows x.2 y.2) b off ab ao rows.length cap ps hpl hlm (PinAt (atData E w β) w) (fun W1 h => ?_) L J Jx W hK hG hY h0; refine ⟨stay h hA h1, fun i p hp => ?_, fun x y hx hy => ?_⟩
      ·
       obtain ⟨hil, e1, e2⟩ := hpg i p hp; have h2 := hcc i 0 p.1 hil (by rw [e1]; rfl); refine ⟨?_, ?_⟩
       ·
        have := stay (W := W1) (ad := ⟨ab, ao + i * Ty.size (.slice (.named 1)) + 0, none⟩) h hA2.1 h2
        simpa [Ty.size] using this
       · exact (hrepP p (List.mem_of_getElem? hp)).one _ (List.mem_singleton.2 rfl)
      · exact cmp_call (hrepP x hx) (hrepP y hy) h fun b hb => hb.2
     ·
      intro k sv v hk hv β' mem'; obtain ⟨r, hr', rfl, -⟩ : ∃ y : List Val, drop k (diffRows rows) = y :: drop (k + 1) (diffRows rows) ∧ sv = SV.data (.slice (.named 1)) y ∧ y ∈ diffRows rows := els_data hk
      have hr : (diffRows rows)[k]? = some r := by
       have := congrArg (·[0]?) hr'
       simpa [List.getElem?_drop] using this
      rw [List.getElem?_map] at hv; obtain ⟨p, hp, rfl⟩ := Option.map_eq_some_iff.1 hv; (have : (diffRows rows)[k]? = some p.2 := by rw [← hdm, List.getElem?_map, hp]; rfl); rw [this] at hr; obtain rfl := Option.some.inj hr; exact .data _ _ _ (.one _ _ _ (fun n h => by cases h) (hrepP p (diffP_mem (List.mem_of_getElem? hp))))

end
end Go.Proofs.Ytjcjpeckfikfkaa
