/-
  A part of the proof of this claim (Aw5): what functions of the program compute, and plain facts of that. No conditions.
-/
import Derived.Test.YtjcjpeckfikfkaaAwT
import Derived.Test.YtjcjpeckfikfkaaAnJ
import Derived.WalkKit
import Derived.TacticsIn
import Derived.BigFrameIn
import Derived.Test.YtjcjpeckfikfkaaAw4
set_option linter.all false
namespace Go.Proofs.Ytjcjpeckfikfkaa
open Go Go.Am
open Go.RowKit
noncomputable section

def valuesMu (n : Nat) (a : Act) (_ : World) : Nat := match a.tmps[7]? with
 | some (Value.int _ p) => (n + 1 - p).toNat
 | _ => 0

theorem valuesMu_at (n : Nat) (p : Int) (ts : Array Value) (d : List Deferred) (w : World) (h : ts[7]? = some (.int .i64 p)) : valuesMu n { tmps := ts, defers := d } w = (n + 1 - p).toNat := by
 unfold valuesMu; rw [h]

set_option maxHeartbeats 1000000 in
theorem values_iter (b off ab ao n cap : Nat) (vs : List Value) (hn : vs.length = n) (hlim : (n : Int) ≤ 9223372036854775807) : IterOKg Try.prog 97 [.pointer (some ⟨b, off, none⟩)] vs
  (fun W => W.cell? ⟨b, off, none⟩ = some (.slice (some ⟨ab, ao, none⟩) n cap) ∧ ∀ i v, vs[i]? = some v → W.cell? ⟨ab, ao + i, none⟩ = some v ∧ v.oneCell' = true) := by
 intro L J Jx W hK hG hY h0; have hc := (hK 0 W h0).1; refine callsIn_of_wp Try.func97 rfl trivial ?_ rfl; simp only [Try.ntmps97, List.size_toArray, List.length_cons, List.length_nil, Nat.reduceAdd, Nat.reduceSub, Array.replicate_succ, Array.replicate_zero, List.push_toArray, List.append_toArray, List.nil_append, List.cons_append]; gi_wp2
 refine wpIn_loop (fun a w => ∃ (k : Nat) (v2 v3 v4 v8 v9 v10 v11 v12 v13 v14 v15 : Value), a = { tmps := #[.func (.yield L) #[] #[], .pointer (some ⟨b, off, none⟩), v2, v3, v4, .slice (some ⟨ab, ao, none⟩) n cap, .int .i64 n, .int .i64 k, v8, v9, v10, v11, v12, v13, v14, v15], defers := [] } ∧ J k w ∧ k ≤ n)
  (valuesMu n) ⟨0, undef, undef, undef, undef, undef, undef, undef, undef, undef, undef, undef, rfl, h0, Nat.zero_le _⟩ ?_
 rintro a w ⟨k, v2, v3, v4, v8, v9, v10, v11, v12, v13, v14, v15, rfl, hJ, hk⟩; have hcw := (hK k w hJ).2; by_cases hlt : (k : Int) < (n : Int)
 ·
  (have hkn : k < vs.length := by omega); obtain ⟨hv, h1⟩ := hcw k vs[k] (List.getElem?_eq_getElem hkn); obtain ⟨fn, tmps, assign, body, hy, hR⟩ := hY k vs[k] w (List.getElem?_eq_getElem hkn) hJ; generalize vs[k] = v at *; (have hp1 : IntKind.i64.wrap ((k : Int) + 1) = ((k + 1 : Nat) : Int) := by rw [IntKind.wrap_i64]; omega); gi_wp2; refine ⟨rfl, hR.mono ?_⟩; rintro e W1 (⟨rfl, h⟩ | ⟨rfl, h⟩)
  · gi_wp2; refine ⟨⟨k + 1, _, _, _, _, _, _, _, _, _, _, _, rfl, h, by omega⟩, ?_⟩; rw [valuesMu_at n _ _ _ _ rfl, valuesMu_at n _ _ _ _ rfl]; omega
  · gi_wp2; refine bodyPost_ret (results_none rfl _ _ _) rfl ?_; exact ⟨⟨_, rfl⟩, .inr h⟩
 ·
  (have hkl : k = n := by omega); gi_wp2
  go_end0
  exact ⟨⟨_, rfl⟩, .inl (by first | exact hJ | (rw [← hkl]; exact hJ) | (rw [hn, ← hkl]; exact hJ))⟩

set_option maxHeartbeats 1000000 in
theorem values_none (b off cap : Nat) (p : Option Addr) : IterOKg Try.prog 97 [.pointer (some ⟨b, off, none⟩)] [] (fun W => W.cell? ⟨b, off, none⟩ = some (.slice p 0 cap)) := by
 intro L J Jx W hK hG hY h0; have hc := hK 0 W h0; refine callsIn_of_wp Try.func97 rfl trivial ?_ rfl; simp only [Try.ntmps97, List.size_toArray, List.length_cons, List.length_nil, Nat.reduceAdd, Nat.reduceSub, Array.replicate_succ, Array.replicate_zero, List.push_toArray, List.append_toArray, List.nil_append, List.cons_append]; gi_wp2
 refine wpIn_loop (fun a w => ∃ (v2 v3 v4 v8 v9 v10 v11 v12 v13 v14 v15 : Value), a = { tmps := #[.func (.yield L) #[] #[], .pointer (some ⟨b, off, none⟩), v2, v3, v4, .slice p 0 cap, .int .i64 0, .int .i64 0, v8, v9, v10, v11, v12, v13, v14, v15], defers := [] } ∧ J 0 w)
  (fun _ _ => 0) ⟨undef, undef, undef, undef, undef, undef, undef, undef, undef, undef, undef, rfl, h0⟩ ?_
 rintro a w ⟨v2, v3, v4, v8, v9, v10, v11, v12, v13, v14, v15, rfl, hJ⟩; gi_wp2
 go_end0
 exact ⟨⟨_, rfl⟩, .inl hJ⟩

theorem values_hit {rows : List (List Val)} {E : Ent} {N : Nat} {env : Nat → SV} {mem : Nat → Option Blk} (a : Act) (w : World) (β : Bind) (cvs : List Value) (hs : SimB E N env mem a w β)
  (hl : [SV.dref (.slice (.slice (.named 1))) (rows : List (List Val))].length = cvs.length)
  (hr : ∀ (i : Nat) (sv : SV) (v : Value), [SV.dref (.slice (.slice (.named 1))) (rows : List (List Val))][i]? = some sv → cvs[i]? = some v → RepSV (allow E w β) w β mem sv v) :
  ∃ vals : List Value, (rows.map (SV.data (.slice (.named 1)))).length = vals.length ∧ IterOKg Try.prog 97 cvs vals (PinAt (atData E w β) w) ∧ ∀ (k : Nat) (sv : SV) (v : Value), (rows.map (SV.data (.slice (.named 1))))[k]? = some sv → vals[k]? = some v → ∀ β' mem', RepSV (atData E w β) w β' mem' sv v := by
 match cvs, hl with
 | [v], _ =>
  have h0 := hr 0 _ _ rfl rfl
  cases h0 with
  | dref _ _ b off cs hA hc hrep =>
   have hrep2 := hrep.inCells
   have cellIn : ∀ {ad : Addr} {u : Value}, w.cell? ad = some u → isCells w ad.block := by
    intro ad u hu; unfold World.cell? at hu; split at hu
    · rename_i c e f hh; exact ⟨c, e, f, hh⟩
    · cases hu
   have stay : ∀ {W : World} {ad : Addr} {u : Value}, PinAt (atData E w β) w W → allow E w β ad.block → w.cell? ad = some u → W.cell? ad = some u := by
    intro W ad u hP hA hu; rw [World.cell?_eq_of_heap (hP _ ⟨hA, cellIn hu⟩)]; exact hu
   cases hrep2 with
   | nil =>
    have h1 := hc 0 _ rfl; refine ⟨[], rfl, ?_, fun k sv v hk => by cases k <;> cases hk⟩; intro L J Jx W hK hG hY h0; exact values_none b off 0 none L J Jx W (fun k W1 h => stay (hK k W1 h) hA h1) hG hY h0
   | slice _ _ ad cap css hlm hcap hA2 hsp hlen hcc hrr =>
    have h1 := hc 0 _ rfl; by_cases hx : rows = []
    · subst hx; refine ⟨[], rfl, ?_, fun k sv v hk => by cases k <;> cases hk⟩; intro L J Jx W hK hG hY h0; exact values_none b off cap (some ad) L J Jx W (fun k W1 h => stay (hK k W1 h) hA h1) hG hY h0
    ·
     obtain ⟨ab, ao, sp⟩ := ad; obtain rfl : sp = none := hsp hx; have hA2 := hA2 hx; have hcv : ∀ i, i < rows.length → ∃ v, css i = [v] := fun i hi => List.length_eq_one_iff.1 (hlen i hi); refine ⟨(List.range rows.length).map fun i => (css i).headD undef, (List.length_map _).trans ((List.length_map _).trans List.length_range).symm, ?_, ?_⟩
     ·
      intro L J Jx W hK hG hY h0; refine values_iter b off ab ao rows.length cap _ ((List.length_map _).trans List.length_range) hlm L J Jx W (fun k W1 h => ?_) hG hY h0; refine ⟨stay (hK k W1 h) hA h1, fun i v hv => ?_⟩; rw [List.getElem?_map] at hv; obtain ⟨j, hj, rfl⟩ := Option.map_eq_some_iff.1 hv; obtain ⟨hjl, rfl⟩ := List.getElem?_eq_some_iff.1 hj; simp only [List.length_range] at hjl; rw [List.getElem_range]; obtain ⟨v, hv⟩ := hcv i hjl; have h2 := hcc i 0 v hjl (by rw [hv]; rfl); rw [hv]; refine ⟨?_, ?_⟩
      ·
       have := stay (W := W1) (ad := ⟨ab, ao + i * Ty.size (.slice (.named 1)) + 0, none⟩) (hK k W1 h) hA2.1 h2
       simpa [Ty.size] using this
      · exact (hrr i hjl).one v (by rw [hv]; exact List.mem_singleton.2 rfl)
     · intro k sv v hk hv β' mem'; obtain ⟨y, hy, rfl, -⟩ := els_data hk; rw [List.getElem?_map] at hv; obtain ⟨j, hj, rfl⟩ := Option.map_eq_some_iff.1 hv; obtain ⟨hjl, rfl⟩ := List.getElem?_eq_some_iff.1 hj; simp only [List.length_range] at hjl; rw [List.getElem_range]; have hyk : y = rows[k] := (List.cons.inj (hy.symm.trans (List.drop_eq_getElem_cons (l := rows) hjl))).1; subst hyk; obtain ⟨v, hv⟩ := hcv k hjl; have := hrr k hjl; rw [hv] at this ⊢; exact .data _ _ _ (.one _ _ _ (fun n h => by cases h) this)

end
end Go.Proofs.Ytjcjpeckfikfkaa


namespace Go.Proofs.Ytjcjpeckfikfkaa
open Go Go.Am
open Go.Am.AW (seq r1U ret kpU cdE r0U r1 rS)
open List (length replicate)
noncomputable section

def icopied (list : List Val) : (List Val) := (bif ((length list : Int) == 0) then ([] : List Val) else list)

def icopied_sp : FnSpec := mkSpec [.val (.slice (.named 1))] [.own (.named 1)] (fun (list : List Val) => (length list : Int) ≤ 4294967296) (fun (list : List Val) => [⟨(.slice (.named 1)), (icopied list)⟩])

theorem icopied_ok : FnOK Try.prog 95 icopied_sp := by
 have hC : CtxOK Try.prog (mkCtx tyL []) := CtxOK.nil tyOK; refine FnOK.of_body Try.func95 (by kernel_rfl) rfl (C := (mkCtx tyL [])) hC.ty (by kernel_rfl) ?_; intro (list : List Val) hwf hpre E; have hpre : (length list : Int) ≤ 4294967296 := hpre; have e0 : icopied list = icopied list := rfl; refine seq (r1U hC [0] [] [] [] ?_); refine seq (seq (r1U hC [0, 6] [] [(6, .bool ((length list : Int) == 0))] [] ?_)); refine cdE e0 ?_ ?_
 · intro h1q e2; refine seq (r1 hC [2] [] ⟨[(2, .nilsl)], []⟩ ?_); exact ret (rS (.slice (.named 1)) e2)
 ·
  intro h3q e4; refine kpU [0] [] [] [] ?_; refine AW.skip (seq (r0U hC [0, 3] [36] [(3, .arr 36 1)] [(36, .arr 1 (.named 1) ((replicate (length list) Val.zero : List Val) : List Val))] [(0 ≤ (length list : Int) ∧ (length list : Int) ≤ (length list : Int) ∧ (length list : Int) ≤ 4294967296)] ?_ ?_))
  ·
   exact ⟨(by omega), trivial⟩
  refine seq (r0U hC [3] [36] [] [(36, .arr 1 (.named 1) (list : List Val))] [(length (replicate (length list) Val.zero : List Val) = length list)] ?_ ?_)
  ·
   exact ⟨(by simp), trivial⟩
  refine seq (r1U hC [2] [36] [(2, .arr 36 1)] [] ?_); exact ret (rS (.slice (.named 1)) e4)

theorem icopied_eq (l : List Val) : icopied l = l := by
 unfold icopied; by_cases h : (length l : Int) = 0
 · rw [beq_iff_eq.2 h, cond_true]; exact (List.length_eq_zero_iff.1 (by omega)).symm
 · rw [beq_eq_false_iff_ne.2 h, cond_false]

end
end Go.Proofs.Ytjcjpeckfikfkaa
