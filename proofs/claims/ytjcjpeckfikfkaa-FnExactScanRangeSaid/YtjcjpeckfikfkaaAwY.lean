/-
  A part of the proof of this claim (AwY): what functions of the program compute, and plain facts of that. No conditions.
-/
import Derived.Test.YtjcjpeckfikfkaaAw5
import Derived.Test.YtjcjpeckfikfkaaAnM
import Derived.WalkKit
import Derived.TacticsIn
import Derived.BigFrameIn
set_option linter.all false
namespace Go.Proofs.Ytjcjpeckfikfkaa
open Go Go.Am
open Go.RowKit
noncomputable section

def selMu (n : Nat) (a : Act) (_ : World) : Nat := match a.tmps[9]? with
 | some (Value.int _ p) => (n + 1 - p).toNat
 | _ => 0

theorem selMu_at (n : Nat) (p : Int) (ts : Array Value) (d : List Deferred) (w : World) (h : ts[9]? = some (.int .i64 p)) : selMu n { tmps := ts, defers := d } w = (n + 1 - p).toNat := by
 unfold selMu
 rw [h]

set_option maxHeartbeats 2000000 in
theorem sel_iter {α : Type} (enc : α → Value) (kf : α → Bool) (b off kb ko ab ao n cap : Nat) (ps : List α) (hn : ps.length = n) (hlim : (n : Int) ≤ 9223372036854775807) (Kp : World → Prop)
  (hKp : ∀ W, Kp W → W.cell? ⟨b, off + 1, none⟩ = some (.slice (some ⟨ab, ao, none⟩) n cap) ∧ (∀ i p, ps[i]? = some p → W.cell? ⟨ab, ao + i, none⟩ = some (enc p) ∧ (enc p).oneCell' = true) ∧
   ∃ p1 p2 : Option Addr, W.cell? ⟨kb, ko, none⟩ = some (.func (.func 89) #[] #[.pointer p1, .pointer p2]) ∧
    ∀ x, x ∈ ps → CallsIn Fence.wide 0 Try.prog 89 #[enc x, .pointer p1, .pointer p2] W fun e w' => e = .returned (.bool (kf x)) ∧ ∃ q os, w' = Go.Sort.grow (W.drewN q) os) :
  IterOKg Try.prog 111 [.pointer (some ⟨b, off, none⟩), .pointer (some ⟨kb, ko, none⟩)] ((ps.filter kf).map enc) Kp := by
 intro L J Jx W hK hG hY h0
 have hc := (hKp W (hK 0 W h0)).1
 refine callsIn_of_wp Try.func111 rfl trivial ?_ rfl
 simp only [Try.ntmps111, List.size_toArray, List.length_cons, List.length_nil, Nat.reduceAdd, Nat.reduceSub, Array.replicate_succ, Array.replicate_zero, List.push_toArray, List.append_toArray, List.nil_append, List.cons_append]
 gi_wp2
 refine wpIn_loop (fun a w => ∃ (k i : Nat) (v3 v4 v5 v6 v10 v11 v12 v13 v14 v15 v16 v17 v18 v19 v20 v21 v22 : Value), a = { tmps := #[.func (.yield L) #[] #[], .pointer (some ⟨b, off, none⟩), .pointer (some ⟨kb, ko, none⟩), v3, v4, v5, v6, .slice (some ⟨ab, ao, none⟩) n cap, .int .i64 n, .int .i64 i, v10, v11, v12, v13, v14, v15, v16, v17, v18, v19, v20, v21, v22], defers := [] } ∧ J k w ∧ i ≤ n ∧
   (ps.filter kf).drop k = (ps.drop i).filter kf ∧ k ≤ (ps.filter kf).length)
  (selMu n) ⟨0, 0, undef, undef, undef, _, undef, undef, undef, undef, undef, undef, undef, undef, undef, undef, undef, undef, undef, rfl, h0, Nat.zero_le _, rfl, Nat.zero_le _⟩ ?_
 rintro a w ⟨k, i, v3, v4, v5, v6, v10, v11, v12, v13, v14, v15, v16, v17, v18, v19, v20, v21, v22, rfl, hJ, hi, hd, hk⟩
 obtain ⟨hcw, hcells, p1, p2, hkc, hcalls⟩ := hKp w (hK k w hJ)
 by_cases hlt : (i : Int) < (n : Int)
 ·
  have hin : i < ps.length := by omega
  have hp1 : IntKind.i64.wrap ((i : Int) + 1) = ((i + 1 : Nat) : Int) := by rw [IntKind.wrap_i64]; omega
  obtain ⟨hv, hv1⟩ := hcells i ps[i] (List.getElem?_eq_getElem hin)
  rw [List.drop_eq_getElem_cons hin] at hd
  have hcall := hcalls ps[i] (List.getElem_mem hin)
  have hyield : ∀ (W1 : World), J k W1 → kf ps[i] = true →
    k < (ps.filter kf).length ∧ (ps.filter kf).drop (k + 1) = (ps.drop (i + 1)).filter kf ∧ YieldAt Fence.wide 0 Try.prog L #[enc ps[i]] W1 fun e W' => (e = .returned (.bool true) ∧ J (k + 1) W') ∨ (e = .returned (.bool false) ∧ Jx W') := by
   intro W1 hJ1 hkf
   rw [List.filter_cons_of_pos hkf] at hd
   have hkl : k < (ps.filter kf).length := by
    rcases Nat.lt_or_ge k (ps.filter kf).length with h | h
    ·
     exact h
    ·
     rw [List.drop_eq_nil_of_le h] at hd; cases hd
   rw [List.drop_eq_getElem_cons hkl, List.cons.injEq] at hd
   exact ⟨hkl, hd.2, hY k (enc ps[i]) W1 (by rw [List.getElem?_map, List.getElem?_eq_getElem hkl, hd.1]; rfl) hJ1⟩
  have hskip : kf ps[i] = false → (ps.filter kf).drop k = (ps.drop (i + 1)).filter kf := fun h => by
   rw [List.filter_cons_of_neg (by rw [h]; exact Bool.false_ne_true)] at hd
   exact hd
  generalize ps[i] = u at *
  generalize hkf : kf u = kv at *
  gi_wp2
  refine ⟨trivial, rfl, hcall.mono ?_⟩
  rintro e w' ⟨rfl, q, os, rfl⟩
  have hJ2 := hG k w q os hJ
  generalize Go.Sort.grow (w.drewN q) os = w2 at *
  cases kv with
  | true =>
   obtain ⟨hkl, hd2, fn, tmps, assign, body, hy, hR⟩ := hyield w2 hJ2 rfl
   gi_wp2
   refine ⟨rfl, hR.mono ?_⟩
   rintro e W1 (⟨rfl, h⟩ | ⟨rfl, h⟩)
   ·
    gi_wp2
    refine ⟨⟨k + 1, i + 1, _, _, _, _, _, _, _, _, _, _, _, _, _, _, _, _, _, rfl, h, by omega, hd2, by omega⟩, ?_⟩
    rw [selMu_at n _ _ _ _ rfl, selMu_at n _ _ _ _ rfl]
    omega
   ·
    gi_wp2
    refine bodyPost_ret (results_none rfl _ _ _) rfl ?_
    exact ⟨⟨_, rfl⟩, .inr h⟩
  | false =>
   have hd2 := hskip rfl
   gi_wp2
   refine ⟨fun _ h => (by cases h), ?_⟩
   gi_wp2
   refine ⟨⟨k, i + 1, _, _, _, _, _, _, _, _, _, _, _, _, _, _, _, _, _, rfl, hJ2, by omega, hd2, hk⟩, ?_⟩
   rw [selMu_at n _ _ _ _ rfl, selMu_at n _ _ _ _ rfl]
   omega
 ·
  have hin : i = n := by omega
  have hdn : (ps.filter kf).drop k = [] := by
   rw [hd, List.drop_of_length_le (by omega)]
   rfl
  have hkl : k = (ps.filter kf).length := by
   have := List.drop_eq_nil_iff.1 hdn
   omega
  gi_wp2
  go_end0
  exact ⟨⟨_, rfl⟩, .inl (by first | (rw [List.length_map, ← hkl]; exact hJ) | (rw [← hkl]; exact hJ))⟩

end
end Go.Proofs.Ytjcjpeckfikfkaa
