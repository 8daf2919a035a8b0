/-
  A part of the proof of this claim (AyJ): what functions of the program compute, and plain facts of that. No conditions.
-/
import Derived.Test.YtjcjpeckfikfkaaAyI
set_option linter.all false
namespace Go.Proofs.Ytjcjpeckfikfkaa
open Go Go.Am
open Go.RowKit Go.Sort
noncomputable section

set_option maxHeartbeats 1000000 in
theorem ins_none {D : Nat} {p : Option Addr} {cvs : Array Value} {w : World} :
  Calls Try.prog 115 #[.slice p 0 D, .int .i64 0, .int .i64 0, .func (.func 86) #[] cvs] w fun e w' => e = .returned (.tuple #[]) ∧ w' = w := by
 refine (callsIn_wide (n := 0)).1 (callsIn_of_wp Try.func115 rfl trivial ?_ rfl)
 simp only [Try.ntmps115, List.size_toArray, List.length_cons, List.length_nil, Nat.reduceAdd, Nat.reduceSub, Array.replicate_succ, Array.replicate_zero, List.push_toArray, List.append_toArray, List.nil_append, List.cons_append]
 gi_wp2
 refine wpIn_loop_rounds 1 ?_
 rw [roundsIn_succ]
 gi_wp2
 go_end0
 exact ⟨rfl, rfl⟩

def IElt (t : Tab) : Type := { p : Int // (0 ≤ p ∧ p < (List.length t.Rows : Int)) ∧ (-9223372036854775808 ≤ p ∧ p ≤ 9223372036854775807) }

theorem getD_int {l : List Int} {k : Nat} (h : k < l.length) : l.getD k 0 = l[k] := by
 rw [List.getD_eq_getElem?_getD, List.getElem?_eq_getElem h]
 rfl

theorem idxSortOK (t : Tab) (col : Int) : SortK Try.prog 85 86 [⟨.named 2, t⟩, ⟨.int .i64, col⟩] (.int .i64) (IPre t col) (idxSort t col) where
 fn := ⟨_, _, Try.func85, rfl, rfl⟩
 len := idxSort_len t col
 nilp := fun w cvs => stable_call (n := 0) (by decide) ins_none
 row := by
  intro A w b D cs el xs css cvs hcap hA hh hsz hD hel hl hp
  obtain ⟨xs, rfl⟩ : ∃ ys : List Int, ys = xs := ⟨xs, rfl⟩
  by_cases hne : xs = []
  ·
   subst hne
   have e0 : idxSort t col [] = [] := List.length_eq_zero_iff.1 (idxSort_len t col [])
   refine (stable_call (n := 0) (by decide) ins_none).mono ?_
   rintro e w' ⟨rfl, rfl⟩
   refine ⟨rfl, rfl, rfl, ⟨rfl, Nat.le_refl _⟩, Nat.le_refl _, fun _ _ _ => rfl, cs, css, hh, hsz, fun k hk => ?_⟩
   exact absurd hk (by show ¬ k < (idxSort t col ([] : List Int)).length; rw [idxSort_len]; exact Nat.not_lt_zero _)
  ·
   obtain ⟨⟨hasc, hin⟩, h20, hc0, hcl⟩ := hp
   have hone : ∀ k (hk : k < xs.length), css k = [.int .i64 xs[k]] ∧ (-9223372036854775808 ≤ xs[k] ∧ xs[k] ≤ 9223372036854775807) := by
    have key : ∀ (x : Int) (c : List Value), RepC A w (.int .i64) x c → c = [.int .i64 x] ∧ (-9223372036854775808 ≤ x ∧ x ≤ 9223372036854775807) := by
     intro x c h1
     cases h1 with
     | int _ _ lo hi =>
      have e1 : IntKind.i64.min = -9223372036854775808 := by decide
      have e2 : IntKind.i64.max = 9223372036854775807 := by decide
      exact ⟨rfl, by omega⟩
    intro k hk
    exact key _ _ (hel k hk).2.2
   let eltAt : (k : Nat) → k < xs.length → IElt t := fun k hk => ⟨xs[k], hin _ (List.getElem_mem hk), (hone k hk).2⟩
   have hpos : 0 < xs.length := List.length_pos_iff.2 hne
   letI : Inhabited (IElt t) := ⟨eltAt 0 hpos⟩
   let d : Array (IElt t) := Array.ofFn fun i : Fin xs.length => eltAt i i.2
   have hds : d.size = xs.length := Array.size_ofFn
   have hdk : ∀ k (hk : k < xs.length), d[k]! = eltAt k hk := by
    intro k hk
    rw [getElem!_pos d k (by rw [hds]; exact hk)]
    exact Array.getElem_ofFn _
   let enc : IElt t → Value := fun p => .int .i64 p.1
   let cfe : IElt t → IElt t → Int := fun p q => idxCmp p.1 q.1 t col
   have hblk : b < w.heap.size := (Array.getElem?_eq_some_iff.1 hh).1
   have eg : ∀ args w, (callFunc 86 args).run Try.prog w = .ok (.enter 86 args) w := by
    intro args w
    obtain ⟨⟨fn, h1, h2, h3⟩, _⟩ := idxCmp_ok
    simp only [callFunc, Sem.run_bind, run_program, Result.andThen_ok, h1, h2, Bool.false_eq_true, if_false, h3]
    rfl
   have hcs : ∀ k (hk : k < xs.length), cs[k]? = some (.int .i64 xs[k]) := by
    intro k hk
    have h1 := (hel k hk).2.1 0 (.int .i64 xs[k]) (by rw [(hone k hk).1]; rfl)
    simpa [Ty.size] using h1
   have hH : Holds enc w b 0 d := by
    intro j hj
    rw [hds] at hj
    rw [Nat.zero_add, hdk j hj]
    refine ⟨?_, ?_⟩
    ·
     unfold World.cell?
     rw [hh]
     exact hcs j hj
    ·
     unfold World.frozen?
     rw [hh]
     simp
   obtain ⟨hcn, hcap⟩ := hcap
   match cvs, hcn with
   | [u1, u2], _ =>
    obtain ⟨b1, o1, cs1, rfl, hA1, hc1, hr1⟩ := hcap 0 _ _ rfl rfl
    obtain ⟨b2, o2, cs2, rfl, hA2, hc2, hr2⟩ := hcap 1 _ _ rfl rfl
    have hcmp : CmpLays1 Try.prog 86 #[.pointer (some ⟨b1, o1, none⟩), .pointer (some ⟨b2, o2, none⟩)] enc cfe b 0 d.size w := by
     intro m os dk hs x y
     have hA3 : ∀ c, A c → A c ∧ (sortWorld enc w b 0 m dk os).heap[c]? = w.heap[c]? := fun c hc => ⟨hc, heap_sortWorld _ _ _ _ _ _ _ (hA c hc).1 (hA c hc).2⟩
     have hi : ∀ x : IElt t, RepC A (sortWorld enc w b 0 m dk os) (.int .i64) x.1 [enc x] := fun x => .int _ _ (by have := x.2.2.1; exact this) (by have := x.2.2.2; exact this)
     have ht : ∀ n, Ty.int .i64 ≠ .named n := fun n h => by cases h
     have := idxCmp_ok.2 A (sortWorld enc w b 0 m dk os) [enc x, enc y, .pointer (some ⟨b1, o1, none⟩), .pointer (some ⟨b2, o2, none⟩)] [⟨.int .i64, x.1⟩, ⟨.int .i64, y.1⟩, ⟨.named 2, t⟩, ⟨.int .i64, col⟩] []
      (fun c hc => ⟨Nat.lt_of_lt_of_le (hA c hc).1 (SW.le ⟨m, os, rfl⟩), by simp⟩) (by simp) List.nodup_nil
      (.val _ _ _ _ _ _ _ (.one _ _ _ ht (hi x)) (.val _ _ _ _ _ _ _ (.one _ _ _ ht (hi y))
       (.rd _ _ _ _ cs1 _ _ _ _ hA1 (fun j u hj => by rw [World.cell?_eq_of_heap (w := w) (hA3 _ hA1).2]; exact hc1 j u hj) (hr1.mono hA3)
        (.rd _ _ _ _ cs2 _ _ _ _ hA2 (fun j u hj => by rw [World.cell?_eq_of_heap (w := w) (hA3 _ hA2).2]; exact hc2 j u hj) (hr2.mono hA3) .nil)))) ⟨x.2.1, y.2.1, hc0, hcl⟩
     refine this.mono ?_
     rintro e w' ⟨rvs, nb, A', hp⟩
     have hr : RepRess A' w' [.val (.int .i64)] [⟨.int .i64, idxCmp x.1 y.1 t col⟩] rvs nb := hp.ress
     have hrv : rvs = [.int .i64 (idxCmp x.1 y.1 t col)] := by
      cases hr with
      | val _ _ v _ _ vs _ h1 h2 =>
       cases h2
       cases h1 with
       | one _ _ _ _ h1 => cases h1; rfl
     refine ⟨by rw [hp.ret, hrv]; rfl, world_grow hp.os hp.tape hp.output.1 hp.output.2 hp.grow fun c hc => hp.old c hc (by simp)⟩
    have hins := Any.insertionSortCmpFunc_s insInts enc cfe 86 #[.pointer (some ⟨b1, o1, none⟩), .pointer (some ⟨b2, o2, none⟩)] b 0 D 0 d.size d d w w eg hcmp ⟨fun x => rfl, hH, hblk⟩ rfl (SW.start hH) (Nat.zero_le _) (Nat.le_refl _) (by rw [hds]; omega)
    rw [hds] at hins
    refine (stable_call (n := xs.length) h20 hins).mono ?_
    rintro e w' ⟨rfl, n, os, rfl⟩
    let lt' : IElt t → IElt t → Bool := fun x y => idxLt t col x.1 y.1
    have hEq : Go.Sort.insertionSort (ltOf cfe) d 0 xs.length = Go.Sort.insertionSort lt' d 0 xs.length := by
     rw [← hds]
     refine insertion_eq (v := fun x => x.1) (fun x y hxy => ?_) d fun a c hac hc => ?_
     ·
      show idxLt t col x.1 y.1 = decide (idxCmp x.1 y.1 t col < 0)
      unfold idxLt
      have hxy : y.1 < x.1 := hxy
      rw [decide_eq_false (show ¬ x.1 < y.1 by omega), Bool.and_false, Bool.or_false]
     ·
      rw [hds] at hc
      show d[a]!.1 < d[c]!.1
      rw [hdk a (by omega), hdk c hc]
      exact List.pairwise_iff_getElem.1 hasc a c (by omega) hc hac
    have hSW : SWO lt' := by
     refine ⟨fun x => ?_, fun x y z h1 h2 => ?_, fun x y z h1 h2 => ?_⟩
     ·
      exact idxLt_no.2 (by omega)
     ·
      have h1 := idxLt_iff.1 h1
      have h2 := idxLt_iff.1 h2
      exact idxLt_iff.2 (by omega)
     ·
      have h1 := idxLt_no.1 h1
      have h2 := idxLt_no.1 h2
      exact idxLt_no.2 (by omega)
    obtain ⟨⟨hp1, -, hp3⟩, hso⟩ := insertionSort_holds hSW d 0 d.size (Nat.zero_le _) (Nat.le_refl _)
    rw [hds, ← hEq] at hp1 hp3 hso
    generalize Go.Sort.insertionSort (ltOf cfe) d 0 xs.length = d' at *
    have hfull : ∀ a : Array (IElt t), a.size = xs.length → a.extract 0 xs.length = a := fun a ha => by rw [← ha]; exact Array.extract_size
    rw [hfull d' hp1, hfull d hds] at hp3
    have hd0 : d.toList.map (fun x => x.1) = xs := by
     apply List.ext_getElem?
     intro i
     rw [List.getElem?_map, Array.getElem?_toList]
     by_cases hi : i < xs.length
     ·
      have := hdk i hi
      rw [getElem!_pos d i (by rw [hds]; exact hi)] at this
      rw [Array.getElem?_eq_getElem (by rw [hds]; exact hi), this, List.getElem?_eq_getElem hi]
      rfl
     ·
      rw [Array.getElem?_eq_none (by omega), List.getElem?_eq_none (by omega)]
      rfl
    have hval : d'.toList.map (fun x => x.1) = idxSort t col xs := by
     refine idxSort_eq (by have := hp3.map (fun x : IElt t => x.1); rw [hd0] at this; exact this) ?_
     rw [List.pairwise_map, List.pairwise_iff_getElem]
     intro i j hi hj hij
     rw [Array.length_toList] at hi hj
     have := hso i j (Nat.zero_le _) hij (by omega)
     rw [getElem!_pos d' i hi, getElem!_pos d' j hj] at this
     rw [Array.getElem_toList, Array.getElem_toList]
     exact this
    have hat : ∀ k (hk : k < (idxSort t col xs).length), ∃ (hk' : k < d'.size), (idxSort t col xs)[k] = d'[k].1 := by
     intro k hk
     have e1 : (d'.toList.map (fun x => x.1))[k]? = (idxSort t col xs)[k]? := by rw [hval]
     have hk' : k < d'.size := by rw [idxSort_len] at hk; omega
     rw [List.getElem?_map, Array.getElem?_toList, Array.getElem?_eq_getElem hk', List.getElem?_eq_getElem hk] at e1
     exact ⟨hk', (Option.some.inj e1).symm⟩
    refine ⟨rfl, rfl, rfl, ⟨rfl, ?_⟩, SW.le ⟨n, os, rfl⟩, fun c hc hne => heap_sortWorld _ _ _ _ _ _ _ hc hne, Go.Sort.putCells enc 0 d' cs, fun k => [.int .i64 ((idxSort t col xs).getD k 0)], heap_sortWorld_row _ _ _ _ _ _ hh, ?_, ?_⟩
    ·
     show w.drawn ≤ w.drawn + n
     omega
    ·
     unfold Go.Sort.putCells
     rw [Array.size_mapIdx]
     exact hsz
    ·
     intro k hk
     obtain ⟨hk', ek⟩ := hat k hk
     have eg' : (idxSort t col xs).getD k 0 = d'[k].1 := (getD_int hk).trans ek
     refine ⟨rfl, fun j u hj => ?_, ?_⟩
     ·
      cases j with
      | zero =>
       obtain rfl := Option.some.inj hj
       show (Go.Sort.putCells enc 0 d' cs)[k * 1 + 0]? = _
       rw [Nat.mul_one, Nat.add_zero]
       unfold Go.Sort.putCells
       rw [Array.getElem?_mapIdx]
       have hkc : k < cs.size := by
        have hD' : List.length (xs : List Int) ≤ D := hD
        rw [hsz]
        show k < D * 1
        omega
       rw [Array.getElem?_eq_getElem hkc, Option.map_some, if_pos ⟨Nat.zero_le _, by omega⟩, Nat.sub_zero, getElem!_pos d' k hk', eg']
      | succ j => cases hj
     ·
      show RepC A _ (.int .i64) ((idxSort t col xs)[k] : Int) [.int .i64 ((idxSort t col xs).getD k 0)]
      rw [eg', ek]
      exact .int _ _ (by have := d'[k].2.2.1; exact this) (by have := d'[k].2.2.2; exact this)

end
end Go.Proofs.Ytjcjpeckfikfkaa
