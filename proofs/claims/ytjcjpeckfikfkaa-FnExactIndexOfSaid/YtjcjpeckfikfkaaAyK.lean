/-
  A part of the proof of this claim (AyK): what functions of the program compute, and plain facts of that. No conditions.
-/
import Derived.Test.YtjcjpeckfikfkaaAyS6
set_option linter.all false
namespace Go.Proofs.Ytjcjpeckfikfkaa
open Go Go.Am
open List (length)
open Go.RowKit Go.Sort
noncomputable section

set_option maxHeartbeats 1000000 in
theorem ins_none {D : Nat} {p : Option Addr} {cvs : Array Value} {w : World} :
  Calls Try.prog 115 #[.slice p 0 D, .int .i64 0, .int .i64 0, .func (.func 86) #[] cvs] w fun e w' => e = .returned (.tuple #[]) ∧ w' = w := by
 refine (callsIn_wide (n := 0)).1 (callsIn_of_wp Try.func115 rfl trivial ?_ rfl); simp only [Try.ntmps115, List.size_toArray, List.length_cons, List.length_nil, Nat.reduceAdd, Nat.reduceSub, Array.replicate_succ, Array.replicate_zero, List.push_toArray, List.append_toArray, List.nil_append, List.cons_append]; gi_wp2; refine wpIn_loop_rounds 1 ?_; rw [roundsIn_succ]; gi_wp2
 go_end0
 exact ⟨rfl, rfl⟩

def IElt (t : Tab) : Type := { p : Int // (0 ≤ p ∧ p < (length t.Rows : Int)) ∧ (-9223372036854775808 ≤ p ∧ p ≤ 9223372036854775807) }

theorem getD_int {l : List Int} {k : Nat} (h : k < l.length) : l.getD k 0 = l[k] := by
 rw [List.getD_eq_getElem?_getD, List.getElem?_eq_getElem h]; rfl

theorem idxSortOK (t : Tab) (col : Int) : SortK Try.prog 85 86 [⟨.named 2, t⟩, ⟨.int .i64, col⟩] (.int .i64) (IPre t col) (idxSort t col) where
 fn := ⟨_, _, Try.func85, rfl, rfl⟩
 len := idxSort_len t col
 nilp := fun w cvs => stable_call (n := 0) (by decide) ins_none
 row := by
  intro A w b D cs el xs css cvs hcap hA hh hsz hD hel hl hp; obtain ⟨xs, rfl⟩ : ∃ ys : List Int, ys = xs := ⟨xs, rfl⟩; by_cases hne : xs = []
  · subst hne; have e0 : idxSort t col [] = [] := List.length_eq_zero_iff.1 (idxSort_len t col []); refine (stable_call (n := 0) (by decide) ins_none).mono ?_; rintro e w' ⟨rfl, rfl⟩; refine ⟨rfl, rfl, rfl, ⟨rfl, Nat.le_refl _⟩, Nat.le_refl _, fun _ _ _ => rfl, cs, css, hh, hsz, fun k hk => ?_⟩; exact absurd hk (by show ¬ k < (idxSort t col ([] : List Int)).length; rw [idxSort_len]; exact Nat.not_lt_zero _)
  ·
   obtain ⟨⟨hasc, hin⟩, h20, hc0, hcl⟩ := hp
   have hone : ∀ k (hk : k < xs.length), css k = [.int .i64 xs[k]] ∧ (-9223372036854775808 ≤ xs[k] ∧ xs[k] ≤ 9223372036854775807) := by
    have key : ∀ (x : Int) (c : List Value), RepC A w (.int .i64) x c → c = [.int .i64 x] ∧ (-9223372036854775808 ≤ x ∧ x ≤ 9223372036854775807) := by
     intro x c h1
     cases h1 with
     | int _ _ lo hi =>
      (have e1 : IntKind.i64.min = -9223372036854775808 := by decide); (have e2 : IntKind.i64.max = 9223372036854775807 := by decide); exact ⟨rfl, by omega⟩
    intro k hk; exact key _ _ (hel k hk).2.2
   let eltAt : (k : Nat) → k < xs.length → IElt t := fun k hk => ⟨xs[k], hin _ (List.getElem_mem hk), (hone k hk).2⟩; have hpos : 0 < xs.length := List.length_pos_iff.2 hne; letI : Inhabited (IElt t) := ⟨eltAt 0 hpos⟩; let d : Array (IElt t) := Array.ofFn fun i : Fin xs.length => eltAt i i.2; have hds : d.size = xs.length := Array.size_ofFn
   have hdk : ∀ k (hk : k < xs.length), d[k]! = eltAt k hk := by
    intro k hk; rw [getElem!_pos d k (by rw [hds]; exact hk)]; exact Array.getElem_ofFn _
   let enc : IElt t → Value := fun p => .int .i64 p.1; let cfe : IElt t → IElt t → Int := fun p q => idxCmp p.1 q.1 t col; have hblk : b < w.heap.size := (Array.getElem?_eq_some_iff.1 hh).1
   have eg : ∀ args w, (callFunc 86 args).run Try.prog w = .ok (.enter 86 args) w := by
    intro args w; obtain ⟨⟨fn, h1, h2, h3⟩, _⟩ := idxCmp_ok; simp only [callFunc, Sem.run_bind, run_program, Result.andThen_ok, h1, h2, Bool.false_eq_true, if_false, h3]; rfl
   have hcs : ∀ k (hk : k < xs.length), cs[k]? = some (.int .i64 xs[k]) := by
    intro k hk; have h1 := (hel k hk).2.1 0 (.int .i64 xs[k]) (by rw [(hone k hk).1]; rfl); simpa [Ty.size] using h1
   have hH : Holds enc w b 0 d := by
    intro j hj; rw [hds] at hj; rw [Nat.zero_add, hdk j hj]; refine ⟨?_, ?_⟩
    · unfold World.cell?; rw [hh]; exact hcs j hj
    · unfold World.frozen?; rw [hh]; simp
   obtain ⟨hcn, hcap⟩ := hcap
   match cvs, hcn with
   | [u1, u2], _ =>
    obtain ⟨b1, o1, cs1, rfl, hA1, hc1, hr1⟩ := hcap 0 _ _ rfl rfl; obtain ⟨b2, o2, cs2, rfl, hA2, hc2, hr2⟩ := hcap 1 _ _ rfl rfl
    have hcmp : CmpLays1 Try.prog 86 #[.pointer (some ⟨b1, o1, none⟩), .pointer (some ⟨b2, o2, none⟩)] enc cfe b 0 d.size w := by
     intro m os dk hs x y; have hA3 : ∀ c, A c → A c ∧ (sortWorld enc w b 0 m dk os).heap[c]? = w.heap[c]? := fun c hc => ⟨hc, heap_sortWorld _ _ _ _ _ _ _ (hA c hc).1 (hA c hc).2⟩; have hi : ∀ x : IElt t, RepC A (sortWorld enc w b 0 m dk os) (.int .i64) x.1 [enc x] := fun x => .int _ _ (by have := x.2.2.1; exact this) (by have := x.2.2.2; exact this); have ht : ∀ n, Ty.int .i64 ≠ .named n := fun n h => by cases h
     have := idxCmp_ok.2 A (sortWorld enc w b 0 m dk os) [enc x, enc y, .pointer (some ⟨b1, o1, none⟩), .pointer (some ⟨b2, o2, none⟩)] [⟨.int .i64, x.1⟩, ⟨.int .i64, y.1⟩, ⟨.named 2, t⟩, ⟨.int .i64, col⟩] []
      (fun c hc => ⟨Nat.lt_of_lt_of_le (hA c hc).1 (SW.le ⟨m, os, rfl⟩), by simp⟩) (by simp) List.nodup_nil
      (.val _ _ _ _ _ _ _ (.one _ _ _ ht (hi x)) (.val _ _ _ _ _ _ _ (.one _ _ _ ht (hi y))
       (.rd _ _ _ _ cs1 _ _ _ _ hA1 (fun j u hj => by rw [World.cell?_eq_of_heap (w := w) (hA3 _ hA1).2]; exact hc1 j u hj) (hr1.mono hA3)
        (.rd _ _ _ _ cs2 _ _ _ _ hA2 (fun j u hj => by rw [World.cell?_eq_of_heap (w := w) (hA3 _ hA2).2]; exact hc2 j u hj) (hr2.mono hA3) .nil)))) ⟨x.2.1, y.2.1, hc0, hcl⟩ (noGlob _ _)
     refine this.mono ?_; rintro e w' ⟨rvs, nb, A', hp⟩; have hr : RepRess A' w' [.val (.int .i64)] [⟨.int .i64, idxCmp x.1 y.1 t col⟩] rvs nb := hp.ress
     have hrv : rvs = [.int .i64 (idxCmp x.1 y.1 t col)] := by
      cases hr with
      | val _ _ v _ _ vs _ h1 h2 =>
       cases h2
       cases h1 with
       | one _ _ _ _ h1 => cases h1; rfl
     refine ⟨by rw [hp.ret, hrv]; rfl, world_grow hp.os hp.tape hp.output.1 hp.output.2 hp.grow fun c hc => hp.old c hc (by simp)⟩
    let lt' : IElt t → IElt t → Bool := fun x y => idxLt t col x.1 y.1
    have hSW : SWO lt' := by
     refine ⟨fun x => ?_, fun x y z h1 h2 => ?_, fun x y z h1 h2 => ?_⟩
     · exact idxLt_no.2 (by omega)
     · have h1 := idxLt_iff.1 h1; have h2 := idxLt_iff.1 h2; exact idxLt_iff.2 (by omega)
     · have h1 := idxLt_no.1 h1; have h2 := idxLt_no.1 h2; exact idxLt_no.2 (by omega)
    have hC2 : Cmp2 (Go.Proofs.ltOf cfe) lt' (fun x : IElt t => x.1) := by
     refine ⟨hSW, fun x y hxy => ?_⟩; show idxLt t col x.1 y.1 = decide (idxCmp x.1 y.1 t col < 0); unfold idxLt; have hxy : y.1 < x.1 := hxy; rw [decide_eq_false (show ¬ x.1 < y.1 by omega), Bool.and_false, Bool.or_false]
    have hst := stable_c enc cfe hC2 86 #[.pointer (some ⟨b1, o1, none⟩), .pointer (some ⟨b2, o2, none⟩)] b 0 D xs.length d d w w eg hcmp ⟨fun x => rfl, hH, hblk⟩ rfl (SW.start hH) hds.symm h20 (fun a c hac hc => by
     rw [hdk a (by omega), hdk c hc]
     exact List.pairwise_iff_getElem.1 hasc a c (by omega) hc hac)
    refine (stable_top hst).mono ?_; rintro e w' ⟨rfl, d', hp1, ⟨n, os, rfl⟩, ⟨_, _, hp3⟩, hso⟩; (have hfull : ∀ a : Array (IElt t), a.size = xs.length → a.extract 0 xs.length = a := fun a ha => by rw [← ha]; exact Array.extract_size); rw [hfull d' hp1, hfull d hds] at hp3
    have hd0 : d.toList.map (fun x => x.1) = xs := by
     apply List.ext_getElem?; intro i; rw [List.getElem?_map, Array.getElem?_toList]; by_cases hi : i < xs.length
     ·
      have := hdk i hi
      rw [getElem!_pos d i (by rw [hds]; exact hi)] at this
      rw [Array.getElem?_eq_getElem (by rw [hds]; exact hi), this, List.getElem?_eq_getElem hi]; rfl
     · rw [Array.getElem?_eq_none (by omega), List.getElem?_eq_none (by omega)]; rfl
    have hval : d'.toList.map (fun x => x.1) = idxSort t col xs := by
     refine idxSort_eq (by have := hp3.map (fun x : IElt t => x.1); rw [hd0] at this; exact this) ?_; rw [List.pairwise_map, List.pairwise_iff_getElem]; intro i j hi hj hij; rw [Array.length_toList] at hi hj; have := hso i j (Nat.zero_le _) hij (by omega)
     rw [getElem!_pos d' i hi, getElem!_pos d' j hj] at this
     rw [Array.getElem_toList, Array.getElem_toList]
     exact this
    have hat : ∀ k (hk : k < (idxSort t col xs).length), ∃ (hk' : k < d'.size), (idxSort t col xs)[k] = d'[k].1 := by
     intro k hk; (have e1 : (d'.toList.map (fun x => x.1))[k]? = (idxSort t col xs)[k]? := by rw [hval]); (have hk' : k < d'.size := by rw [idxSort_len] at hk; omega); rw [List.getElem?_map, Array.getElem?_toList, Array.getElem?_eq_getElem hk', List.getElem?_eq_getElem hk] at e1; exact ⟨hk', (Option.some.inj e1).symm⟩
    refine ⟨rfl, rfl, rfl, ⟨rfl, ?_⟩, SW.le ⟨n, os, rfl⟩, fun c hc hne => heap_sortWorld _ _ _ _ _ _ _ hc hne, Go.Sort.putCells enc 0 d' cs, fun k => [.int .i64 ((idxSort t col xs).getD k 0)], heap_sortWorld_row _ _ _ _ _ _ hh, ?_, ?_⟩
    · show w.drawn ≤ w.drawn + n; omega
    · unfold Go.Sort.putCells; rw [Array.size_mapIdx]; exact hsz
    ·
     intro k hk; obtain ⟨hk', ek⟩ := hat k hk; have eg' : (idxSort t col xs).getD k 0 = d'[k].1 := (getD_int hk).trans ek; refine ⟨rfl, fun j u hj => ?_, ?_⟩
     ·
      cases j with
      | zero =>
       obtain rfl := Option.some.inj hj; show (Go.Sort.putCells enc 0 d' cs)[k * 1 + 0]? = _; rw [Nat.mul_one, Nat.add_zero]; unfold Go.Sort.putCells; rw [Array.getElem?_mapIdx]
       have hkc : k < cs.size := by
        have hD' : length (xs : List Int) ≤ D := hD; rw [hsz]; show k < D * 1; omega
       rw [Array.getElem?_eq_getElem hkc, Option.map_some, if_pos ⟨Nat.zero_le _, by omega⟩, Nat.sub_zero, getElem!_pos d' k hk', eg']
      | succ j => cases hj
     · show RepC A _ (.int .i64) ((idxSort t col xs)[k] : Int) [.int .i64 ((idxSort t col xs).getD k 0)]; rw [eg', ek]; exact .int _ _ (by have := d'[k].2.2.1; exact this) (by have := d'[k].2.2.2; exact this)

end
end Go.Proofs.Ytjcjpeckfikfkaa


namespace Go.Proofs.Ytjcjpeckfikfkaa
open Go Go.Am
open Go.Am.AW (seq r1U ret kpU cdE r0U r1 meet block rS bk exit lpB kp)
open List (length getD)
noncomputable section

def LI (t : Tab) (l : List Int) (i : Nat) : Prop := (l.Pairwise (· < ·) ∧ ∀ x ∈ l, 0 ≤ x ∧ x < (i : Int)) ∧ l.length ≤ i

theorem LI.add {t : Tab} {l : List Int} {i : Nat} (h : LI t l i) : LI t (l ++ ([(i : Int)] : List Int)) (i + 1) := by
 refine ⟨⟨List.pairwise_append.2 ⟨h.1.1, List.pairwise_singleton _ _, fun a ha b hb => ?_⟩, fun x hx => ?_⟩, ?_⟩
 · rw [List.mem_singleton.1 hb]; exact (h.1.2 a ha).2
 ·
  rcases List.mem_append.1 hx with hx | hx
  · have := h.1.2 x hx; omega
  · rw [List.mem_singleton.1 hx]; omega
 · rw [List.length_append]; have := h.2; simp only [List.length_cons, List.length_nil]; omega

theorem LI.next {t : Tab} {l : List Int} {i : Nat} (h : LI t l i) : LI t l (i + 1) :=
 ⟨⟨h.1.1, fun x hx => by have := h.1.2 x hx; omega⟩, by have := h.2; omega⟩

theorem rows_400 {t : Tab} {col : Int} (h : hasColumn t col = true) : t.Rows.length ≤ 400 := (hasColumn_iff.1 h).1.n4

theorem col_at {t : Tab} {col : Int} (h : hasColumn t col = true) : 0 ≤ col ∧ ∀ k, k < length t.Rows → col < (length (getD t.Rows k []) : Int) := by
 have hc := (hasColumn_iff.1 h); exact ⟨hc.2.1, fun k hk => (col_ok h _ (getD_mem _ _ _ hk)).2⟩

def iIndexOf_l0 (t : Tab) (col : Int) : Nat → Nat → (List Int) → (List Int)
 | 0, v15, list => list
 | k + 1, v15, list => (bif (decide ((v15 : Int) < (length (Tab.Rows t) : Int))) then (bif (!(Val.Null (getD (getD (Tab.Rows t) v15 []) (Int.toNat col) Val.zero))) then (iIndexOf_l0 t col k (v15 + 1) (list ++ ([(v15 : Int)] : List Int))) else (iIndexOf_l0 t col k (v15 + 1) list)) else list)

def iIndexOf (t : Tab) (col : Int) : (List Int) := (bif (!(hasColumn t col)) then ([] : List Int) else (andThen (iIndexOf_l0 t col ((length (Tab.Rows t)) - 0 + 1) 0 ([] : List Int)) (fun z => (fun (list : List Int) => (idxSort t col list)) z)))

def iIndexOf_sp : FnSpec := mkSpec [.val (.named 2), .val (.int .i64)] [.own (.int .i64)] (fun (t : Tab) (col : Int) => True) (fun (t : Tab) (col : Int) => [⟨(.slice (.int .i64)), (iIndexOf t col)⟩])

theorem iIndexOf_ok : FnOK Try.prog 40 iIndexOf_sp := by
 have hC : CtxOK Try.prog (mkCtx tyL [(84, hasColumn_sp)]) := CtxOK.cons hasColumn_ok (CtxOK.nil tyOK); refine FnOK.of_body Try.func40 (by kernel_rfl) rfl (C := (mkCtx tyL [(84, hasColumn_sp)])) hC.ty (by kernel_rfl) ?_; intro (t : Tab) (col : Int) hwf hpre E; have e0 : iIndexOf t col = iIndexOf t col := rfl; refine seq (AW.regionO [0, 1, 2] (by rfl) ?_); refine AWO.boxD (t := (.named 2)) (sv := .data (.named 2) (t : Tab)) (y := (t : Tab)) (by rfl) (by rfl) (by kernel_rfl) (by kernel_rfl) (by kernel_rfl) ?_; refine AWO.keepU [1, 2] [] [(2, .dref (.named 2) (t : Tab))] [] (by kernel_rfl) ?_; refine AWO.boxD (t := (.int .i64)) (sv := .int .i64 col) (y := (col : Int)) (by rfl) (by rfl) (by kernel_rfl) (by kernel_rfl) (by kernel_rfl) ?_; refine AWO.keepU [2, 3] [] [(3, .dref (.int .i64) (col : Int))] [] (by kernel_rfl) ?_
 refine AWO.runU hC false [] [2] [] [2, 3] []
  [] []
  [] (by rfl) (by kernel_rfl) ?_ ?_
 · exact trivial
 refine AWO.nil ?_; refine seq (seq (r0U hC [2, 3, 11] [] [(11, .bool (!(hasColumn t col)))] [] [(True)] ?_ ?_))
 ·
  exact ⟨trivial, trivial⟩
 refine cdE e0 ?_ ?_
 · intro h1q e2; refine seq (r1 hC [4] [] ⟨[(4, .nilsl)], []⟩ ?_); exact ret (rS (.slice (.int .i64)) e2)
 ·
  intro h3q e4; refine kpU [2, 3] [] [] [] ?_; refine AW.skip (seq ?_); have hkp := col_at h3q; have hr4 := rows_400 h3q; refine r1U hC [2, 3, 5] [] [(5, .nilsl)] [] ?_; refine seq (seq (r1U hC [2, 3, 5, 13, 14, 15] [] [(13, .data (.slice (.slice (.named 1))) ((Tab.Rows t) : List (List Val))), (14, .int .i64 (length (Tab.Rows t) : Int)), (15, .int .i64 0)] [] ?_)); refine AW.adopt 5 116 (.int .i64) (by kernel_rfl) (by kernel_rfl) ?_; refine kp [2, 3, 5, 13, 14, 15] [116] ⟨[(2, .dref (.named 2) (t : Tab)), (3, .dref (.int .i64) (col : Int)), (5, .arr 116 1), (13, .data (.slice (.slice (.named 1))) ((Tab.Rows t) : List (List Val))), (14, .int .i64 (length (Tab.Rows t) : Int)), (15, .int .i64 0)], [(116, .arr 1 (.int .i64) (([] : List Int) : List Int))]⟩ ?_; refine lpB (ζ := (List Int)) (fun x => ⟨[(2, .dref (.named 2) (t : Tab)), (3, .dref (.int .i64) (col : Int)), (5, .arr 116 1)], [(116, .arr 1 (.int .i64) (x : List Int))]⟩) (fun x => LI t x (length t.Rows)) (fun x => x) (α := Nat × (List Int)) (fun x => ⟨[(2, .dref (.named 2) (t : Tab)), (3, .dref (.int .i64) (col : Int)), (5, .arr 116 1), (13, .data (.slice (.slice (.named 1))) ((Tab.Rows t) : List (List Val))), (14, .int .i64 (length (Tab.Rows t) : Int)), (15, .int .i64 ((x.1 : Nat) : Int))], [(116, .arr 1 (.int .i64) (x.2 : List Int))]⟩) (fun x => LI t x.2 x.1 ∧ x.1 ≤ length t.Rows) (fun x => (length (Tab.Rows t)) - x.1) (fun k x => iIndexOf_l0 t col k x.1 x.2) (0, ([] : List Int)) (by kernel_rfl) ?_ ?_ ?_
  · exact ⟨⟨⟨List.Pairwise.nil, fun x hx => by cases hx⟩, Nat.le_refl _⟩, Nat.zero_le _⟩
  ·
   intro x k39q hI0 hk37 e38; obtain ⟨v15, list⟩ := x; replace hI0 : LI t list v15 ∧ v15 ≤ length t.Rows := hI0; have hli := hI0.1.2; refine seq (r1U hC [2, 3, 5, 13, 14, 15, 16] [116] [(16, .bool (decide ((v15 : Int) < (length (Tab.Rows t) : Int))))] [] ?_); refine seq (cdE e38 ?_ ?_)
   ·
    intro h40q e41; refine kpU [2, 3, 5, 13, 14, 15] [116] [] [] ?_; refine AW.skip (seq (block (seq (r0U hC [2, 3, 5, 6, 7, 13, 14, 15] [116] [(6, .int .i64 (v15 : Int)), (7, .data (.slice (.named 1)) ((getD (Tab.Rows t) v15 []) : List Val))] [] [(0 ≤ (v15 : Int) ∧ (v15 : Int) < (length (Tab.Rows t) : Int))] ?_ ?_))))
    ·
     exact ⟨(by omega), trivial⟩
    refine seq (r0U hC [2, 3, 5, 6, 13, 14, 15, 25] [116] [(25, .bool (!(Val.Null (getD (getD (Tab.Rows t) v15 []) (Int.toNat col) Val.zero))))] [] [(0 ≤ col ∧ col < (length (getD (Tab.Rows t) v15 []) : Int))] ?_ ?_)
    ·
     exact ⟨(by have := hkp.2 v15 (by omega); have := hkp.1; omega), trivial⟩
    refine cdE e41 ?_ ?_
    ·
     intro h42q e43; refine r0U hC [2, 3, 5, 13, 14, 15] [116] [] [(116, .arr 1 (.int .i64) ((list ++ ([(v15 : Int)] : List Int)) : List Int))] [((length list : Int) + ((length ([(v15 : Int)] : List Int) : Nat) : Int) ≤ 4294967296)] ?_ ?_
     ·
      exact ⟨(by simp only [List.length_cons, List.length_nil]; omega), trivial⟩
     refine r0U hC [2, 3, 5, 13, 14, 15] [116] [(15, .int .i64 ((v15 + 1 : Nat) : Int))] [] [(-9223372036854775808 ≤ ((v15 + 1 : Nat) : Int) ∧ ((v15 + 1 : Nat) : Int) ≤ 9223372036854775807)] ?_ ?_
     ·
      exact ⟨(by omega), trivial⟩
     refine bk (v15 + 1, (list ++ ([(v15 : Int)] : List Int))) e43 hk37 ?_ ?_
     · exact ⟨hI0.1.add, by omega⟩
     · omega
    ·
     intro h44q e45; refine kpU [2, 3, 5, 13, 14, 15] [116] [] [] ?_; refine AW.skip (r0U hC [2, 3, 5, 13, 14, 15] [116] [(15, .int .i64 ((v15 + 1 : Nat) : Int))] [] [(-9223372036854775808 ≤ ((v15 + 1 : Nat) : Int) ∧ ((v15 + 1 : Nat) : Int) ≤ 9223372036854775807)] ?_ ?_)
     ·
      exact ⟨(by omega), trivial⟩
     refine bk (v15 + 1, list) e45 hk37 ?_ ?_
     · exact ⟨hI0.1.next, by omega⟩
     · omega
   · intro h46q e47; refine kpU [2, 3, 5] [116] [] [] ?_; refine exit ?_; refine meet list (by kernel_rfl) ⟨?_, e47⟩; exact (show v15 = length t.Rows by omega) ▸ hI0.1
  ·
   intro list hJ0 e48; have e49 := e4.trans (then_eq e48); refine seq (AW.regionO [0, 1, 2] (by rfl) ?_)
   refine AWO.runU hC false [] [0, 1] [2] [5, 31, 32] [116]
    [(31, .arr 116 1), (32, .clo 86 [.dref (.named 2) (t : Tab), .dref (.int .i64) (col : Int)])] []
    [] (by rfl) (by kernel_rfl) ?_ ?_
   · exact trivial
   refine AWO.sortK (id := 116) (ep := 1) (cp := [⟨(.named 2), (t : Tab)⟩, ⟨(.int .i64), (col : Int)⟩]) (xs := (list : List Int)) (idxSortOK t col) (by rfl) (by rfl) (by kernel_rfl) (by kernel_rfl) (by kernel_rfl) (by kernel_rfl) ?_ ?_
   · exact ⟨hJ0.1, by have := hJ0.2; omega, hkp⟩
   refine AWO.keepU [5] [116] [] [(116, .arr 1 (.int .i64) ((idxSort t col list) : List Int))] (by kernel_rfl) ?_
   refine AWO.runU hC false [] [] [] [5] [116]
    [] []
    [] (by rfl) (by kernel_rfl) ?_ ?_
   · exact trivial
   refine AWO.nil ?_; refine seq (r1U hC [4] [116] [(4, .arr 116 1)] [] ?_); exact ret (rS (.slice (.int .i64)) e49)

end
end Go.Proofs.Ytjcjpeckfikfkaa
