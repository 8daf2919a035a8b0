/-
  A part of the proof of this claim (AoI3): what functions of the program compute, and plain facts of that. No conditions.
-/
import Derived.Test.YtclennmbceaoeaaAoS3
import Derived.Test.YtclennmbceaoeaaAnZ
import Derived.WalkKit
import Derived.Deep.RegionLaw
set_option linter.all false
namespace Go.Proofs.Ytclennmbceaoeaa
open Go Go.Am
noncomputable section

def copied (list : List Int) : (List Int) := (bif (((List.length list : Nat) : Int) == 0) then ([] : List Int) else list)

def copied_sp : FnSpec := mkSpec [.val (.slice (.int .i64))] [.own (.int .i64)] (fun (list : List Int) => list.length ≤ 1000) (fun (list : List Int) => [⟨(.slice (.int .i64)), (copied list)⟩])

theorem copied_ok : FnOK Try.prog 24 copied_sp := by
 have hC : CtxOK Try.prog (mkCtx tyL []) := CtxOK.nil tyOK; refine FnOK.of_body Try.func24 (by kernel_rfl) rfl (C := (mkCtx tyL [])) hC.ty (by kernel_rfl) ?_; intro (list : List Int) hwf hpre E; have hpre : list.length ≤ 1000 := hpre; have hw_list : Wf ⟨(.slice (.int .i64)), (list : List Int)⟩ := hwf _ (List.Mem.head _); have hl_list : ((List.length list : Nat) : Int) ≤ 9223372036854775807 := hw_list.len; have e0 : copied list = copied list := rfl; refine AW.seq (AW.r1U hC [0] [] [] [] ?_); refine AW.seq (AW.seq (AW.r1U hC [0, 6] [] [(6, .bool (((List.length list : Nat) : Int) == 0))] [] ?_)); refine AW.cdE e0 ?_ ?_
 · intro h1q e2; refine AW.seq (AW.r1 hC [2] [] ⟨[(2, .nilsl)], []⟩ ?_); exact AW.ret (AW.retE (β := (List Int)) (fun v => [⟨(.slice (.int .i64)), v⟩]) (fun v => []) (v := ([] : List Int)) e2 (by kernel_rfl) rfl rfl)
 ·
  intro h3q e4; refine AW.kpU [0] [] [] [] ?_; refine AW.skip (AW.seq (AW.r0U hC [0, 3] [36] [(3, .arr 36 1)] [(36, .arr 1 (.int .i64) ((List.replicate (List.length list) 0 : List Int) : List Int))] [(0 ≤ ((List.length list : Nat) : Int) ∧ ((List.length list : Nat) : Int) ≤ ((List.length list : Nat) : Int) ∧ ((List.length list : Nat) : Int) ≤ 4294967296)] ?_ ?_))
  ·
   refine ⟨?_, trivial⟩
   · first | (omega) | ((dsimp only; omega)) | ((simp only [lens] at *; omega))
  refine AW.seq (AW.r0U hC [3] [36] [] [(36, .arr 1 (.int .i64) (list : List Int))] [(List.length (List.replicate (List.length list) 0 : List Int) = List.length list)] ?_ ?_)
  ·
   refine ⟨?_, trivial⟩
   · exact List.length_replicate
  refine AW.seq (AW.r1U hC [2] [36] [(2, .arr 36 1)] [] ?_); exact AW.ret (AW.retE (β := (List Int)) (fun v => [⟨(.slice (.int .i64)), v⟩]) (fun v => []) (v := list) e4 (by kernel_rfl) rfl rfl)

end
end Go.Proofs.Ytclennmbceaoeaa


namespace Go.Proofs.Ytclennmbceaoeaa
open Go Go.Am
open Go.RowKit
noncomputable section

structure Grow (w w' : World) : Prop where
 os : w'.os = w.os
 tape : w'.tape = w.tape
 output : w'.output = w.output
 size : w.heap.size ≤ w'.heap.size
 old : ∀ c, c < w.heap.size → w'.heap[c]? = w.heap[c]?

theorem Grow.refl (w : World) : Grow w w := ⟨rfl, rfl, rfl, Nat.le_refl _, fun _ _ => rfl⟩
theorem Grow.trans {a b c : World} (h : Grow a b) (k : Grow b c) : Grow a c :=
 ⟨k.os.trans h.os, k.tape.trans h.tape, k.output.trans h.output, Nat.le_trans h.size k.size, fun q hq => (k.old q (Nat.lt_of_lt_of_le hq h.size)).trans (h.old q hq)⟩
theorem Grow.drew (w : World) : Grow w w.drew := ⟨rfl, rfl, rfl, Nat.le_refl _, fun _ _ => rfl⟩

def Own (w w' : World) (v : Value) (l : List Int) : Prop :=
 ∃ (b C : Nat) (cs : Array Value) (el : Nat), v = .slice (some ⟨b, 0, none⟩) l.length C ∧ w.heap.size ≤ b ∧ b < w'.heap.size ∧ w'.heap[b]? = some (.cells cs el (0, 0)) ∧ cs.size = C ∧ l.length ≤ C ∧ ∀ i (h : i < l.length), cs[i]? = some (.int .i64 l[i])

def row (w : World) (v : Value) (xs : List Int) : Prop := (v = .slice none 0 0 ∧ xs = []) ∨
 ∃ (b C : Nat) (cs : Array Value) (el : Nat), v = .slice (some ⟨b, 0, none⟩) xs.length C ∧ w.heap[b]? = some (.cells cs el (0, 0)) ∧ cs.size = C ∧ xs.length ≤ C ∧ ∀ i (h : i < xs.length), cs[i]? = some (.int .i64 xs[i])

def blockOf : Value → Option Nat
 | .slice (some a) _ _ => some a.block
 | _ => none

theorem lt_heap {w : World} {b : Nat} {o : Obj} (h : w.heap[b]? = some o) : b < w.heap.size := by
 rcases Nat.lt_or_ge b w.heap.size with h1 | h1
 · exact h1
 · rw [Array.getElem?_eq_none h1] at h; cases h

theorem row.keep {w w' : World} {v : Value} {xs : List Int} (h : row w v xs) (hk : ∀ b, blockOf v = some b → w'.heap[b]? = w.heap[b]?) : row w' v xs := by
 rcases h with h | ⟨b, C, cs, el, rfl, h2, h3⟩
 · exact .inl h
 · exact .inr ⟨b, C, cs, el, rfl, (hk b rfl).trans h2, h3⟩

theorem row.lt {w : World} {v : Value} {xs : List Int} (h : row w v xs) {b : Nat} (hb : blockOf v = some b) : b < w.heap.size := by
 rcases h with ⟨rfl, _⟩ | ⟨b', C, cs, el, rfl, h2, h3⟩
 · cases hb
 · obtain rfl := Option.some.inj hb; exact lt_heap h2

def clo (gb cb bb xb : Nat) : Value := .func (.func 22) #[] #[.pointer (some ⟨gb, 0, none⟩), .pointer (some ⟨cb, 0, none⟩), .pointer (some ⟨bb, 0, none⟩), .pointer (some ⟨xb, 0, none⟩)]

structure XW (A : Nat → Prop) (w : World) (gb cb bb xb : Nat) (g : Graph) (c : Int) (bv : Value) : Prop where
 hA : ∀ b, A b → b < w.heap.size ∧ b ≠ cb ∧ b ≠ bb
 ag : A gb
 ax : A xb
 hg : ∃ gcs el, w.heap[gb]? = some (.cells gcs el (0, 0)) ∧ RepC A w (.named 1) g gcs.toList
 hx : ∃ el, w.heap[xb]? = some (.cells #[clo gb cb bb xb] el (0, 0))
 ne : cb ≠ bb
 lc : cb < w.heap.size
 lb : bb < w.heap.size
 hc : ∃ el, w.heap[cb]? = some (.cells #[.int .i64 c] el (0, 0))
 hb : ∃ el, w.heap[bb]? = some (.cells #[bv] el (0, 0))
 b1 : bv.oneCell' = true

section
variable {A : Nat → Prop} {w w' : World} {gb cb bb xb : Nat} {g : Graph} {c : Int} {bv : Value}

theorem XW.grow (h : XW A w gb cb bb xb g c bv) (k : Grow w w') : XW A w' gb cb bb xb g c bv where
 hA b hb := ⟨Nat.lt_of_lt_of_le (h.hA b hb).1 k.size, (h.hA b hb).2⟩
 ag := h.ag
 ax := h.ax
 hg := by
  obtain ⟨gcs, el, h1, h2⟩ := h.hg; exact ⟨gcs, el, (k.old _ (h.hA _ h.ag).1).trans h1, h2.mono fun b hb => ⟨hb, k.old _ (h.hA b hb).1⟩⟩
 hx := by
  obtain ⟨el, h1⟩ := h.hx; exact ⟨el, (k.old _ (h.hA _ h.ax).1).trans h1⟩
 ne := h.ne
 lc := Nat.lt_of_lt_of_le h.lc k.size
 lb := Nat.lt_of_lt_of_le h.lb k.size
 hc := by
  obtain ⟨el, h1⟩ := h.hc; exact ⟨el, (k.old _ h.lc).trans h1⟩
 hb := by
  obtain ⟨el, h1⟩ := h.hb; exact ⟨el, (k.old _ h.lb).trans h1⟩
 b1 := h.b1

theorem cell_of {b : Nat} {v : Value} {el : Nat} (h : w.heap[b]? = some (.cells #[v] el (0, 0))) : w.cell? ⟨b, 0, none⟩ = some v ∧ w.frozen? ⟨b, 0, none⟩ = false := by
 constructor
 · unfold World.cell?; rw [h]; rfl
 · unfold World.frozen?; rw [h]; simp

theorem laid (w : World) (bs : List Nat) : Laid w bs := noGlob w bs

theorem post_grow {A : Nat → Prop} {sp : FnSpec} {tvs : List TV} {e : Ending} {rvs : List Value} {nb : List Nat} {A' : Nat → Prop} (h : Post A w [] sp tvs e w' rvs nb A') : Grow w w' :=
 ⟨h.os, h.tape, h.output.1, h.grow, fun c hc => h.old c hc (by simp)⟩

theorem XW.args (h : XW A w gb cb bb xb g c bv) {ps : List PK} {vs : List Value} {tvs : List TV} (k : RepArgs A w ps vs tvs []) : RepArgs A w (.rd (.named 1) :: ps) (.pointer (some ⟨gb, 0, none⟩) :: vs) (⟨.named 1, g⟩ :: tvs) [] := by
 obtain ⟨gcs, el, h1, h2⟩ := h.hg; refine .rd (.named 1) g gb 0 gcs.toList _ _ _ _ h.ag (fun j v hj => ?_) h2 k; unfold World.cell?; rw [h1]; simpa using hj

theorem gAll_call (h : XW A w gb cb bb xb g c bv) (hV : VG g) : Calls Try.prog 23 #[.pointer (some ⟨gb, 0, none⟩)] w fun e w' => e = .returned (.int .i64 (gAll g)) ∧ Grow w w' := by
 have := gAll_ok.2 A w [.pointer (some ⟨gb, 0, none⟩)] [⟨.named 1, g⟩] [] (fun b hb => ⟨(h.hA b hb).1, by simp⟩) (by simp) (by simp) (h.args .nil) (show g.Rows.length ≤ 40 by have := hV.n5; omega) (laid w []); refine this.mono ?_; rintro e w' ⟨rvs, nb, A', p⟩; refine ⟨?_, post_grow p⟩; have hr := p.ress; rw [p.ret]; change RepRess A' w' [.val (.int .i64)] [⟨.int .i64, gAll g⟩] rvs nb at hr
 cases hr with
 | val t x v rs tvs vs nb hv k =>
  cases k
  cases hv with
  | one _ _ _ _ hc => cases hc; rfl

theorem gSize_call (h : XW A w gb cb bb xb g c bv) (hV : VG g) {m : Int} (hm : -9223372036854775808 ≤ m ∧ m ≤ 9223372036854775807) : Calls Try.prog 25 #[.pointer (some ⟨gb, 0, none⟩), .int .i64 m] w fun e w' => e = .returned (.int .i64 (gSize g m)) ∧ Grow w w' := by
 have := gSize_ok.2 A w [.pointer (some ⟨gb, 0, none⟩), .int .i64 m] [⟨.named 1, g⟩, ⟨.int .i64, m⟩] [] (fun b hb => ⟨(h.hA b hb).1, by simp⟩) (by simp) (by simp) (h.args (.val _ _ _ _ _ _ _ (.one _ _ _ (by simp) (.int .i64 m hm.1 hm.2)) .nil)) (show VG g ∧ True from ⟨hV, trivial⟩) (laid w []); refine this.mono ?_; rintro e w' ⟨rvs, nb, A', p⟩; refine ⟨?_, post_grow p⟩; have hr := p.ress; rw [p.ret]; change RepRess A' w' [.val (.int .i64)] [⟨.int .i64, gSize g m⟩] rvs nb at hr
 cases hr with
 | val t x v rs tvs vs nb hv k =>
  cases k
  cases hv with
  | one _ _ _ _ hc => cases hc; rfl

theorem copied_call {ov : Value} {xs : List Int} (hr : row w ov xs) (hne : xs ≠ []) (hl : xs.length ≤ 1000) (hx : ∀ x ∈ xs, -9223372036854775808 ≤ x ∧ x ≤ 9223372036854775807) :
  Calls Try.prog 24 #[ov] w fun e w' => ∃ v, e = .returned v ∧ Grow w w' ∧ Own w w' v xs := by
 obtain ⟨_, h0⟩ | ⟨b, C, cs, el, rfl, hh, hsz, hle, hcell⟩ := hr
 · exact absurd h0 hne
 have hlt : b < w.heap.size := lt_heap hh
 have eg : ∀ i (h : i < xs.length), xs.getD i 0 = xs[i] := by
  intro i hi; rw [List.getD_eq_getElem?_getD, List.getElem?_eq_getElem hi]; rfl
 have hv : RepV (fun c => c = b) w (.slice (.int .i64)) xs (.slice (some ⟨b, 0, none⟩) xs.length C) := by
  refine .one _ _ _ (by simp) (.slice (.int .i64) xs ⟨b, 0, none⟩ C (fun i => [.int .i64 (xs.getD i 0)]) (show (xs.length : Int) ≤ 9223372036854775807 by omega) hle (fun _ => rfl) (fun _ => rfl) (fun _ _ => rfl) (fun i j v hi hj => ?_) (fun i hi => ?_))
  ·
   cases j with
   | zero =>
    simp only [List.getElem?_cons_zero, Option.some.injEq] at hj; subst hj; unfold World.cell?; rw [hh]; have := hcell i hi; rw [eg i hi]
    simpa [Ty.size] using this
   | succ j => simp at hj
  · have := hx xs[i] (List.getElem_mem hi); rw [eg i hi]; exact .int .i64 _ this.1 this.2
 have := copied_ok.2 (fun c => c = b) w [.slice (some ⟨b, 0, none⟩) xs.length C] [⟨.slice (.int .i64), xs⟩] [] (fun c hc => ⟨by rw [hc]; exact hlt, by simp⟩) (by simp) (by simp) (.val _ _ _ _ _ _ _ hv .nil) (show xs.length ≤ 1000 from hl) (laid w []); refine this.mono ?_; rintro e w' ⟨rvs, nb, A', p⟩; have hr := p.ress
 have hc : copied xs = xs := by
  unfold copied; rw [show (((List.length xs : Nat) : Int) == 0) = false from beq_false_of_ne (by have := List.length_pos_iff.2 hne; omega), cond_false]
 change RepRess A' w' [.own (.int .i64)] [⟨.slice (.int .i64), copied xs⟩] rvs nb at hr; rw [hc] at hr
 cases hr with
 | ownNil => exact absurd rfl hne
 | own t ys b' D cs' el' css rs tvs vs nb hl hh' hs hD hel k =>
  cases k; refine ⟨_, p.ret, post_grow p, b', D, cs', el', rfl, (p.new b' (by simp)).1, (p.new b' (by simp)).2, hh', by simpa [Ty.size] using hs, hD, fun i hi => ?_⟩; obtain ⟨c1, c2, c3⟩ := hel i hi; generalize css i = l at c1 c2 c3; generalize hx : xs[i] = x at c3; cases c3; have := c2 0 _ rfl; rw [← hx]
  simp only [Ty.size, Nat.mul_one, Nat.add_zero] at this
  exact this

end
end
end Go.Proofs.Ytclennmbceaoeaa


namespace Go.Proofs.Ytclennmbceaoeaa
open Go Go.Am
open Go.RowKit
noncomputable section

structure AP (w w' : World) (ov ov' : Value) (l : List Int) (x : Int) : Prop where
 os : w'.os = w.os
 tape : w'.tape = w.tape
 output : w'.output = w.output
 size : w.heap.size ≤ w'.heap.size
 row : row w' ov' (l ++ [x])
 blk : ∃ q, blockOf ov' = some q ∧ (blockOf ov = some q ∨ w.heap.size ≤ q)
 old : ∀ c, c < w.heap.size → some c ≠ blockOf ov → w'.heap[c]? = w.heap[c]?
 back : ∀ w4 : World, Proofs.Ytclennmbceaoeaa.row w4 ov' (l ++ [x]) → (∀ b, blockOf ov = some b → blockOf ov' ≠ some b → w4.heap[b]? = w'.heap[b]?) → Proofs.Ytclennmbceaoeaa.row w4 ov l

theorem app_run {w : World} {ov : Value} {os : List Int} (hr : row w ov os) (hl : os.length ≤ 10) {x : Int} {pb : Nat} (hp : w.cell? ⟨pb, 0, none⟩ = some (.int .i64 x)) (ty : TypeId) :
  ∃ ov' w', (Builtin.append_ #[23, 23] ty #[ov, .slice (some ⟨pb, 0, none⟩) 1 1]).run Try.prog w = .ok ov' w' ∧ AP w w' ov ov' os x := by
 obtain ⟨i0, hi0, hz0, hz1, hz2⟩ := info_parts (show (Try.prog.info? 3).map (fun i => (i.zero, i.size, i.bytes)) = some (some (.int .i64 0), 1, 8) by kernel_rfl); (have hT : Try.prog.underlying 23 = some (.slice 3) := by kernel_rfl); (have hsz : (sizeOf 3).run Try.prog w = .ok 1 w := by simp [sizeOf, typeInfo, hi0, hz1]); have hlen : (Builtin.lenOf (.slice (some ⟨pb, 0, none⟩) 1 1)).run Try.prog w = .ok 1 w := rfl
 have hf : ∀ w1 : World, w1.heap = w.heap → (Builtin.firstCells 1 1 (.slice (some ⟨pb, 0, none⟩) 1 1)).run Try.prog w1 = .ok ([Value.int .i64 x]).toArray w1 := by
  intro w1 h1; refine run_firstCells_some w1 1 1 ⟨pb, 0, none⟩ 1 1 [.int .i64 x] rfl fun j v hj => ?_
  cases j with
  | zero =>
   simp only [List.getElem?_cons_zero, Option.some.injEq] at hj; subst hj; rw [Addr.add_lit]; unfold World.cell? at hp ⊢; rw [h1]; exact hp
  | succ j => simp at hj
 have up : ∀ (base : Option Addr) (C : Nat), ov = .slice base os.length C → C < os.length + 1 → (Builtin.firstCells i0.size os.length (.slice base os.length C)).run Try.prog w.drew = .ok (os.map (Value.int .i64)).toArray w.drew →
   (∀ b, blockOf ov = some b → b < w.heap.size) →
   ∃ ov' w', (Builtin.append_ #[23, 23] ty #[ov, .slice (some ⟨pb, 0, none⟩) 1 1]).run Try.prog w = .ok ov' w' ∧ AP w w' ov ov' os x := by
  rintro base C rfl hC ho hlt
  have hb : Builtin.nextslicecap (os.length + 1) C * i0.bytes ≤ 281474976710656 := growslice_fits hC (by
   rw [hz2]
   omega)
  have hrun := run_append_up (ty := ty) hT hT hi0 hz0 hlen ho (by rw [hz1]; exact hf w.drew rfl) hC (by omega) hb; generalize hcapn : grownCap w (os.length + 1) C 3 = capn at hrun; (have hcapn' : os.length + 1 ≤ capn := by rw [← hcapn]; exact Go.Am.grownCap_le w 3 (by omega)); refine ⟨_, _, hrun, ⟨rfl, rfl, rfl, by simp, ?_, ⟨w.heap.size, rfl, .inr (Nat.le_refl _)⟩, fun c hc _ => ?_, fun w4 h4 hk => hr.keep fun b hb => (hk b hb ?_).trans ?_⟩⟩
  ·
   refine .inr ⟨w.heap.size, capn, (os.map (Value.int .i64) ++ [Value.int .i64 x] ++ (Builtin.zeroCells (Value.int .i64 0).cells (capn - (os.length + 1))).toList).toArray, 3, by simp, (by show (w.heap.push _)[w.heap.size]? = _; simp), ?_, by simpa using hcapn', fun i hi => ?_⟩
   · simp [size_zeroCells, Value.cells]; omega
   ·
    simp only [List.getElem?_toArray]; rw [List.getElem?_append_left (by simpa using hi)]; (have hi2 : i < os.length + 1 := by simpa using hi); by_cases hlt2 : i < os.length
    · rw [List.getElem?_append_left (by simpa using hlt2), List.getElem?_map, List.getElem?_eq_getElem hlt2, List.getElem_append_left hlt2]; rfl
    · (obtain rfl : i = os.length := by omega); rw [List.getElem?_append_right (by simp)]; simp
  · show (w.heap.push _)[c]? = _; rw [Array.getElem?_push, if_neg (by omega)]
  · intro e; have h1 := hlt b hb; have h2 : w.heap.size = b := Option.some.inj e; omega
  · have h1 := hlt b hb; show (w.heap.push _)[b]? = _; rw [Array.getElem?_push, if_neg (by omega)]
 rcases hr with ⟨rfl, rfl⟩ | ⟨b, C, cs, el, rfl, hh, hs, hle, hcell⟩
 · exact up none 0 rfl (by simp) (by simp [Builtin.firstCells]) (fun b hb => by cases hb)
 ·
  by_cases hroom : os.length + 1 ≤ C
  ·
   have hrun := run_append_in (P := Try.prog) (ty := ty) (el := el) hT hT hsz hh hlen (hf w rfl) (by simp [Value.oneCell']) hroom (by simp; omega); refine ⟨_, _, hrun, ⟨rfl, rfl, rfl, by simp, ?_, ⟨b, rfl, .inl rfl⟩, fun c _ hc => setRow_other _ _ _ _ (fun e => hc (by rw [e]; rfl)), fun w4 h4 _ => ?_⟩⟩
   ·
    refine .inr ⟨b, C, _, el, by simp, setRow_heap _ _ _ _ _ _ hh, ?_, by simpa using hroom, fun i hi => ?_⟩
    · simp; omega
    ·
     simp only [List.getElem?_toArray]; (have hi2 : i < os.length + 1 := by simpa using hi); (have htl : (cs.toList.take (os.length * 1)).length = os.length := by simp; omega); by_cases hlt2 : i < os.length
     · rw [List.append_assoc, List.getElem?_append_left (by omega), List.getElem?_take, if_pos (by omega), List.getElem_append_left hlt2]; simpa using hcell i hlt2
     · (obtain rfl : i = os.length := by omega); rw [List.append_assoc, List.getElem?_append_right (by omega), htl]; simp
   ·
    rcases h4 with ⟨h4, _⟩ | ⟨b4, C4, cs4, el4, h4, g1, g2, g3, g4⟩
    · cases h4
    ·
     simp only [Value.slice.injEq, Option.some.injEq, Addr.mk.injEq, and_true] at h4; obtain ⟨rfl, _, rfl⟩ := h4; refine .inr ⟨b, C, cs4, el4, rfl, g1, g2, hle, fun i hi => ?_⟩; have := g4 i (by simp; omega)
     rwa [List.getElem_append_left hi] at this
  ·
   refine up (some ⟨b, 0, none⟩) C rfl (by omega) ?_ (fun b' hb' => by obtain rfl := Option.some.inj hb'; exact lt_heap hh); rw [hz1]; refine run_firstCells_some w.drew 1 os.length ⟨b, 0, none⟩ os.length C (os.map (Value.int .i64)) (by simp) fun j v hj => ?_; rw [List.getElem?_map] at hj
   have hjl : j < os.length := by
    rcases Nat.lt_or_ge j os.length with h | h
    · exact h
    · rw [List.getElem?_eq_none h] at hj; cases hj
   rw [List.getElem?_eq_getElem hjl] at hj; obtain rfl := Option.some.inj hj; rw [Addr.add_lit]; unfold World.cell?; rw [show w.drew.heap[b]? = w.heap[b]? from rfl, hh]; simpa using hcell j hjl

end
end Go.Proofs.Ytclennmbceaoeaa


namespace Go.Proofs.Ytclennmbceaoeaa
open Go Go.Am
open Go.RowKit
noncomputable section

abbrev Rz := List Int × Int

def extL (g : Graph) (self : List Int → Int → Int → Rz → Rz) (os : List Int) (mask cost : Int) : Nat → Nat → Rz → Rz
 | 0, _, r => r
 | k + 1, i, r => bif decide (((i : Nat) : Int) < ((List.length (Graph.Rows g) : Nat) : Int)) then
   (bif (bits .and .i64 mask ((1 : Int) * 2 ^ i) != 0) then extL g self os mask cost k (i + 1) r
   else extL g self os mask cost k (i + 1) (self (os ++ [((i : Nat) : Int)]) (bits .or .i64 mask ((1 : Int) * 2 ^ i)) (cost + (bif mask != 0 then gSize g (bits .or .i64 mask ((1 : Int) * 2 ^ i)) else 0)) r))
   else r

def leaf (os : List Int) (cost : Int) (r : Rz) : Rz := bif (bif r.2 == -1 then true else decide (cost < r.2)) then (os, cost) else r

def ext (g : Graph) : Nat → List Int → Int → Int → Rz → Rz
 | 0, os, mask, cost, r => bif mask == gAll g then leaf os cost r else r
 | f + 1, os, mask, cost, r => bif mask == gAll g then leaf os cost r else extL g (ext g f) os mask cost (List.length (Graph.Rows g) - 0 + 1) 0 r

structure XP (w w' : World) (cb bb : Nat) (ov : Value) (l : List Int) (bv : Value) (r r' : Rz) : Prop where
 os : w'.os = w.os
 tape : w'.tape = w.tape
 output : w'.output = w.output
 size : w.heap.size ≤ w'.heap.size
 old : ∀ c, c < w.heap.size → c ≠ cb → c ≠ bb → some c ≠ blockOf ov → w'.heap[c]? = w.heap[c]?
 rd : row w' ov l
 cst : ∃ el, w'.heap[cb]? = some (.cells #[.int .i64 r'.2] el (0, 0))
 bst : ∃ bv' el, w'.heap[bb]? = some (.cells #[bv'] el (0, 0)) ∧ bv'.oneCell' = true ∧ ((bv' = bv ∧ r'.1 = r.1) ∨ Own w w' bv' r'.1)

section
variable {A : Nat → Prop} {w w1 w2 w3 w4 : World} {gb cb bb xb : Nat} {g : Graph} {ov ov' bv bv2 : Value} {l : List Int} {r r' r'' : Rz} {x : Int}

theorem Own.grow (h : Own w w1 bv l) (hk : ∀ c, w.heap.size ≤ c → c < w1.heap.size → blockOf bv = some c → c < w2.heap.size ∧ w2.heap[c]? = w1.heap[c]?) : Own w w2 bv l := by
 obtain ⟨b, C, cs, el, rfl, h1, h2, h3, h4⟩ := h; obtain ⟨k1, k2⟩ := hk b h1 h2 rfl; exact ⟨b, C, cs, el, rfl, h1, k1, k2.trans h3, h4⟩

theorem XP.start (h : XW A w gb cb bb xb g r.2 bv) (hR : row w ov l) (k : Grow w w1) : XP w w1 cb bb ov l bv r r where
 os := k.os
 tape := k.tape
 output := k.output
 size := k.size
 old c hc _ _ _ := k.old c hc
 rd := hR.keep fun b hb => k.old b (hR.lt hb)
 cst := (h.grow k).hc
 bst := by
  obtain ⟨el, e⟩ := (h.grow k).hb; exact ⟨bv, el, e, h.b1, .inl ⟨rfl, rfl⟩⟩

theorem XP.grow (p : XP w w1 cb bb ov l bv r r') (k : Grow w1 w2) : XP w w2 cb bb ov l bv r r' where
 os := k.os.trans p.os
 tape := k.tape.trans p.tape
 output := k.output.trans p.output
 size := Nat.le_trans p.size k.size
 old c hc h1 h2 h3 := (k.old c (Nat.lt_of_lt_of_le hc p.size)).trans (p.old c hc h1 h2 h3)
 rd := p.rd.keep fun b hb => k.old b (p.rd.lt hb)
 cst := by
  obtain ⟨el, e⟩ := p.cst; exact ⟨el, (k.old _ (lt_heap e)).trans e⟩
 bst := by
  obtain ⟨bv', el, e, h1, h2⟩ := p.bst; refine ⟨bv', el, (k.old _ (lt_heap e)).trans e, h1, h2.imp id fun h => h.grow fun c _ hc _ => ⟨Nat.lt_of_lt_of_le hc k.size, k.old c hc⟩⟩

def Apart (A : Nat → Prop) (cb bb : Nat) (ov : Value) : Prop := ∀ b, blockOf ov = some b → ¬ A b ∧ b ≠ cb ∧ b ≠ bb

theorem XP.xw (h : XW A w gb cb bb xb g r.2 bv) (ha : Apart A cb bb ov) (p : XP w w1 cb bb ov l bv r r') : ∃ bv', XW A w1 gb cb bb xb g r'.2 bv' ∧ ((bv' = bv ∧ r'.1 = r.1) ∨ Own w w1 bv' r'.1) := by
 obtain ⟨bv', el, e, h1, h2⟩ := p.bst; have ho : ∀ b, A b → w1.heap[b]? = w.heap[b]? := fun b hb => p.old b (h.hA b hb).1 (h.hA b hb).2.1 (h.hA b hb).2.2 fun e => (ha b e.symm).1 hb; refine ⟨bv', ⟨fun b hb => ⟨Nat.lt_of_lt_of_le (h.hA b hb).1 p.size, (h.hA b hb).2⟩, h.ag, h.ax, ?_, ?_, h.ne, Nat.lt_of_lt_of_le h.lc p.size, Nat.lt_of_lt_of_le h.lb p.size, p.cst, ⟨el, e⟩, h1⟩, h2⟩
 · obtain ⟨gcs, el, g1, g2⟩ := h.hg; exact ⟨gcs, el, (ho _ h.ag).trans g1, g2.mono fun b hb => ⟨hb, ho b hb⟩⟩
 · obtain ⟨el, g1⟩ := h.hx; exact ⟨el, (ho _ h.ax).trans g1⟩

theorem XW.app {c : Int} (h : XW A w gb cb bb xb g c bv) (ha : Apart A cb bb ov) (p : AP w w1 ov ov' l x) : XW A w1 gb cb bb xb g c bv ∧ Apart A cb bb ov' := by
 have ho : ∀ b, b < w.heap.size → (A b ∨ b = cb ∨ b = bb) → w1.heap[b]? = w.heap[b]? := fun b hb h1 => p.old b hb fun e => by
  obtain ⟨a1, a2, a3⟩ := ha b e.symm; rcases h1 with h1 | h1 | h1
  · exact a1 h1
  · exact a2 h1
  · exact a3 h1
 refine ⟨⟨fun b hb => ⟨Nat.lt_of_lt_of_le (h.hA b hb).1 p.size, (h.hA b hb).2⟩, h.ag, h.ax, ?_, ?_, h.ne, Nat.lt_of_lt_of_le h.lc p.size, Nat.lt_of_lt_of_le h.lb p.size, ?_, ?_, h.b1⟩, ?_⟩
 · obtain ⟨gcs, el, g1, g2⟩ := h.hg; exact ⟨gcs, el, (ho _ (h.hA _ h.ag).1 (.inl h.ag)).trans g1, g2.mono fun b hb => ⟨hb, ho b (h.hA b hb).1 (.inl hb)⟩⟩
 · obtain ⟨el, g1⟩ := h.hx; exact ⟨el, (ho _ (h.hA _ h.ax).1 (.inl h.ax)).trans g1⟩
 · obtain ⟨el, g1⟩ := h.hc; exact ⟨el, (ho _ h.lc (.inr (.inl rfl))).trans g1⟩
 · obtain ⟨el, g1⟩ := h.hb; exact ⟨el, (ho _ h.lb (.inr (.inr rfl))).trans g1⟩
 ·
  intro b hb; obtain ⟨q, h1, h2⟩ := p.blk; rw [hb] at h1; obtain rfl := Option.some.inj h1; rcases h2 with h2 | h2
  · exact ha b h2
  · exact ⟨fun hA => by have := (h.hA b hA).1; omega, by have := h.lc; omega, by have := h.lb; omega⟩

theorem XP.call (h : XW A w gb cb bb xb g r.2 bv) (ha : Apart A cb bb ov) (hR : row w ov l) (p : XP w w2 cb bb ov l bv r r') (hb2 : (bv2 = bv ∧ r'.1 = r.1) ∨ Own w w2 bv2 r'.1) (ap : AP w2 w3 ov ov' l x) (p2 : XP w3 w4 cb bb ov' (l ++ [x]) bv2 r' r'') :
  XP w w4 cb bb ov l bv r r'' := by
 obtain ⟨q, q1, q2⟩ := ap.blk
 have hq : ∀ c, c < w2.heap.size → some c ≠ blockOf ov → some c ≠ blockOf ov' := by
  intro c hc h1 h2; rw [q1] at h2; obtain rfl := Option.some.inj h2; rcases q2 with q2 | q2
  · exact h1 q2.symm
  · omega
 refine ⟨p2.os.trans (ap.os.trans p.os), p2.tape.trans (ap.tape.trans p.tape), p2.output.trans (ap.output.trans p.output), Nat.le_trans p.size (Nat.le_trans ap.size p2.size), ?_, ?_, p2.cst, ?_⟩
 · intro c hc h1 h2 h3; have c2 : c < w2.heap.size := Nat.lt_of_lt_of_le hc p.size; exact (p2.old c (Nat.lt_of_lt_of_le c2 ap.size) h1 h2 (hq c c2 h3)).trans ((ap.old c c2 h3).trans (p.old c hc h1 h2 h3))
 · refine ap.back w4 p2.rd fun b hb hne => ?_; obtain ⟨a1, a2, a3⟩ := ha b hb; exact p2.old b (Nat.lt_of_lt_of_le (p.rd.lt hb) ap.size) a2 a3 (fun e => hne e.symm)
 ·
  obtain ⟨bv', el, e, h1, h2⟩ := p2.bst; refine ⟨bv', el, e, h1, ?_⟩; rcases h2 with ⟨rfl, h2⟩ | h2
  · rw [h2]; refine hb2.imp id fun ho => ho.grow fun c hc1 hc2 _ => ?_; have hlc := h.lc; have hlb := h.lb; (have h3 : some c ≠ blockOf ov := fun e => by have := hR.lt e.symm; omega); have h4 := p2.size; have h5 := ap.size; exact ⟨by omega, (p2.old c (by omega) (by omega) (by omega) (hq c hc2 h3)).trans (ap.old c hc2 h3)⟩
  · right; obtain ⟨b, C, cs, el, rfl, k1, k2⟩ := h2; have h4 := p.size; have h5 := ap.size; exact ⟨b, C, cs, el, rfl, by omega, k2⟩

end

theorem step_app {ops : Array Oper} {o : Oper} {a : Act} {w : World} {K : Act → World → Prop} {Q : Exit → Act → World → Prop} {E : Prop} (hg : o.guard = none) (s x : Operand)
  (hop : o.op = .call { callee := .builtin .append, args := #[s, x], argTypes := #[23, 23] }) (ov : Value) (l : List Int) (v : Int) (pb : Nat) (hs : a.eval s = ov) (hx : a.eval x = .slice (some ⟨pb, 0, none⟩) 1 1)
  (hr : row w ov l) (hl : l.length ≤ 10) (hp : w.cell? ⟨pb, 0, none⟩ = some (.int .i64 v)) (hK : ∀ ov' w', AP w w' ov ov' l v → K (a.put o.dst ov') w') :
  if Region.wanted o (yielded ops a.tmps) = true then Oper.wp Try.prog o a w K Q else E := by
 (have hw : Region.wanted o (yielded ops a.tmps) = true := by simp [Region.wanted, hg]); rw [if_pos hw]; obtain ⟨ov', w', h1, h2⟩ := app_run hr hl hp o.type; unfold Oper.wp; simp [execOp, hop, resolve, invoke, builtin, hs, hx, h1, Result.andThen]; exact hK ov' w' h2

end
end Go.Proofs.Ytclennmbceaoeaa
