/-
  A part of the proof of this claim (AoI1): what functions of the program compute, and plain facts of that. No conditions.
-/
import Derived.Test.YtclennmbceaoeaaAoS3
import Derived.Test.YtclennmbceaoeaaAnZ
import Derived.WalkKit
import Derived.Deep.RegionLaw
set_option linter.all false
namespace Go.Proofs.Ytclennmbceaoeaa
open Go Go.Am
noncomputable section

def copied (list : List Int) : (List Int) := (bif (((List.length list : Nat) : Int) == 0) then ([] : List Int) else list)

def copied_sp : FnSpec := mkSpec [.val (.slice (.int .i64))] [.own (.int .i64)] (fun (list : List Int) => list.length ≤ 1000) (fun (list : List Int) => [⟨(.slice (.int .i64)), (copied list)⟩])

theorem copied_ok : FnOK Try.prog 24 copied_sp := by
 have hC : CtxOK Try.prog (mkCtx tyL []) := CtxOK.nil tyOK; refine FnOK.of_body Try.func24 (by kernel_rfl) rfl (C := (mkCtx tyL [])) hC.ty (by kernel_rfl) ?_; intro (list : List Int) hwf hpre E; have hpre : list.length ≤ 1000 := hpre; have hw_list : Wf ⟨(.slice (.int .i64)), (list : List Int)⟩ := hwf _ (List.Mem.head _); have hl_list : ((List.length list : Nat) : Int) ≤ 9223372036854775807 := hw_list.len; have e0 : copied list = copied list := rfl; refine AW.seq (AW.r1U hC [0] [] [] [] ?_); refine AW.seq (AW.seq (AW.r1U hC [0, 6] [] [(6, .bool (((List.length list : Nat) : Int) == 0))] [] ?_)); refine AW.cdE e0 ?_ ?_
 · intro h1q e2; refine AW.seq (AW.r1 hC [2] [] ⟨[(2, .nilsl)], []⟩ ?_); exact AW.ret (AW.retE (β := (List Int)) (fun v => [⟨(.slice (.int .i64)), v⟩]) (fun v => []) (v := ([] : List Int)) e2 (by kernel_rfl) rfl rfl)
 ·
  intro h3q e4; refine AW.kpU [0] [] [] [] ?_; refine AW.skip (AW.seq (AW.r0U hC [0, 3] [36] [(3, .arr 36 1)] [(36, .arr 1 (.int .i64) ((List.replicate (List.length list) 0 : List Int) : List Int))] [(0 ≤ ((List.length list : Nat) : Int) ∧ ((List.length list : Nat) : Int) ≤ ((List.length list : Nat) : Int) ∧ ((List.length list : Nat) : Int) ≤ 4294967296)] ?_ ?_))
  ·
   refine ⟨?_, trivial⟩
   · first | (omega) | ((dsimp only; omega)) | ((simp only [lens] at *; omega))
  refine AW.seq (AW.r0U hC [3] [36] [] [(36, .arr 1 (.int .i64) (list : List Int))] [(List.length (List.replicate (List.length list) 0 : List Int) = List.length list)] ?_ ?_)
  ·
   refine ⟨?_, trivial⟩
   · exact List.length_replicate
  refine AW.seq (AW.r1U hC [2] [36] [(2, .arr 36 1)] [] ?_); exact AW.ret (AW.retE (β := (List Int)) (fun v => [⟨(.slice (.int .i64)), v⟩]) (fun v => []) (v := list) e4 (by kernel_rfl) rfl rfl)

end
end Go.Proofs.Ytclennmbceaoeaa


namespace Go.Proofs.Ytclennmbceaoeaa
open Go Go.Am
open Go.RowKit
noncomputable section

structure Grow (w w' : World) : Prop where
 os : w'.os = w.os
 tape : w'.tape = w.tape
 output : w'.output = w.output
 size : w.heap.size ≤ w'.heap.size
 old : ∀ c, c < w.heap.size → w'.heap[c]? = w.heap[c]?

theorem Grow.refl (w : World) : Grow w w := ⟨rfl, rfl, rfl, Nat.le_refl _, fun _ _ => rfl⟩
theorem Grow.trans {a b c : World} (h : Grow a b) (k : Grow b c) : Grow a c :=
 ⟨k.os.trans h.os, k.tape.trans h.tape, k.output.trans h.output, Nat.le_trans h.size k.size, fun q hq => (k.old q (Nat.lt_of_lt_of_le hq h.size)).trans (h.old q hq)⟩
theorem Grow.drew (w : World) : Grow w w.drew := ⟨rfl, rfl, rfl, Nat.le_refl _, fun _ _ => rfl⟩

def Own (w w' : World) (v : Value) (l : List Int) : Prop :=
 ∃ (b C : Nat) (cs : Array Value) (el : Nat), v = .slice (some ⟨b, 0, none⟩) l.length C ∧ w.heap.size ≤ b ∧ b < w'.heap.size ∧ w'.heap[b]? = some (.cells cs el (0, 0)) ∧ cs.size = C ∧ l.length ≤ C ∧ ∀ i (h : i < l.length), cs[i]? = some (.int .i64 l[i])

def row (w : World) (v : Value) (xs : List Int) : Prop := (v = .slice none 0 0 ∧ xs = []) ∨
 ∃ (b C : Nat) (cs : Array Value) (el : Nat), v = .slice (some ⟨b, 0, none⟩) xs.length C ∧ w.heap[b]? = some (.cells cs el (0, 0)) ∧ cs.size = C ∧ xs.length ≤ C ∧ ∀ i (h : i < xs.length), cs[i]? = some (.int .i64 xs[i])

def blockOf : Value → Option Nat
 | .slice (some a) _ _ => some a.block
 | _ => none

theorem lt_heap {w : World} {b : Nat} {o : Obj} (h : w.heap[b]? = some o) : b < w.heap.size := by
 rcases Nat.lt_or_ge b w.heap.size with h1 | h1
 · exact h1
 · rw [Array.getElem?_eq_none h1] at h; cases h

theorem row.keep {w w' : World} {v : Value} {xs : List Int} (h : row w v xs) (hk : ∀ b, blockOf v = some b → w'.heap[b]? = w.heap[b]?) : row w' v xs := by
 rcases h with h | ⟨b, C, cs, el, rfl, h2, h3⟩
 · exact .inl h
 · exact .inr ⟨b, C, cs, el, rfl, (hk b rfl).trans h2, h3⟩

theorem row.lt {w : World} {v : Value} {xs : List Int} (h : row w v xs) {b : Nat} (hb : blockOf v = some b) : b < w.heap.size := by
 rcases h with ⟨rfl, _⟩ | ⟨b', C, cs, el, rfl, h2, h3⟩
 · cases hb
 · obtain rfl := Option.some.inj hb; exact lt_heap h2

def clo (gb cb bb xb : Nat) : Value := .func (.func 22) #[] #[.pointer (some ⟨gb, 0, none⟩), .pointer (some ⟨cb, 0, none⟩), .pointer (some ⟨bb, 0, none⟩), .pointer (some ⟨xb, 0, none⟩)]

structure XW (A : Nat → Prop) (w : World) (gb cb bb xb : Nat) (g : Graph) (c : Int) (bv : Value) : Prop where
 hA : ∀ b, A b → b < w.heap.size ∧ b ≠ cb ∧ b ≠ bb
 ag : A gb
 ax : A xb
 hg : ∃ gcs el, w.heap[gb]? = some (.cells gcs el (0, 0)) ∧ RepC A w (.named 1) g gcs.toList
 hx : ∃ el, w.heap[xb]? = some (.cells #[clo gb cb bb xb] el (0, 0))
 ne : cb ≠ bb
 lc : cb < w.heap.size
 lb : bb < w.heap.size
 hc : ∃ el, w.heap[cb]? = some (.cells #[.int .i64 c] el (0, 0))
 hb : ∃ el, w.heap[bb]? = some (.cells #[bv] el (0, 0))
 b1 : bv.oneCell' = true

section
variable {A : Nat → Prop} {w w' : World} {gb cb bb xb : Nat} {g : Graph} {c : Int} {bv : Value}

theorem XW.grow (h : XW A w gb cb bb xb g c bv) (k : Grow w w') : XW A w' gb cb bb xb g c bv where
 hA b hb := ⟨Nat.lt_of_lt_of_le (h.hA b hb).1 k.size, (h.hA b hb).2⟩
 ag := h.ag
 ax := h.ax
 hg := by
  obtain ⟨gcs, el, h1, h2⟩ := h.hg; exact ⟨gcs, el, (k.old _ (h.hA _ h.ag).1).trans h1, h2.mono fun b hb => ⟨hb, k.old _ (h.hA b hb).1⟩⟩
 hx := by
  obtain ⟨el, h1⟩ := h.hx; exact ⟨el, (k.old _ (h.hA _ h.ax).1).trans h1⟩
 ne := h.ne
 lc := Nat.lt_of_lt_of_le h.lc k.size
 lb := Nat.lt_of_lt_of_le h.lb k.size
 hc := by
  obtain ⟨el, h1⟩ := h.hc; exact ⟨el, (k.old _ h.lc).trans h1⟩
 hb := by
  obtain ⟨el, h1⟩ := h.hb; exact ⟨el, (k.old _ h.lb).trans h1⟩
 b1 := h.b1

theorem cell_of {b : Nat} {v : Value} {el : Nat} (h : w.heap[b]? = some (.cells #[v] el (0, 0))) : w.cell? ⟨b, 0, none⟩ = some v ∧ w.frozen? ⟨b, 0, none⟩ = false := by
 constructor
 · unfold World.cell?; rw [h]; rfl
 · unfold World.frozen?; rw [h]; simp

theorem laid (w : World) (bs : List Nat) : Laid w bs := noGlob w bs

theorem post_grow {A : Nat → Prop} {sp : FnSpec} {tvs : List TV} {e : Ending} {rvs : List Value} {nb : List Nat} {A' : Nat → Prop} (h : Post A w [] sp tvs e w' rvs nb A') : Grow w w' :=
 ⟨h.os, h.tape, h.output.1, h.grow, fun c hc => h.old c hc (by simp)⟩

theorem XW.args (h : XW A w gb cb bb xb g c bv) {ps : List PK} {vs : List Value} {tvs : List TV} (k : RepArgs A w ps vs tvs []) : RepArgs A w (.rd (.named 1) :: ps) (.pointer (some ⟨gb, 0, none⟩) :: vs) (⟨.named 1, g⟩ :: tvs) [] := by
 obtain ⟨gcs, el, h1, h2⟩ := h.hg; refine .rd (.named 1) g gb 0 gcs.toList _ _ _ _ h.ag (fun j v hj => ?_) h2 k; unfold World.cell?; rw [h1]; simpa using hj

theorem gAll_call (h : XW A w gb cb bb xb g c bv) (hV : VG g) : Calls Try.prog 23 #[.pointer (some ⟨gb, 0, none⟩)] w fun e w' => e = .returned (.int .i64 (gAll g)) ∧ Grow w w' := by
 have := gAll_ok.2 A w [.pointer (some ⟨gb, 0, none⟩)] [⟨.named 1, g⟩] [] (fun b hb => ⟨(h.hA b hb).1, by simp⟩) (by simp) (by simp) (h.args .nil) (show g.Rows.length ≤ 40 by have := hV.n5; omega) (laid w []); refine this.mono ?_; rintro e w' ⟨rvs, nb, A', p⟩; refine ⟨?_, post_grow p⟩; have hr := p.ress; rw [p.ret]; change RepRess A' w' [.val (.int .i64)] [⟨.int .i64, gAll g⟩] rvs nb at hr
 cases hr with
 | val t x v rs tvs vs nb hv k =>
  cases k
  cases hv with
  | one _ _ _ _ hc => cases hc; rfl

theorem gSize_call (h : XW A w gb cb bb xb g c bv) (hV : VG g) {m : Int} (hm : -9223372036854775808 ≤ m ∧ m ≤ 9223372036854775807) : Calls Try.prog 25 #[.pointer (some ⟨gb, 0, none⟩), .int .i64 m] w fun e w' => e = .returned (.int .i64 (gSize g m)) ∧ Grow w w' := by
 have := gSize_ok.2 A w [.pointer (some ⟨gb, 0, none⟩), .int .i64 m] [⟨.named 1, g⟩, ⟨.int .i64, m⟩] [] (fun b hb => ⟨(h.hA b hb).1, by simp⟩) (by simp) (by simp) (h.args (.val _ _ _ _ _ _ _ (.one _ _ _ (by simp) (.int .i64 m hm.1 hm.2)) .nil)) (show VG g ∧ True from ⟨hV, trivial⟩) (laid w []); refine this.mono ?_; rintro e w' ⟨rvs, nb, A', p⟩; refine ⟨?_, post_grow p⟩; have hr := p.ress; rw [p.ret]; change RepRess A' w' [.val (.int .i64)] [⟨.int .i64, gSize g m⟩] rvs nb at hr
 cases hr with
 | val t x v rs tvs vs nb hv k =>
  cases k
  cases hv with
  | one _ _ _ _ hc => cases hc; rfl

theorem copied_call {ov : Value} {xs : List Int} (hr : row w ov xs) (hne : xs ≠ []) (hl : xs.length ≤ 1000) (hx : ∀ x ∈ xs, -9223372036854775808 ≤ x ∧ x ≤ 9223372036854775807) :
  Calls Try.prog 24 #[ov] w fun e w' => ∃ v, e = .returned v ∧ Grow w w' ∧ Own w w' v xs := by
 obtain ⟨_, h0⟩ | ⟨b, C, cs, el, rfl, hh, hsz, hle, hcell⟩ := hr
 · exact absurd h0 hne
 have hlt : b < w.heap.size := lt_heap hh
 have eg : ∀ i (h : i < xs.length), xs.getD i 0 = xs[i] := by
  intro i hi; rw [List.getD_eq_getElem?_getD, List.getElem?_eq_getElem hi]; rfl
 have hv : RepV (fun c => c = b) w (.slice (.int .i64)) xs (.slice (some ⟨b, 0, none⟩) xs.length C) := by
  refine .one _ _ _ (by simp) (.slice (.int .i64) xs ⟨b, 0, none⟩ C (fun i => [.int .i64 (xs.getD i 0)]) (show (xs.length : Int) ≤ 9223372036854775807 by omega) hle (fun _ => rfl) (fun _ => rfl) (fun _ _ => rfl) (fun i j v hi hj => ?_) (fun i hi => ?_))
  ·
   cases j with
   | zero =>
    simp only [List.getElem?_cons_zero, Option.some.injEq] at hj; subst hj; unfold World.cell?; rw [hh]; have := hcell i hi; rw [eg i hi]
    simpa [Ty.size] using this
   | succ j => simp at hj
  · have := hx xs[i] (List.getElem_mem hi); rw [eg i hi]; exact .int .i64 _ this.1 this.2
 have := copied_ok.2 (fun c => c = b) w [.slice (some ⟨b, 0, none⟩) xs.length C] [⟨.slice (.int .i64), xs⟩] [] (fun c hc => ⟨by rw [hc]; exact hlt, by simp⟩) (by simp) (by simp) (.val _ _ _ _ _ _ _ hv .nil) (show xs.length ≤ 1000 from hl) (laid w []); refine this.mono ?_; rintro e w' ⟨rvs, nb, A', p⟩; have hr := p.ress
 have hc : copied xs = xs := by
  unfold copied; rw [show (((List.length xs : Nat) : Int) == 0) = false from beq_false_of_ne (by have := List.length_pos_iff.2 hne; omega), cond_false]
 change RepRess A' w' [.own (.int .i64)] [⟨.slice (.int .i64), copied xs⟩] rvs nb at hr; rw [hc] at hr
 cases hr with
 | ownNil => exact absurd rfl hne
 | own t ys b' D cs' el' css rs tvs vs nb hl hh' hs hD hel k =>
  cases k; refine ⟨_, p.ret, post_grow p, b', D, cs', el', rfl, (p.new b' (by simp)).1, (p.new b' (by simp)).2, hh', by simpa [Ty.size] using hs, hD, fun i hi => ?_⟩; obtain ⟨c1, c2, c3⟩ := hel i hi; generalize css i = l at c1 c2 c3; generalize hx : xs[i] = x at c3; cases c3; have := c2 0 _ rfl; rw [← hx]
  simp only [Ty.size, Nat.mul_one, Nat.add_zero] at this
  exact this

end
end
end Go.Proofs.Ytclennmbceaoeaa
