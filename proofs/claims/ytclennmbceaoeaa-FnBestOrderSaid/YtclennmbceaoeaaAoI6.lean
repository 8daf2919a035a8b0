/-
  A part of the proof of this claim (AoI6): what functions of the program compute, and plain facts of that. No conditions.
-/
import Derived.Test.YtclennmbceaoeaaAoI5
set_option linter.all false
namespace Go.Proofs.Ytclennmbceaoeaa
open Go Go.Am
open Go.RowKit
noncomputable section

def iBestOrder (g : Graph) : Rz := bif !(ValidGraph g) then ([], -1) else ext g (List.length (Graph.Rows g)) [] 0 0 ([], -1)

def iBestOrder_sp : FnSpec := mkSpec [.val (.named 1)] [.own (.int .i64), .val (.int .i64)] (fun (_ : Graph) => True) (fun (g : Graph) => [⟨.slice (.int .i64), (iBestOrder g).1⟩, ⟨.int .i64, (iBestOrder g).2⟩])

theorem graph_inv {A : Nat → Prop} {w : World} {g : Graph} {v : Value} (h : RepV A w (.named 1) g v) : ∃ p C q D, v = .agg #[.slice p (List.length g.Rows) C, .slice q (List.length g.Edges) D] ∧ RepC A w (.named 1) g [.slice p (List.length g.Rows) C, .slice q (List.length g.Edges) D] := by
 cases h with
 | one t x v ht h => exact absurd rfl (ht 1)
 | agg n x cs h =>
  have h0 := h
  cases h0 with
  | named n x cs h1 =>
   have h1 : RepL A w [⟨.slice (.int .i64), g.Rows⟩, ⟨.slice (.named 0), g.Edges⟩] cs := h1
   cases h1 with
   | cons t x r cs ds h2 k =>
    obtain ⟨p, C, rfl⟩ := slice_inv h2
    cases k with
    | cons t x r cs ds h3 k =>
     obtain ⟨q, D, rfl⟩ := slice_inv h3; cases k; exact ⟨p, C, q, D, rfl, h⟩

theorem valid_call {A : Nat → Prop} {w : World} {g : Graph} {v : Value} (hA : ∀ b, A b → b < w.heap.size) (h : RepV A w (.named 1) g v) : Calls Try.prog 21 #[v] w fun e w' => e = .returned (.bool (ValidGraph g)) ∧ Grow w w' := by
 have := ValidGraph_ok.2 A w [v] [⟨.named 1, g⟩] [] (fun b hb => ⟨hA b hb, by simp⟩) (by simp) (by simp) (.val (.named 1) g v _ _ _ _ h .nil) trivial (laid w []); refine this.mono ?_; rintro e w' ⟨rvs, nb, A', p⟩; refine ⟨?_, post_grow p⟩; have hr := p.ress; rw [p.ret]; change RepRess A' w' [.val .bool] [⟨.bool, ValidGraph g⟩] rvs nb at hr
 cases hr with
 | val t x v rs tvs vs nb hv k =>
  cases k
  cases hv with
  | one _ _ _ _ hc => cases hc; rfl

theorem alloc_new (w : World) (o : Obj) {n : Nat} (h : n = w.heap.size) : (w.alloc o).heap[n]? = some o := by
 subst h; show (w.heap.push _)[w.heap.size]? = _; simp

theorem run_store_fn {P : Program} {w : World} {a : Addr} {m : Mode} (f : Fn) (x y : Array Value) : (store a (.func f x y) m).run P w = stored P w a (.func f x y) m := run_store P w a _ m rfl
attribute [local go_sem] run_store_fn

set_option maxHeartbeats 4000000 in
set_option maxRecDepth 1000000 in
theorem order_call {A : Nat → Prop} {w : World} {g : Graph} {v : Value} (hA : ∀ b, A b → b < w.heap.size) (h : RepV A w (.named 1) g v) : Calls Try.prog 6 #[v] w fun e w' => ∃ bv, e = .returned (.tuple #[bv, .int .i64 (iBestOrder g).2]) ∧ Grow w w' ∧ ((bv = .slice none 0 0 ∧ (iBestOrder g).1 = []) ∨ Own w w' bv (iBestOrder g).1) := by
 obtain ⟨p, C, q, D, rfl, hg⟩ := graph_inv h
 go_enter Try.func6, Try.ntmps6
 go_wp2_with fail
 refine (valid_call (fun b hb => Nat.lt_of_lt_of_le (hA b hb) (Grow.alloc w _).size) (h.mono fun b hb => ⟨hb, (Grow.alloc w _).old b (hA b hb)⟩)).mono ?_; rintro e w1 ⟨rfl, hG1⟩
 cases hv : ValidGraph g with
 | false =>
  have e0 : iBestOrder g = ([], -1) := by unfold iBestOrder; rw [hv]; rfl
  go_wp2_with fail
  (first | go_ret | go_ret2); exact ⟨.slice none 0 0, by rw [e0]; rfl, (Grow.alloc w _).trans hG1, .inl ⟨rfl, by rw [e0]⟩⟩
 | true =>
  have hV := ValidGraph_iff.1 hv; (have e0 : iBestOrder g = ext g (List.length g.Rows) [] 0 0 ([], -1) := by unfold iBestOrder; rw [hv]; rfl); have hGw : Grow w w1 := (Grow.alloc w _).trans hG1
  have hgb : w1.heap[w.heap.size]? = some (.cells #[.slice p (List.length g.Rows) C, .slice q (List.length g.Edges) D] 26 (0, 0)) := by
   rw [hG1.old _ (by simp)]; show (w.heap.push _)[w.heap.size]? = _; simp
  have hsz : w.heap.size < w1.heap.size := by have := hG1.size; simp at this; omega
  go_wp2_with fail
  generalize hW : (((w1.alloc (Obj.cells #[Value.slice none 0 0] 23)).alloc (Obj.cells #[Value.int IntKind.i64 (-1)] 3)).alloc (Obj.cells #[Value.func (Fn.func 22) #[] #[Value.pointer (some ⟨w.heap.size, 0, none⟩), Value.pointer (some ⟨w1.heap.size + 1, 0, none⟩), Value.pointer (some ⟨w1.heap.size, 0, none⟩), Value.pointer (some ⟨w1.heap.size + 1 + 1, 0, none⟩)]] 52)) = W; (have hGW : Grow w1 W := by rw [← hW]; exact ((Grow.alloc _ _).trans (Grow.alloc _ _)).trans (Grow.alloc _ _)); have hWs : W.heap.size = w1.heap.size + 3 := by rw [← hW]; simp
  have hWb : W.heap[w1.heap.size]? = some (.cells #[.slice none 0 0] 23 (0, 0)) := by
   rw [← hW, (Grow.alloc _ _).old _ (by simp; omega), (Grow.alloc _ _).old _ (by simp)]; show (w1.heap.push _)[w1.heap.size]? = _; simp
  have hWc : W.heap[w1.heap.size + 1]? = some (.cells #[.int .i64 (-1)] 3 (0, 0)) := by
   rw [← hW, (Grow.alloc _ _).old _ (by simp)]; exact alloc_new _ _ (by simp)
  have hWx : W.heap[w1.heap.size + 1 + 1]? = some (.cells #[clo w.heap.size (w1.heap.size + 1) w1.heap.size (w1.heap.size + 1 + 1)] 52 (0, 0)) := by
   rw [← hW]; exact alloc_new _ _ (by simp)
  have hX : XW (fun b => A b ∨ b = w.heap.size ∨ b = w1.heap.size + 1 + 1) W w.heap.size (w1.heap.size + 1) w1.heap.size (w1.heap.size + 1 + 1) g (-1) (.slice none 0 0) := by
   refine ⟨fun b hb => ?_, .inr (.inl rfl), .inr (.inr rfl), ⟨_, _, (hGW.old _ hsz).trans hgb, ?_⟩, ⟨_, hWx⟩, by omega, by omega, by omega, ⟨_, hWc⟩, ⟨_, hWb⟩, rfl⟩
   ·
    rcases hb with hb | rfl | rfl
    · have := hA b hb; omega
    · omega
    · omega
   · exact hg.mono fun b hb => ⟨.inl hb, (hGW.old b (Nat.lt_trans (hA b hb) hsz)).trans (hGw.old b (hA b hb))⟩
  clear hW
  have hMK : MK g.Rows.length [] 0 := ⟨Int.le_refl _, by
   have h5 := hV.n5; have := (show ∀ n : Fin 6, (0 : Int) < (1 : Int) * 2 ^ n.val by decide) ⟨g.Rows.length, by omega⟩
   exact this, rfl, fun i h => absurd h (Nat.not_lt_zero _)⟩
  refine (ext_ok hV (List.length g.Rows) _ W _ _ _ _ (.slice none 0 0) (.slice none 0 0) [] 0 0 ([], -1) hX (.inl ⟨rfl, rfl⟩) (fun b hb => by cases hb) hMK (by simp) (by decide)).mono ?_; rintro e w2 ⟨rfl, hP⟩; obtain ⟨ec, hc2⟩ := hP.cst; obtain ⟨c2, f2⟩ := cell_of hc2; obtain ⟨bv, eb, hb2, hb1, hbs⟩ := hP.bst; obtain ⟨c3, f3⟩ := cell_of hb2
  have hGr : Grow w w2 := ⟨hP.os.trans (hGW.os.trans hGw.os), hP.tape.trans (hGW.tape.trans hGw.tape), hP.output.trans (hGW.output.trans hGw.output), Nat.le_trans hGw.size (Nat.le_trans hGW.size hP.size),
   fun c hc => (hP.old c (by omega) (by omega) (by omega) (by simp [blockOf])).trans ((hGW.old c (by omega)).trans (hGw.old c hc))⟩
  have hend : (bv = .slice none 0 0 ∧ (iBestOrder g).1 = []) ∨ Own w w2 bv (iBestOrder g).1 := by
   rw [e0]; rcases hbs with ⟨h1, h2⟩ | h2
   · exact .inl ⟨h1, h2⟩
   · obtain ⟨b, C, cs, el, rfl, k1, k2⟩ := h2; exact .inr ⟨b, C, cs, el, rfl, by omega, k2⟩
  (have e2 : (ext g (List.length g.Rows) [] 0 0 ([], -1)).2 = (iBestOrder g).2 := by rw [e0]); rw [e2] at c2
  have hshape : ∃ p n C, bv = .slice p n C := by
   rcases hend with ⟨rfl, _⟩ | ⟨b, C, cs, el, rfl, _⟩
   · exact ⟨none, 0, 0, rfl⟩
   · exact ⟨_, _, _, rfl⟩
  clear hbs hb2 hc2 hP hX hb1; obtain ⟨bp, bn, bC, rfl⟩ := hshape
  go_wp2_with fail
  go_region_held3 (fun w' => w'.cell? ⟨w1.heap.size, 0, none⟩ = some (.slice bp bn bC) ∧ w'.cell? ⟨w1.heap.size + 1, 0, none⟩ = some (.int .i64 (iBestOrder g).2)) (go_keep) (fail)
  (all_goals go_wp2_with fail); (first | go_ret | go_ret2); exact ⟨_, rfl, hGr.trans (Grow.drew w2), hend.imp id fun h => h.grow fun c _ hc _ => ⟨hc, rfl⟩⟩

theorem getD_at (l : List Int) (i : Nat) (h : i < l.length) : List.getD l i 0 = l[i] := by
 rw [List.getD_eq_getElem?_getD, List.getElem?_eq_getElem h]; rfl

theorem MK.len5 {n : Nat} {l : List Int} {m : Int} (h : MK n l m) (hn : n ≤ 5) : l.length ≤ 5 := by
 have := (pc_one ⟨m.toNat, by have := h.lt32 hn; have := h.m0; omega⟩).2
 simp only at this
 rw [h.pc] at this
 exact this

theorem leaf_bd {l : List Int} {c : Int} {r : Rz} (hc : 0 ≤ c ∧ c ≤ 5000000000000000) (hr : -1 ≤ r.2 ∧ r.2 ≤ 5000000000000000) : -1 ≤ (leaf l c r).2 ∧ (leaf l c r).2 ≤ 5000000000000000 := by
 unfold leaf
 cases (bif r.2 == -1 then true else decide (c < r.2)) with
 | true =>
  rw [cond_true]; exact ⟨by show -1 ≤ c; omega, hc.2⟩
 | false => exact hr

theorem ext_bd {g : Graph} (hV : VG g) : ∀ (f : Nat) (l : List Int) (m c : Int) (r : Rz), MK g.Rows.length l m → (0 ≤ c ∧ c ≤ 1000000000000000 * (l.length : Int)) → (-1 ≤ r.2 ∧ r.2 ≤ 5000000000000000) → -1 ≤ (ext g f l m c r).2 ∧ (ext g f l m c r).2 ≤ 5000000000000000 := by
 have h5 := hV.n5; intro f
 induction f with
 | zero =>
  intro l m c r hM hc hr; have := hM.len5 h5; unfold ext
  cases (m == gAll g) with
  | true => exact leaf_bd (by omega) hr
  | false => exact hr
 | succ f ih =>
  intro l m c r hM hc hr; have := hM.len5 h5; unfold ext
  cases (m == gAll g) with
  | true => exact leaf_bd (by omega) hr
  | false =>
   rw [cond_false]
   have key : ∀ (k i : Nat) (r : Rz), (-1 ≤ r.2 ∧ r.2 ≤ 5000000000000000) → -1 ≤ (extL g (ext g f) l m c k i r).2 ∧ (extL g (ext g f) l m c k i r).2 ≤ 5000000000000000 := by
    intro k
    induction k with
    | zero => intro i r hr; exact hr
    | succ k ihk =>
     intro i r hr; unfold extL; by_cases hlt : i < g.Rows.length
     ·
      rw [decide_eq_true (by omega), cond_true]; by_cases hb : bits .and .i64 m ((1 : Int) * 2 ^ i) = 0
      ·
       rw [hb]; refine ihk (i + 1) _ (ih _ _ _ _ (hM.next h5 hlt hb) ?_ hr); have hG := gSize_b hV (bits .or .i64 m ((1 : Int) * 2 ^ i)); rw [List.length_append, List.length_cons, List.length_nil]
       cases (m != 0) with
       | true => rw [cond_true]; omega
       | false => rw [cond_false]; omega
      · rw [bne_iff_ne.2 hb, cond_true]; exact ihk (i + 1) r hr
     · rw [decide_eq_false (by omega), cond_false]; exact hr
   exact key _ _ _ hr

theorem MK.zero {g : Graph} (hV : VG g) : MK g.Rows.length [] 0 := ⟨Int.le_refl _, by
 have h5 := hV.n5; have := (show ∀ n : Fin 6, (0 : Int) < (1 : Int) * 2 ^ n.val by decide) ⟨g.Rows.length, by omega⟩
 exact this, rfl, fun i h => absurd h (Nat.not_lt_zero _)⟩

theorem iBestOrder_bd (g : Graph) : -1 ≤ (iBestOrder g).2 ∧ (iBestOrder g).2 ≤ 5000000000000000 := by
 unfold iBestOrder
 cases hv : ValidGraph g with
 | false =>
  show (-1 : Int) ≤ -1 ∧ (-1 : Int) ≤ 5000000000000000; exact ⟨by decide, by decide⟩
 | true =>
  have hV := ValidGraph_iff.1 hv; exact ext_bd hV (List.length g.Rows) [] 0 0 ([], -1) (MK.zero hV) ⟨Int.le_refl _, by simp⟩ ⟨by decide, by decide⟩

theorem ext_rng {g : Graph} (hV : VG g) : ∀ (f : Nat) (l : List Int) (m c : Int) (r : Rz), MK g.Rows.length l m → (RL g.Rows.length r.1 ∧ r.1.length ≤ 5) → RL g.Rows.length (ext g f l m c r).1 ∧ (ext g f l m c r).1.length ≤ 5 := by
 have h5 := hV.n5
 have lf : ∀ (l : List Int) (m c : Int) (r : Rz), MK g.Rows.length l m → (RL g.Rows.length r.1 ∧ r.1.length ≤ 5) → RL g.Rows.length (leaf l c r).1 ∧ (leaf l c r).1.length ≤ 5 := by
  intro l m c r hM hr; unfold leaf
  cases (bif r.2 == -1 then true else decide (c < r.2)) with
  | true => exact ⟨hM.rl, hM.len5 h5⟩
  | false => exact hr
 intro f
 induction f with
 | zero =>
  intro l m c r hM hr; unfold ext
  cases (m == gAll g) with
  | true => exact lf l m c r hM hr
  | false => exact hr
 | succ f ih =>
  intro l m c r hM hr; unfold ext
  cases (m == gAll g) with
  | true => exact lf l m c r hM hr
  | false =>
   rw [cond_false]
   have key : ∀ (k i : Nat) (r : Rz), (RL g.Rows.length r.1 ∧ r.1.length ≤ 5) → RL g.Rows.length (extL g (ext g f) l m c k i r).1 ∧ (extL g (ext g f) l m c k i r).1.length ≤ 5 := by
    intro k
    induction k with
    | zero => intro i r hr; exact hr
    | succ k ihk =>
     intro i r hr; unfold extL; by_cases hlt : i < g.Rows.length
     ·
      rw [decide_eq_true (by omega), cond_true]; by_cases hb : bits .and .i64 m ((1 : Int) * 2 ^ i) = 0
      · rw [hb]; exact ihk (i + 1) _ (ih _ _ _ _ (hM.next h5 hlt hb) hr)
      · rw [bne_iff_ne.2 hb, cond_true]; exact ihk (i + 1) r hr
     · rw [decide_eq_false (by omega), cond_false]; exact hr
   exact key _ _ _ hr

theorem iBestOrder_rng (g : Graph) : (∀ i, i < (iBestOrder g).1.length → 0 ≤ List.getD (iBestOrder g).1 i 0 ∧ List.getD (iBestOrder g).1 i 0 < 5) ∧ (iBestOrder g).1.length ≤ 5 := by
 unfold iBestOrder
 cases hv : ValidGraph g with
 | false => exact ⟨fun i h => absurd h (Nat.not_lt_zero _), Nat.zero_le _⟩
 | true =>
  have hV := ValidGraph_iff.1 hv; have h5 := hV.n5; obtain ⟨a, b⟩ := ext_rng hV (List.length g.Rows) [] 0 0 ([], -1) (MK.zero hV) ⟨fun i h => absurd h (Nat.not_lt_zero _), Nat.zero_le _⟩; refine ⟨fun i hi => ?_, b⟩; have := a i hi; show 0 ≤ List.getD (ext g (List.length g.Rows) [] 0 0 ([], -1)).1 i 0 ∧ List.getD (ext g (List.length g.Rows) [] 0 0 ([], -1)).1 i 0 < 5; omega

theorem iBestOrder_post {A : Nat → Prop} {w : World} {v : Value} (x : Graph) (hA : ∀ b, A b → b < w.heap.size ∧ b ∉ ([] : List Nat)) (h : RepV A w (.named 1) x v) : Calls Try.prog 6 [v].toArray w fun e w' => ∃ rvs nb A', Post A w [] iBestOrder_sp [⟨.named 1, x⟩] e w' rvs nb A' := by
 refine (order_call (fun b hb => (hA b hb).1) h).mono ?_; rintro e w' ⟨bv, rfl, hG, hb⟩; have hB := iBestOrder_bd x; obtain ⟨hr1, hr2⟩ := iBestOrder_rng x; have hn : ∀ A', RepV A' w' (.int .i64) (iBestOrder x).2 (.int .i64 (iBestOrder x).2) := fun A' => .one _ _ _ (by simp) (.int .i64 _ (show -9223372036854775808 ≤ _ by omega) (show _ ≤ 9223372036854775807 by omega)); rcases hb with ⟨rfl, h2⟩ | ⟨b, C, cs, el, rfl, h1, h2, h3, h4, h5, h6⟩
 · refine ⟨[.slice none 0 0, .int .i64 (iBestOrder x).2], [], A, by rfl, hG.os, hG.tape, ⟨hG.output, Nat.le_refl _⟩, hG.size, fun b hb _ => hG.old b hb, fun b hb => ⟨Nat.lt_of_lt_of_le (hA b hb).1 hG.size, .inl hb, by simp⟩, List.nodup_nil, by simp, ?_, .nil⟩; show RepRess A w' [.own (.int .i64), .val (.int .i64)] [⟨.slice (.int .i64), (iBestOrder x).1⟩, ⟨.int .i64, (iBestOrder x).2⟩] _ _; rw [h2]; exact .ownNil (.int .i64) _ _ _ _ (.val (.int .i64) _ _ _ _ _ _ (hn A) .nil)
 ·
  refine ⟨[.slice (some ⟨b, 0, none⟩) (iBestOrder x).1.length C, .int .i64 (iBestOrder x).2], [b], A, by rfl, hG.os, hG.tape, ⟨hG.output, Nat.le_refl _⟩, hG.size, fun b hb _ => hG.old b hb, fun c hc => ⟨Nat.lt_of_lt_of_le (hA c hc).1 hG.size, .inl hc, fun e => ?_⟩, by simp, fun c hc => ?_, ?_, .nil⟩
  ·
   have := (hA c hc).1
   rw [List.mem_singleton.1 e] at this
   omega
  · rw [List.mem_singleton.1 hc]; exact ⟨h1, h2⟩
  ·
   show RepRess A w' [.own (.int .i64), .val (.int .i64)] [⟨.slice (.int .i64), (iBestOrder x).1⟩, ⟨.int .i64, (iBestOrder x).2⟩] _ _; refine .own (.int .i64) (iBestOrder x).1 b C cs el (fun i => [.int .i64 (List.getD (iBestOrder x).1 i 0)]) _ _ _ _ (show ((List.length (iBestOrder x).1 : Nat) : Int) ≤ 4294967296 by omega) h3 (by simpa [Ty.size] using h4) h5 (fun i hi => ⟨rfl, fun j v hj => ?_, ?_⟩) (.val (.int .i64) _ _ _ _ _ _ (hn A) .nil)
   ·
    cases j with
    | zero =>
     simp only [List.getElem?_cons_zero, Option.some.injEq] at hj; subst hj; have e := h6 i hi; have e2 : List.getD (iBestOrder x).1 i 0 = ((iBestOrder x).1 : List Int)[i]'hi := getD_at _ _ hi; simp only [Ty.size, Nat.mul_one, Nat.add_zero]; rw [e2]; exact e
    | succ j => simp at hj
   · have hr := hr1 i hi; have e2 : List.getD (iBestOrder x).1 i 0 = ((iBestOrder x).1 : List Int)[i]'hi := getD_at _ _ hi; rw [e2] at hr ⊢; exact .int .i64 _ (show -9223372036854775808 ≤ ((iBestOrder x).1 : List Int)[i]'hi by omega) (show ((iBestOrder x).1 : List Int)[i]'hi ≤ 9223372036854775807 by omega)

theorem iBestOrder_ok : FnOK Try.prog 6 iBestOrder_sp := by
 refine ⟨⟨_, Try.func6, rfl, rfl⟩, ?_⟩; intro A w vs tvs bs hA hbs hnd hargs _ _; change RepArgs A w [.val (.named 1)] vs tvs bs at hargs
 cases hargs with
 | val t x v ps vs tvs bs h k =>
  cases k; exact iBestOrder_post x hA h
end
end Go.Proofs.Ytclennmbceaoeaa
