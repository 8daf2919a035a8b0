/-
  A part of the proof of this claim (AoI3): what functions of the program compute, and plain facts of that. No conditions.
-/
import Derived.Test.YtclennmbceaoeaaAoI2
set_option linter.all false
namespace Go.Proofs.Ytclennmbceaoeaa
open Go Go.Am
open Go.RowKit
noncomputable section

abbrev Rz := List Int × Int

def extL (g : Graph) (self : List Int → Int → Int → Rz → Rz) (os : List Int) (mask cost : Int) : Nat → Nat → Rz → Rz
 | 0, _, r => r
 | k + 1, i, r => bif decide (((i : Nat) : Int) < ((List.length (Graph.Rows g) : Nat) : Int)) then
   (bif (bits .and .i64 mask ((1 : Int) * 2 ^ i) != 0) then extL g self os mask cost k (i + 1) r
   else extL g self os mask cost k (i + 1) (self (os ++ [((i : Nat) : Int)]) (bits .or .i64 mask ((1 : Int) * 2 ^ i)) (cost + (bif mask != 0 then gSize g (bits .or .i64 mask ((1 : Int) * 2 ^ i)) else 0)) r))
   else r

def leaf (os : List Int) (cost : Int) (r : Rz) : Rz := bif (bif r.2 == -1 then true else decide (cost < r.2)) then (os, cost) else r

def ext (g : Graph) : Nat → List Int → Int → Int → Rz → Rz
 | 0, os, mask, cost, r => bif mask == gAll g then leaf os cost r else r
 | f + 1, os, mask, cost, r => bif mask == gAll g then leaf os cost r else extL g (ext g f) os mask cost (List.length (Graph.Rows g) - 0 + 1) 0 r

structure XP (w w' : World) (cb bb : Nat) (ov : Value) (l : List Int) (bv : Value) (r r' : Rz) : Prop where
 os : w'.os = w.os
 tape : w'.tape = w.tape
 output : w'.output = w.output
 size : w.heap.size ≤ w'.heap.size
 old : ∀ c, c < w.heap.size → c ≠ cb → c ≠ bb → some c ≠ blockOf ov → w'.heap[c]? = w.heap[c]?
 rd : row w' ov l
 cst : ∃ el, w'.heap[cb]? = some (.cells #[.int .i64 r'.2] el (0, 0))
 bst : ∃ bv' el, w'.heap[bb]? = some (.cells #[bv'] el (0, 0)) ∧ bv'.oneCell' = true ∧ ((bv' = bv ∧ r'.1 = r.1) ∨ Own w w' bv' r'.1)

section
variable {A : Nat → Prop} {w w1 w2 w3 w4 : World} {gb cb bb xb : Nat} {g : Graph} {ov ov' bv bv2 : Value} {l : List Int} {r r' r'' : Rz} {x : Int}

theorem Own.grow (h : Own w w1 bv l) (hk : ∀ c, w.heap.size ≤ c → c < w1.heap.size → blockOf bv = some c → c < w2.heap.size ∧ w2.heap[c]? = w1.heap[c]?) : Own w w2 bv l := by
 obtain ⟨b, C, cs, el, rfl, h1, h2, h3, h4⟩ := h; obtain ⟨k1, k2⟩ := hk b h1 h2 rfl; exact ⟨b, C, cs, el, rfl, h1, k1, k2.trans h3, h4⟩

theorem XP.start (h : XW A w gb cb bb xb g r.2 bv) (hR : row w ov l) (k : Grow w w1) : XP w w1 cb bb ov l bv r r where
 os := k.os
 tape := k.tape
 output := k.output
 size := k.size
 old c hc _ _ _ := k.old c hc
 rd := hR.keep fun b hb => k.old b (hR.lt hb)
 cst := (h.grow k).hc
 bst := by
  obtain ⟨el, e⟩ := (h.grow k).hb; exact ⟨bv, el, e, h.b1, .inl ⟨rfl, rfl⟩⟩

theorem XP.grow (p : XP w w1 cb bb ov l bv r r') (k : Grow w1 w2) : XP w w2 cb bb ov l bv r r' where
 os := k.os.trans p.os
 tape := k.tape.trans p.tape
 output := k.output.trans p.output
 size := Nat.le_trans p.size k.size
 old c hc h1 h2 h3 := (k.old c (Nat.lt_of_lt_of_le hc p.size)).trans (p.old c hc h1 h2 h3)
 rd := p.rd.keep fun b hb => k.old b (p.rd.lt hb)
 cst := by
  obtain ⟨el, e⟩ := p.cst; exact ⟨el, (k.old _ (lt_heap e)).trans e⟩
 bst := by
  obtain ⟨bv', el, e, h1, h2⟩ := p.bst; refine ⟨bv', el, (k.old _ (lt_heap e)).trans e, h1, h2.imp id fun h => h.grow fun c _ hc _ => ⟨Nat.lt_of_lt_of_le hc k.size, k.old c hc⟩⟩

def Apart (A : Nat → Prop) (cb bb : Nat) (ov : Value) : Prop := ∀ b, blockOf ov = some b → ¬ A b ∧ b ≠ cb ∧ b ≠ bb

theorem XP.xw (h : XW A w gb cb bb xb g r.2 bv) (ha : Apart A cb bb ov) (p : XP w w1 cb bb ov l bv r r') : ∃ bv', XW A w1 gb cb bb xb g r'.2 bv' ∧ ((bv' = bv ∧ r'.1 = r.1) ∨ Own w w1 bv' r'.1) := by
 obtain ⟨bv', el, e, h1, h2⟩ := p.bst; have ho : ∀ b, A b → w1.heap[b]? = w.heap[b]? := fun b hb => p.old b (h.hA b hb).1 (h.hA b hb).2.1 (h.hA b hb).2.2 fun e => (ha b e.symm).1 hb; refine ⟨bv', ⟨fun b hb => ⟨Nat.lt_of_lt_of_le (h.hA b hb).1 p.size, (h.hA b hb).2⟩, h.ag, h.ax, ?_, ?_, h.ne, Nat.lt_of_lt_of_le h.lc p.size, Nat.lt_of_lt_of_le h.lb p.size, p.cst, ⟨el, e⟩, h1⟩, h2⟩
 · obtain ⟨gcs, el, g1, g2⟩ := h.hg; exact ⟨gcs, el, (ho _ h.ag).trans g1, g2.mono fun b hb => ⟨hb, ho b hb⟩⟩
 · obtain ⟨el, g1⟩ := h.hx; exact ⟨el, (ho _ h.ax).trans g1⟩

theorem XW.app {c : Int} (h : XW A w gb cb bb xb g c bv) (ha : Apart A cb bb ov) (p : AP w w1 ov ov' l x) : XW A w1 gb cb bb xb g c bv ∧ Apart A cb bb ov' := by
 have ho : ∀ b, b < w.heap.size → (A b ∨ b = cb ∨ b = bb) → w1.heap[b]? = w.heap[b]? := fun b hb h1 => p.old b hb fun e => by
  obtain ⟨a1, a2, a3⟩ := ha b e.symm; rcases h1 with h1 | h1 | h1
  · exact a1 h1
  · exact a2 h1
  · exact a3 h1
 refine ⟨⟨fun b hb => ⟨Nat.lt_of_lt_of_le (h.hA b hb).1 p.size, (h.hA b hb).2⟩, h.ag, h.ax, ?_, ?_, h.ne, Nat.lt_of_lt_of_le h.lc p.size, Nat.lt_of_lt_of_le h.lb p.size, ?_, ?_, h.b1⟩, ?_⟩
 · obtain ⟨gcs, el, g1, g2⟩ := h.hg; exact ⟨gcs, el, (ho _ (h.hA _ h.ag).1 (.inl h.ag)).trans g1, g2.mono fun b hb => ⟨hb, ho b (h.hA b hb).1 (.inl hb)⟩⟩
 · obtain ⟨el, g1⟩ := h.hx; exact ⟨el, (ho _ (h.hA _ h.ax).1 (.inl h.ax)).trans g1⟩
 · obtain ⟨el, g1⟩ := h.hc; exact ⟨el, (ho _ h.lc (.inr (.inl rfl))).trans g1⟩
 · obtain ⟨el, g1⟩ := h.hb; exact ⟨el, (ho _ h.lb (.inr (.inr rfl))).trans g1⟩
 ·
  intro b hb; obtain ⟨q, h1, h2⟩ := p.blk; rw [hb] at h1; obtain rfl := Option.some.inj h1; rcases h2 with h2 | h2
  · exact ha b h2
  · exact ⟨fun hA => by have := (h.hA b hA).1; omega, by have := h.lc; omega, by have := h.lb; omega⟩

theorem XP.call (h : XW A w gb cb bb xb g r.2 bv) (ha : Apart A cb bb ov) (hR : row w ov l) (p : XP w w2 cb bb ov l bv r r') (hb2 : (bv2 = bv ∧ r'.1 = r.1) ∨ Own w w2 bv2 r'.1) (ap : AP w2 w3 ov ov' l x) (p2 : XP w3 w4 cb bb ov' (l ++ [x]) bv2 r' r'') :
  XP w w4 cb bb ov l bv r r'' := by
 obtain ⟨q, q1, q2⟩ := ap.blk
 have hq : ∀ c, c < w2.heap.size → some c ≠ blockOf ov → some c ≠ blockOf ov' := by
  intro c hc h1 h2; rw [q1] at h2; obtain rfl := Option.some.inj h2; rcases q2 with q2 | q2
  · exact h1 q2.symm
  · omega
 refine ⟨p2.os.trans (ap.os.trans p.os), p2.tape.trans (ap.tape.trans p.tape), p2.output.trans (ap.output.trans p.output), Nat.le_trans p.size (Nat.le_trans ap.size p2.size), ?_, ?_, p2.cst, ?_⟩
 · intro c hc h1 h2 h3; have c2 : c < w2.heap.size := Nat.lt_of_lt_of_le hc p.size; exact (p2.old c (Nat.lt_of_lt_of_le c2 ap.size) h1 h2 (hq c c2 h3)).trans ((ap.old c c2 h3).trans (p.old c hc h1 h2 h3))
 · refine ap.back w4 p2.rd fun b hb hne => ?_; obtain ⟨a1, a2, a3⟩ := ha b hb; exact p2.old b (Nat.lt_of_lt_of_le (p.rd.lt hb) ap.size) a2 a3 (fun e => hne e.symm)
 ·
  obtain ⟨bv', el, e, h1, h2⟩ := p2.bst; refine ⟨bv', el, e, h1, ?_⟩; rcases h2 with ⟨rfl, h2⟩ | h2
  · rw [h2]; refine hb2.imp id fun ho => ho.grow fun c hc1 hc2 _ => ?_; have hlc := h.lc; have hlb := h.lb; (have h3 : some c ≠ blockOf ov := fun e => by have := hR.lt e.symm; omega); have h4 := p2.size; have h5 := ap.size; exact ⟨by omega, (p2.old c (by omega) (by omega) (by omega) (hq c hc2 h3)).trans (ap.old c hc2 h3)⟩
  · right; obtain ⟨b, C, cs, el, rfl, k1, k2⟩ := h2; have h4 := p.size; have h5 := ap.size; exact ⟨b, C, cs, el, rfl, by omega, k2⟩

end

theorem step_app {ops : Array Oper} {o : Oper} {a : Act} {w : World} {K : Act → World → Prop} {Q : Exit → Act → World → Prop} {E : Prop} (hg : o.guard = none) (s x : Operand)
  (hop : o.op = .call { callee := .builtin .append, args := #[s, x], argTypes := #[23, 23] }) (ov : Value) (l : List Int) (v : Int) (pb : Nat) (hs : a.eval s = ov) (hx : a.eval x = .slice (some ⟨pb, 0, none⟩) 1 1)
  (hr : row w ov l) (hl : l.length ≤ 10) (hp : w.cell? ⟨pb, 0, none⟩ = some (.int .i64 v)) (hK : ∀ ov' w', AP w w' ov ov' l v → K (a.put o.dst ov') w') :
  if Region.wanted o (yielded ops a.tmps) = true then Oper.wp Try.prog o a w K Q else E := by
 (have hw : Region.wanted o (yielded ops a.tmps) = true := by simp [Region.wanted, hg]); rw [if_pos hw]; obtain ⟨ov', w', h1, h2⟩ := app_run hr hl hp o.type; unfold Oper.wp; simp [execOp, hop, resolve, invoke, builtin, hs, hx, h1, Result.andThen]; exact hK ov' w' h2

end
end Go.Proofs.Ytclennmbceaoeaa
