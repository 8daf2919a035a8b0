/-
  Am, part C: when a machine's state fits an abstract one.
-/
import Derived.Test.YtdcnkekcdncelaaDoorAmB
set_option linter.all false
namespace Go.Am
structure Bind where
  m : Nat → Option (Nat × Nat)
  own : Nat → Option Nat

instance : CoeFun Bind (fun _ => Nat → Option (Nat × Nat)) := ⟨Bind.m⟩

def Bind.set (β : Bind) (id : Nat) (bc : Option (Nat × Nat)) : Bind := ⟨upd β.m id bc, fun b => if β.own b = some id then none else β.own b⟩

variable [U : Univ]

inductive RepV (A : Nat → Prop) (w : World) : (t : Ty) → t.den → Value → Prop
  | agg (n : Nat) (x : U.R n) (cs : List Value) (h : RepC A w (.named n) x cs) : RepV A w (.named n) x (.agg cs.toArray)
  | one (t : Ty) (x : t.den) (v : Value) (ht : ∀ n, t ≠ .named n) (h : RepC A w t x [v]) : RepV A w t x v

theorem RepV.mono {A A' : Nat → Prop} {w w' : World} (hA : ∀ b, A b → A' b ∧ w'.heap[b]? = w.heap[b]?) {t : Ty} {x : t.den} {v : Value}
    (h : RepV A w t x v) : RepV A' w' t x v := by
  cases h with
  | agg n x cs h => exact .agg n x cs (h.mono hA)
  | one t x v ht h => exact .one t x v ht (h.mono hA)

theorem RepV.flat {A A' : Nat → Prop} {w w' : World} {f : Nat} {t : Ty} {x : t.den} {v : Value} (ht : t.flatN f = true)
    (h : RepV A w t x v) : RepV A' w' t x v := by
  cases h with
  | agg n x cs h => exact .agg n x cs (h.flat f ht)
  | one t x v h' h => exact .one t x v h' (h.flat f ht)

def SliceAt (bc : Option (Nat × Nat)) (sz off len : Nat) (v : Value) : Prop :=
  match bc with
  | none => off = 0 ∧ len = 0 ∧ v = .slice none 0 0
  | some (b, C) => ∃ a, v = .slice (some a) len (C - off) ∧ off + len ≤ C ∧ (off = 0 ∨ off < C → a = ⟨b, off * sz, none⟩)

inductive RepSV (A : Nat → Prop) (w : World) (β : Bind) (mem : Nat → Option Blk) : SV → Value → Prop
  | top (v : Value) : RepSV A w β mem .top v
  | int (k : IntKind) (n : Int) (lo : k.min ≤ n) (hi : n ≤ k.max) : RepSV A w β mem (.int k n) (.int k n)
  | bool (b : Bool) : RepSV A w β mem (.bool b) (.bool b)
  | str (s : ByteArray) (h : (s.size : Int) ≤ lim) : RepSV A w β mem (.str s) (.string s)
  | data (t : Ty) (x : t.den) (v : Value) (h : RepV A w t x v) : RepSV A w β mem (.data t x) v
  | nilsl : RepSV A w β mem .nilsl (.slice none 0 0)
  | nilptr : RepSV A w β mem .nilptr (.pointer none)
  | err0 : RepSV A w β mem (.err false) .nilIface
  | err1 (T : TypeId) (v : Value) : RepSV A w β mem (.err true) (.iface T v)
  | arr (id ep : Nat) (v : Value) (hm : ∃ k, mem id = some k ∧ ep ≤ k.ep) (h1 : v.oneCell' = true)
      (h : ∀ t xs, mem id = some (.arr ep t xs) → SliceAt (β id) t.size 0 xs.length v) : RepSV A w β mem (.arr id ep) v
  | sub (id ep off len : Nat) (v : Value) (hm : ∃ k, mem id = some k ∧ ep ≤ k.ep) (h1 : v.oneCell' = true)
      (h : ∀ t xs, mem id = some (.arr ep t xs) → off + len ≤ xs.length ∧ SliceAt (β id) t.size off len v) : RepSV A w β mem (.sub id ep off len) v
  | ref (id ep off b : Nat) (hm : ∃ k, mem id = some k ∧ ep ≤ k.ep)
      (h : ∀ cells, mem id = some (.box ep cells) → ∃ C, β id = some (b, C)) : RepSV A w β mem (.ref id ep off) (.pointer (some ⟨b, off, none⟩))
  | bsl (id ep off len b cap : Nat) (hle : len ≤ cap) (hm : ∃ k, mem id = some k ∧ ep ≤ k.ep)
      (h : ∀ cells, mem id = some (.box ep cells) → ∃ C, β id = some (b, C)) : RepSV A w β mem (.bsl id ep off len) (.slice (some ⟨b, off, none⟩) len cap)
  | eref (id ep i : Nat) (p : List Nat) (b o : Nat) (hm : ∃ k, mem id = some k ∧ ep ≤ k.ep)
      (h : ∀ t xs, mem id = some (.arr ep t xs) → i < xs.length ∧ ∃ C q u, β id = some (b, C) ∧ pathOff t p = some (q, u) ∧ o = i * t.size + q) :
      RepSV A w β mem (.eref id ep i p) (.pointer (some ⟨b, o, none⟩))
  | tr (id ep : Nat) (v : Value) (hm : ∃ k, mem id = some k ∧ ep ≤ k.ep) (h1 : v.oneCell' = true)
      (h : ∀ t xs, mem id = some (.tree ep t xs) → SliceAt (β id) t.size 0 xs.length v) : RepSV A w β mem (.tr id ep) v
  | tref (id ep i : Nat) (p : List Nat) (b o : Nat) (hm : ∃ k, mem id = some k ∧ ep ≤ k.ep)
      (h : ∀ t xs, mem id = some (.tree ep t xs) → i < xs.length ∧ ∃ C q u, β id = some (b, C) ∧ pathOff t p = some (q, u) ∧ o = i * t.size + q) :
      RepSV A w β mem (.tref id ep i p) (.pointer (some ⟨b, o, none⟩))
  | dref (t : Ty) (x : t.den) (b off : Nat) (cs : List Value) (hA : A b) (hc : ∀ (j : Nat) (v : Value), cs[j]? = some v → w.cell? ⟨b, off + j, none⟩ = some v)
      (h : RepC A w t x cs) : RepSV A w β mem (.dref t x) (.pointer (some ⟨b, off, none⟩))
  | agg (l : List SV) (vs : List Value) (hl : l.length = vs.length) (h1 : ∀ v ∈ vs, v.oneCell' = true)
      (h : ∀ (i : Nat) (sv : SV) (v : Value), l[i]? = some sv → vs[i]? = some v → RepSV A w β mem sv v) : RepSV A w β mem (.agg l) (.agg vs.toArray)
  | tup (l : List SV) (vs : List Value) (hl : l.length = vs.length)
      (h : ∀ (i : Nat) (sv : SV) (v : Value), l[i]? = some sv → vs[i]? = some v → RepSV A w β mem sv v) : RepSV A w β mem (.tup l) (.tuple vs.toArray)
  | clo (f : Nat) (l : List SV) (vs : List Value) (hl : l.length = vs.length)
      (h : ∀ (i : Nat) (sv : SV) (v : Value), l[i]? = some sv → vs[i]? = some v → RepSV A w β mem sv v) : RepSV A w β mem (.clo f l) (.func (.func f) #[] vs.toArray)
  | cnd (p : Prop) (sv : SV) (v : Value) (h : p → RepSV A w β mem sv v) (h' : ¬ p → v = undef) : RepSV A w β mem (.cnd p sv) v

def Blk.alike : Blk → Blk → Prop
  | .box _ _, .box _ _ => True
  | .arr _ t xs, .arr _ u ys => t = u ∧ xs.length = ys.length
  | .tree _ t xs, .tree _ u ys => t = u ∧ xs.length = ys.length
  | .dead _, .dead _ => True
  | _, _ => False

theorem Blk.alike_refl (k : Blk) : k.alike k := by cases k <;> simp [Blk.alike]

theorem RepSV.mono {A A' : Nat → Prop} {w w' : World} {β β' : Bind} {mem mem' : Nat → Option Blk}
    (hA : ∀ b, A b → A' b ∧ w'.heap[b]? = w.heap[b]?)
    (hm : ∀ i k, mem i = some k → ∃ k', mem' i = some k' ∧ k.ep ≤ k'.ep ∧ (k.ep = k'.ep → k.alike k' ∧ β' i = β i))
    {sv : SV} {v : Value} (h : RepSV A w β mem sv v) : RepSV A' w' β' mem' sv v := by
  have up : ∀ (id ep : Nat), (∃ k, mem id = some k ∧ ep ≤ k.ep) → ∃ k, mem' id = some k ∧ ep ≤ k.ep := by
    rintro id ep ⟨k, hk, hle⟩; obtain ⟨k', hk', hle', _⟩ := hm id k hk; exact ⟨k', hk', Nat.le_trans hle hle'⟩
  have back : ∀ (id ep : Nat) (k' : Blk), (∃ k, mem id = some k ∧ ep ≤ k.ep) → mem' id = some k' → k'.ep = ep →
      ∃ k, mem id = some k ∧ k.ep = ep ∧ k.alike k' ∧ β' id = β id := by
    rintro id ep k' ⟨k, hk, hle⟩ hk' he; obtain ⟨k'', hk'', hle', hal⟩ := hm id k hk; rw [hk'] at hk''; obtain rfl := Option.some.inj hk''; (have : k.ep = k'.ep := by omega); exact ⟨k, hk, by omega, hal this⟩
  induction h with
  | top v => exact .top v
  | int k n lo hi => exact .int k n lo hi
  | bool b => exact .bool b
  | str s h => exact .str s h
  | data t x v h => exact .data t x v (h.mono hA)
  | nilsl => exact .nilsl
  | nilptr => exact .nilptr
  | err0 => exact .err0
  | err1 T v => exact .err1 T v
  | arr id ep v hx h1 h =>
    refine .arr id ep v (up _ _ hx) h1 fun t xs hxs => ?_; obtain ⟨k, hk, he, hal, hb⟩ := back id ep _ hx hxs rfl
    cases k with
    | arr e u ys =>
      simp only [Blk.ep] at he; subst he; obtain ⟨rfl, hl⟩ := hal; rw [hb, ← hl]; exact h _ _ hk
    | box => simp [Blk.alike] at hal
    | tree => simp [Blk.alike] at hal
    | dead => simp [Blk.alike] at hal
  | sub id ep off len v hx h1 h =>
    refine .sub id ep off len v (up _ _ hx) h1 fun t xs hxs => ?_; obtain ⟨k, hk, he, hal, hb⟩ := back id ep _ hx hxs rfl
    cases k with
    | arr e u ys =>
      simp only [Blk.ep] at he; subst he; obtain ⟨rfl, hl⟩ := hal; rw [hb, ← hl]; exact h _ _ hk
    | box => simp [Blk.alike] at hal
    | tree => simp [Blk.alike] at hal
    | dead => simp [Blk.alike] at hal
  | ref id ep off b hx h =>
    refine .ref id ep off b (up _ _ hx) fun cells hxs => ?_; obtain ⟨k, hk, he, hal, hb⟩ := back id ep _ hx hxs rfl
    cases k with
    | box e c =>
      simp only [Blk.ep] at he; subst he; rw [hb]; exact h _ hk
    | arr => simp [Blk.alike] at hal
    | tree => simp [Blk.alike] at hal
    | dead => simp [Blk.alike] at hal
  | bsl id ep off len b cap hle hx h =>
    refine .bsl id ep off len b cap hle (up _ _ hx) fun cells hxs => ?_; obtain ⟨k, hk, he, hal, hb⟩ := back id ep _ hx hxs rfl
    cases k with
    | box e c =>
      simp only [Blk.ep] at he; subst he; rw [hb]; exact h _ hk
    | arr => simp [Blk.alike] at hal
    | tree => simp [Blk.alike] at hal
    | dead => simp [Blk.alike] at hal
  | eref id ep i p b o hx h =>
    refine .eref id ep i p b o (up _ _ hx) fun t xs hxs => ?_; obtain ⟨k, hk, he, hal, hb⟩ := back id ep _ hx hxs rfl
    cases k with
    | arr e u ys =>
      simp only [Blk.ep] at he; subst he; obtain ⟨rfl, hl⟩ := hal; rw [hb, ← hl]; exact h _ _ hk
    | box => simp [Blk.alike] at hal
    | tree => simp [Blk.alike] at hal
    | dead => simp [Blk.alike] at hal
  | tr id ep v hx h1 h =>
    refine .tr id ep v (up _ _ hx) h1 fun t xs hxs => ?_; obtain ⟨k, hk, he, hal, hb⟩ := back id ep _ hx hxs rfl
    cases k with
    | tree e u ys =>
      simp only [Blk.ep] at he; subst he; obtain ⟨rfl, hl⟩ := hal; rw [hb, ← hl]; exact h _ _ hk
    | box => simp [Blk.alike] at hal
    | arr => simp [Blk.alike] at hal
    | dead => simp [Blk.alike] at hal
  | tref id ep i p b o hx h =>
    refine .tref id ep i p b o (up _ _ hx) fun t xs hxs => ?_; obtain ⟨k, hk, he, hal, hb⟩ := back id ep _ hx hxs rfl
    cases k with
    | tree e u ys =>
      simp only [Blk.ep] at he; subst he; obtain ⟨rfl, hl⟩ := hal; rw [hb, ← hl]; exact h _ _ hk
    | box => simp [Blk.alike] at hal
    | arr => simp [Blk.alike] at hal
    | dead => simp [Blk.alike] at hal
  | dref t x b off cs hb hc h =>
    exact .dref t x b off cs (hA b hb).1 (fun j v hj => by
      rw [World.cell?_eq_of_heap (w := w)]
      · exact hc j v hj
      · exact (hA b hb).2) (h.mono hA)
  | agg l vs hl h1 _ ih => exact .agg l vs hl h1 ih
  | tup l vs hl _ ih => exact .tup l vs hl ih
  | clo f l vs hl _ ih => exact .clo f l vs hl ih
  | cnd p sv v _ h' ih => exact .cnd p sv v ih h'

structure Ent where
  w0 : World
  A0 : Nat → Prop
  bs : List Nat
  wf : ∀ b, A0 b → b < w0.heap.size ∧ b ∉ bs
  wb : ∀ b, b ∈ bs → b < w0.heap.size
  lay : Laid w0 bs
  par : Nat → Option Nat
  outer : Nat → Value := fun _ => undef
  ro : Option Nat := none
  obj : Nat → Option Obj := fun _ => none

def Ent.fence (E : Ent) : Fence := { Fence.wide with round := E.ro }

def slotV (E : Ent) (a : Act) (s : Nat) : Value := if s < OFF then a.tmps.getD s undef else E.outer s

def allow (E : Ent) (w : World) (β : Bind) (b : Nat) : Prop :=
  b < w.heap.size ∧ (E.A0 b ∨ E.w0.heap.size ≤ b) ∧ (∀ i C, β i ≠ some (b, C)) ∧ β.own b = none

def RepBlk (A : Nat → Prop) (w : World) (β : Bind) (mem : Nat → Option Blk) (i : Nat) : Blk → Prop
  | .box _ cells => ∃ (b C : Nat) (cs : Array Value) (el : Nat), β i = some (b, C) ∧ w.heap[b]? = some (.cells cs el (0, 0)) ∧ cs.size = cells.length ∧
      ∀ (j : Nat) (sv : SV), cells[j]? = some sv → ∃ v, cs[j]? = some v ∧ v.oneCell' = true ∧ RepSV A w β mem sv v
  | .arr _ t xs => (xs.length : Int) ≤ 4294967296 ∧ ((β i = none ∧ xs = []) ∨
      ∃ (b C : Nat) (cs : Array Value) (el : Nat) (css : Nat → List Value), β i = some (b, C) ∧ w.heap[b]? = some (.cells cs el (0, 0)) ∧ cs.size = C * t.size ∧ xs.length ≤ C ∧
        ∀ k (hk : k < xs.length), (css k).length = t.size ∧ (∀ (j : Nat) (v : Value), (css k)[j]? = some v → cs[k * t.size + j]? = some v) ∧ RepC A w t xs[k] (css k))
  | .tree _ t xs => (xs.length : Int) ≤ 4294967296 ∧ ((β i = none ∧ xs = []) ∨
      ∃ (b C : Nat) (cs : Array Value) (el : Nat) (css : Nat → List Value) (T : Nat → Nat → Prop), β i = some (b, C) ∧ w.heap[b]? = some (.cells cs el (0, 0)) ∧ cs.size = C * t.size ∧ xs.length ≤ C ∧
        (∀ k c, k < xs.length → T k c → β.own c = some i) ∧ (∀ j k c, j < xs.length → k < xs.length → T j c → T k c → j = k) ∧
        ∀ k (hk : k < xs.length), (css k).length = t.size ∧ (∀ (j : Nat) (v : Value), (css k)[j]? = some v → cs[k * t.size + j]? = some v) ∧ RepO w t xs[k] (css k) (T k))
  | .dead _ => β i = none

def Blk.isTree : Blk → Bool
  | .tree _ _ _ => true
  | _ => false

def MarkAt (E : Ent) (A : Nat → Prop) (w : World) (d : Deferred) : Prop :=
  ∃ D, d = { target := .collected D, args := #[] } ∧ A D ∧ E.w0.heap.size ≤ D ∧ E.obj D = none ∧ w.heap[D]? = some (.deferred (some []))

structure Marks (E : Ent) (A : Nat → Prop) (w : World) (ds : List Deferred) : Prop where
  each : ∀ d ∈ ds, MarkAt E A w d
  nodup : ds.Nodup
  objs : ∀ b o, E.obj b = some o → (A b ∧ E.w0.heap.size ≤ b) ∧ w.heap[b]? = some o

theorem Marks.mono {E : Ent} {A A' : Nat → Prop} {w w' : World} {ds : List Deferred} (h : Marks E A w ds) (hA : ∀ b, A b → A' b ∧ w'.heap[b]? = w.heap[b]?) : Marks E A' w' ds where
  each d hd := by
    obtain ⟨D, h1, h2, hw, h3, h4⟩ := h.each d hd; exact ⟨D, h1, (hA D h2).1, hw, h3, (hA D h2).2.trans h4⟩
  nodup := h.nodup
  objs b o e := ⟨⟨(hA b (h.objs b o e).1.1).1, (h.objs b o e).1.2⟩, (hA b (h.objs b o e).1.1).2.trans (h.objs b o e).2⟩

structure SimB (E : Ent) (N : Nat) (env : Nat → SV) (mem : Nat → Option Blk) (a : Act) (w : World) (β : Bind) : Prop where
  defers : Marks E (allow E w β) w a.defers
  size : a.tmps.size = N
  hN : N ≤ OFF
  os : w.os = E.w0.os
  tape : w.tape = E.w0.tape
  output : w.output = E.w0.output ∧ U.dr E.w0.drawn ≤ U.dr w.drawn
  grow : E.w0.heap.size ≤ w.heap.size
  old : ∀ b, b < E.w0.heap.size → b ∉ E.bs → w.heap[b]? = E.w0.heap[b]?
  dom : ∀ i b C, β i = some (b, C) → (∃ k, mem i = some k ∧ (b ∈ E.bs → k.isBox = true)) ∧ b < w.heap.size ∧ (b ∈ E.bs ∨ E.w0.heap.size ≤ b)
  inj : ∀ i j b C D, β i = some (b, C) → β j = some (b, D) → i = j
  own : ∀ b i, β.own b = some i → (∃ k, mem i = some k ∧ k.isTree = true) ∧ b < w.heap.size ∧ E.w0.heap.size ≤ b ∧ ∀ j C, β j ≠ some (b, C)
  blk : ∀ i k, mem i = some k → RepBlk (allow E w β) w β mem i k
  slot : ∀ s, RepSV (allow E w β) w β mem (env s) (slotV E a s)
  par : ∀ i c, mem i = some (.box 0 c) → ∃ b C, E.par i = some b ∧ β i = some (b, C)

def Sim (E : Ent) (N : Nat) (env : Nat → SV) (mem : Nat → Option Blk) (a : Act) (w : World) : Prop := ∃ β, SimB E N env mem a w β

omit U in
theorem upd_same {α : Type} (f : Nat → α) (d : Nat) (v : α) : upd f d v d = v := by simp [upd]
omit U in
theorem upd_ne {α : Type} (f : Nat → α) {d i : Nat} (v : α) (h : i ≠ d) : upd f d v i = f i := by
  (have : Nat.beq i d = false := by rw [Bool.eq_false_iff]; intro e; exact h (Nat.eq_of_beq_eq_true e)); simp [upd, this]

theorem Bind.set_same (β : Bind) (id : Nat) (bc : Option (Nat × Nat)) : (β.set id bc) id = bc := upd_same _ _ _
theorem Bind.set_ne (β : Bind) {id i : Nat} (bc : Option (Nat × Nat)) (h : i ≠ id) : (β.set id bc) i = β i := upd_ne _ _ h
theorem Bind.set_own (β : Bind) (id : Nat) (bc : Option (Nat × Nat)) (b : Nat) : (β.set id bc).own b = if β.own b = some id then none else β.own b := rfl
theorem Bind.set_own_some {β : Bind} {id : Nat} {bc : Option (Nat × Nat)} {b i : Nat} (h : (β.set id bc).own b = some i) : β.own b = some i ∧ i ≠ id := by
  rw [Bind.set_own] at h; split at h
  · cases h
  · rename_i hne; exact ⟨h, fun e => hne (by rw [h, e])⟩
theorem Bind.set_own_none {β : Bind} {id : Nat} {bc : Option (Nat × Nat)} {b : Nat} (h : β.own b = none) : (β.set id bc).own b = none := by
  rw [Bind.set_own, h]; simp

end Go.Am
