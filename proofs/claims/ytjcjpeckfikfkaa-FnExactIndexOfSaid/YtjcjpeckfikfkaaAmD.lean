/-
  Am, part D: operations that write nothing.
-/
import Derived.Test.YtjcjpeckfikfkaaAmB
import Derived.Laws.StructEq
set_option linter.all false
namespace Go.Am
structure Bind where
  m : Nat → Option (Nat × Nat)
  own : Nat → Option Nat

instance : CoeFun Bind (fun _ => Nat → Option (Nat × Nat)) := ⟨Bind.m⟩

def Bind.set (β : Bind) (id : Nat) (bc : Option (Nat × Nat)) : Bind := ⟨upd β.m id bc, fun b => if β.own b = some id then none else β.own b⟩

variable [U : Univ]

inductive RepV (A : Nat → Prop) (w : World) : (t : Ty) → t.den → Value → Prop
  | agg (n : Nat) (x : U.R n) (cs : List Value) (h : RepC A w (.named n) x cs) : RepV A w (.named n) x (.agg cs.toArray)
  | one (t : Ty) (x : t.den) (v : Value) (ht : ∀ n, t ≠ .named n) (h : RepC A w t x [v]) : RepV A w t x v

theorem RepV.mono {A A' : Nat → Prop} {w w' : World} (hA : ∀ b, A b → A' b ∧ w'.heap[b]? = w.heap[b]?) {t : Ty} {x : t.den} {v : Value}
    (h : RepV A w t x v) : RepV A' w' t x v := by
  cases h with
  | agg n x cs h => exact .agg n x cs (h.mono hA)
  | one t x v ht h => exact .one t x v ht (h.mono hA)

theorem RepV.flat {A A' : Nat → Prop} {w w' : World} {f : Nat} {t : Ty} {x : t.den} {v : Value} (ht : t.flatN f = true)
    (h : RepV A w t x v) : RepV A' w' t x v := by
  cases h with
  | agg n x cs h => exact .agg n x cs (h.flat f ht)
  | one t x v h' h => exact .one t x v h' (h.flat f ht)

def SliceAt (bc : Option (Nat × Nat)) (sz off len : Nat) (v : Value) : Prop :=
  match bc with
  | none => off = 0 ∧ len = 0 ∧ v = .slice none 0 0
  | some (b, C) => ∃ a, v = .slice (some a) len (C - off) ∧ off + len ≤ C ∧ (off = 0 ∨ off < C → a = ⟨b, off * sz, none⟩)

inductive TreeAt : Option Blk → Nat → (t : Ty) → List t.den → Prop
  | tree (ep : Nat) (t : Ty) (xs : List t.den) : TreeAt (some (.tree ep t xs)) ep t xs
  | hole (ep : Nat) (t : Ty) (xs : List t.den) (hs : List Nat) (o : Option (Nat → List Value)) : TreeAt (some (.hole ep t xs hs o)) ep t xs

theorem TreeAt.of {b : Option Blk} {ep : Nat} {t : Ty} {xs : List t.den} (h : b = some (.tree ep t xs)) : TreeAt b ep t xs := h ▸ .tree ep t xs
theorem TreeAt.ofH {b : Option Blk} {ep : Nat} {t : Ty} {xs : List t.den} {hs : List Nat} {o : Option (Nat → List Value)} (h : b = some (.hole ep t xs hs o)) : TreeAt b ep t xs := h ▸ .hole ep t xs hs o
theorem TreeAt.atH {ep ep' : Nat} {t u : Ty} {xs : List t.den} {ys : List u.den} {hs : List Nat} {o : Option (Nat → List Value)} (h : TreeAt (some (.hole ep' u ys hs o)) ep t xs) : some (Blk.tree ep' u ys) = some (.tree ep t xs) := by cases h; rfl
theorem TreeAt.inv {b : Option Blk} {ep : Nat} {t : Ty} {xs : List t.den} (h : TreeAt b ep t xs) : b = some (.tree ep t xs) ∨ ∃ hs o, b = some (.hole ep t xs hs o) := by
  cases h with
  | tree => exact .inl rfl
  | hole _ _ _ hs o => exact .inr ⟨hs, o, rfl⟩
theorem TreeAt.at {ep ep' : Nat} {t u : Ty} {xs : List t.den} {ys : List u.den} (h : TreeAt (some (.tree ep' u ys)) ep t xs) : some (Blk.tree ep' u ys) = some (.tree ep t xs) := by cases h; rfl

inductive RepSV (A : Nat → Prop) (w : World) (β : Bind) (mem : Nat → Option Blk) : SV → Value → Prop
  | top (v : Value) : RepSV A w β mem .top v
  | int (k : IntKind) (n : Int) (lo : k.min ≤ n) (hi : n ≤ k.max) : RepSV A w β mem (.int k n) (.int k n)
  | bool (b : Bool) : RepSV A w β mem (.bool b) (.bool b)
  | str (s : ByteArray) (h : (s.size : Int) ≤ lim) : RepSV A w β mem (.str s) (.string s)
  | data (t : Ty) (x : t.den) (v : Value) (h : RepV A w t x v) : RepSV A w β mem (.data t x) v
  | nilsl : RepSV A w β mem .nilsl (.slice none 0 0)
  | nilptr : RepSV A w β mem .nilptr (.pointer none)
  | err0 : RepSV A w β mem (.err false) .nilIface
  | err1 (T : TypeId) (v : Value) : RepSV A w β mem (.err true) (.iface T v)
  | el (id i : Nat) (cs : List Value) : RepSV A w β mem (.el id i cs) (.agg cs.toArray)
  | mp (id ep b : Nat) (hm : ∃ k, mem id = some k ∧ ep ≤ k.ep) (h : ∀ l, mem id = some (.mp ep l) → ∃ C, β id = some (b, C)) : RepSV A w β mem (.mp id ep) (.map (some b))
  | arr (id ep : Nat) (v : Value) (hm : ∃ k, mem id = some k ∧ ep ≤ k.ep) (h1 : v.oneCell' = true)
      (h : ∀ t xs, mem id = some (.arr ep t xs) → SliceAt (β id) t.size 0 xs.length v) : RepSV A w β mem (.arr id ep) v
  | sub (id ep off len : Nat) (v : Value) (hm : ∃ k, mem id = some k ∧ ep ≤ k.ep) (h1 : v.oneCell' = true)
      (h : ∀ t xs, mem id = some (.arr ep t xs) → off + len ≤ xs.length ∧ SliceAt (β id) t.size off len v) : RepSV A w β mem (.sub id ep off len) v
  | ref (id ep off b : Nat) (hm : ∃ k, mem id = some k ∧ ep ≤ k.ep)
      (h : ∀ cells, mem id = some (.box ep cells) → ∃ C, β id = some (b, C)) : RepSV A w β mem (.ref id ep off) (.pointer (some ⟨b, off, none⟩))
  | bsl (id ep off len b cap : Nat) (hle : len ≤ cap) (hm : ∃ k, mem id = some k ∧ ep ≤ k.ep)
      (h : ∀ cells, mem id = some (.box ep cells) → ∃ C, β id = some (b, C)) : RepSV A w β mem (.bsl id ep off len) (.slice (some ⟨b, off, none⟩) len cap)
  | eref (id ep i : Nat) (p : List Nat) (b o : Nat) (hm : ∃ k, mem id = some k ∧ ep ≤ k.ep)
      (h : ∀ t xs, mem id = some (.arr ep t xs) → i < xs.length ∧ ∃ C q u, β id = some (b, C) ∧ pathOff t p = some (q, u) ∧ o = i * t.size + q) :
      RepSV A w β mem (.eref id ep i p) (.pointer (some ⟨b, o, none⟩))
  | tr (id ep : Nat) (v : Value) (hm : ∃ k, mem id = some k ∧ ep ≤ k.ep) (h1 : v.oneCell' = true)
      (h : ∀ t xs, TreeAt (mem id) ep t xs → SliceAt (β id) t.size 0 xs.length v) : RepSV A w β mem (.tr id ep) v
  | tref (id ep i : Nat) (p : List Nat) (b o : Nat) (hm : ∃ k, mem id = some k ∧ ep ≤ k.ep)
      (h : ∀ t xs, TreeAt (mem id) ep t xs → i < xs.length ∧ ∃ C q u, β id = some (b, C) ∧ pathOff t p = some (q, u) ∧ o = i * t.size + q) :
      RepSV A w β mem (.tref id ep i p) (.pointer (some ⟨b, o, none⟩))
  | dref (t : Ty) (x : t.den) (b off : Nat) (cs : List Value) (hA : A b) (hc : ∀ (j : Nat) (v : Value), cs[j]? = some v → w.cell? ⟨b, off + j, none⟩ = some v)
      (h : RepC A w t x cs) : RepSV A w β mem (.dref t x) (.pointer (some ⟨b, off, none⟩))
  | agg (l : List SV) (vs : List Value) (hl : l.length = vs.length) (h1 : ∀ v ∈ vs, v.oneCell' = true)
      (h : ∀ (i : Nat) (sv : SV) (v : Value), l[i]? = some sv → vs[i]? = some v → RepSV A w β mem sv v) : RepSV A w β mem (.agg l) (.agg vs.toArray)
  | tup (l : List SV) (vs : List Value) (hl : l.length = vs.length)
      (h : ∀ (i : Nat) (sv : SV) (v : Value), l[i]? = some sv → vs[i]? = some v → RepSV A w β mem sv v) : RepSV A w β mem (.tup l) (.tuple vs.toArray)
  | clo (f : Nat) (l : List SV) (vs : List Value) (hl : l.length = vs.length)
      (h : ∀ (i : Nat) (sv : SV) (v : Value), l[i]? = some sv → vs[i]? = some v → RepSV A w β mem sv v) : RepSV A w β mem (.clo f l) (.func (.func f) #[] vs.toArray)
  | cnd (p : Prop) (sv : SV) (v : Value) (h : p → RepSV A w β mem sv v) (h' : ¬ p → v = undef) : RepSV A w β mem (.cnd p sv) v

def Blk.alike : Blk → Blk → Prop
  | .box _ _, .box _ _ => True
  | .arr _ t xs, .arr _ u ys => t = u ∧ xs.length = ys.length
  | .tree _ t xs, .tree _ u ys => t = u ∧ xs.length = ys.length
  | .dead _, .dead _ => True
  | .mp _ _, .mp _ _ => True
  | .hole _ t xs _ _, .hole _ u ys _ _ => t = u ∧ xs.length = ys.length
  | .tree _ t xs, .hole _ u ys _ _ => t = u ∧ xs.length = ys.length
  | .hole _ t xs _ _, .tree _ u ys => t = u ∧ xs.length = ys.length
  | _, _ => False

theorem Blk.alike_refl (k : Blk) : k.alike k := by cases k <;> simp [Blk.alike]

theorem RepSV.mono {A A' : Nat → Prop} {w w' : World} {β β' : Bind} {mem mem' : Nat → Option Blk}
    (hA : ∀ b, A b → A' b ∧ w'.heap[b]? = w.heap[b]?)
    (hm : ∀ i k, mem i = some k → ∃ k', mem' i = some k' ∧ k.ep ≤ k'.ep ∧ (k.ep = k'.ep → k.alike k' ∧ β' i = β i))
    {sv : SV} {v : Value} (h : RepSV A w β mem sv v) : RepSV A' w' β' mem' sv v := by
  have up : ∀ (id ep : Nat), (∃ k, mem id = some k ∧ ep ≤ k.ep) → ∃ k, mem' id = some k ∧ ep ≤ k.ep := by
    rintro id ep ⟨k, hk, hle⟩; obtain ⟨k', hk', hle', _⟩ := hm id k hk; exact ⟨k', hk', Nat.le_trans hle hle'⟩
  have back : ∀ (id ep : Nat) (k' : Blk), (∃ k, mem id = some k ∧ ep ≤ k.ep) → mem' id = some k' → k'.ep = ep →
      ∃ k, mem id = some k ∧ k.ep = ep ∧ k.alike k' ∧ β' id = β id := by
    rintro id ep k' ⟨k, hk, hle⟩ hk' he; obtain ⟨k'', hk'', hle', hal⟩ := hm id k hk; rw [hk'] at hk''; obtain rfl := Option.some.inj hk''; (have : k.ep = k'.ep := by omega); exact ⟨k, hk, by omega, hal this⟩
  induction h with
  | top v => exact .top v
  | int k n lo hi => exact .int k n lo hi
  | bool b => exact .bool b
  | str s h => exact .str s h
  | data t x v h => exact .data t x v (h.mono hA)
  | nilsl => exact .nilsl
  | nilptr => exact .nilptr
  | err0 => exact .err0
  | err1 T v => exact .err1 T v
  | el id i cs => exact .el id i cs
  | mp id ep b hx h =>
    refine .mp id ep b (up _ _ hx) fun l hxs => ?_; obtain ⟨k, hk, he, hal, hb⟩ := back id ep _ hx hxs rfl
    cases k with
    | mp e l' =>
      simp only [Blk.ep] at he; subst he; rw [hb]; exact h _ hk
    | hole => simp [Blk.alike] at hal
    | box => simp [Blk.alike] at hal
    | arr => simp [Blk.alike] at hal
    | tree => simp [Blk.alike] at hal
    | dead => simp [Blk.alike] at hal
  | arr id ep v hx h1 h =>
    refine .arr id ep v (up _ _ hx) h1 fun t xs hxs => ?_; obtain ⟨k, hk, he, hal, hb⟩ := back id ep _ hx hxs rfl
    cases k with
    | arr e u ys =>
      simp only [Blk.ep] at he; subst he; obtain ⟨rfl, hl⟩ := hal; rw [hb, ← hl]; exact h _ _ hk
    | box => simp [Blk.alike] at hal
    | tree => simp [Blk.alike] at hal
    | dead => simp [Blk.alike] at hal
    | mp => simp [Blk.alike] at hal
    | hole => simp [Blk.alike] at hal
  | sub id ep off len v hx h1 h =>
    refine .sub id ep off len v (up _ _ hx) h1 fun t xs hxs => ?_; obtain ⟨k, hk, he, hal, hb⟩ := back id ep _ hx hxs rfl
    cases k with
    | arr e u ys =>
      simp only [Blk.ep] at he; subst he; obtain ⟨rfl, hl⟩ := hal; rw [hb, ← hl]; exact h _ _ hk
    | box => simp [Blk.alike] at hal
    | tree => simp [Blk.alike] at hal
    | dead => simp [Blk.alike] at hal
    | mp => simp [Blk.alike] at hal
    | hole => simp [Blk.alike] at hal
  | ref id ep off b hx h =>
    refine .ref id ep off b (up _ _ hx) fun cells hxs => ?_; obtain ⟨k, hk, he, hal, hb⟩ := back id ep _ hx hxs rfl
    cases k with
    | box e c =>
      simp only [Blk.ep] at he; subst he; rw [hb]; exact h _ hk
    | arr => simp [Blk.alike] at hal
    | tree => simp [Blk.alike] at hal
    | dead => simp [Blk.alike] at hal
    | mp => simp [Blk.alike] at hal
    | hole => simp [Blk.alike] at hal
  | bsl id ep off len b cap hle hx h =>
    refine .bsl id ep off len b cap hle (up _ _ hx) fun cells hxs => ?_; obtain ⟨k, hk, he, hal, hb⟩ := back id ep _ hx hxs rfl
    cases k with
    | box e c =>
      simp only [Blk.ep] at he; subst he; rw [hb]; exact h _ hk
    | arr => simp [Blk.alike] at hal
    | tree => simp [Blk.alike] at hal
    | dead => simp [Blk.alike] at hal
    | mp => simp [Blk.alike] at hal
    | hole => simp [Blk.alike] at hal
  | eref id ep i p b o hx h =>
    refine .eref id ep i p b o (up _ _ hx) fun t xs hxs => ?_; obtain ⟨k, hk, he, hal, hb⟩ := back id ep _ hx hxs rfl
    cases k with
    | arr e u ys =>
      simp only [Blk.ep] at he; subst he; obtain ⟨rfl, hl⟩ := hal; rw [hb, ← hl]; exact h _ _ hk
    | box => simp [Blk.alike] at hal
    | tree => simp [Blk.alike] at hal
    | dead => simp [Blk.alike] at hal
    | mp => simp [Blk.alike] at hal
    | hole => simp [Blk.alike] at hal
  | tr id ep v hx h1 h =>
    refine .tr id ep v (up _ _ hx) h1 fun t xs hxs => ?_; rcases hxs.inv with hxs | ⟨hs, o, hxs⟩
    · obtain ⟨k, hk, he, hal, hb⟩ := back id ep _ hx hxs rfl
      cases k with
      | tree e u ys =>
        simp only [Blk.ep] at he; subst he; obtain ⟨rfl, hl⟩ := hal; rw [hb, ← hl]; exact h _ _ (.of hk)
      | hole e u ys hs' o' =>
        simp only [Blk.ep] at he; subst he; obtain ⟨rfl, hl⟩ := hal; rw [hb, ← hl]; exact h _ _ (.ofH hk)
      | box => simp [Blk.alike] at hal
      | arr => simp [Blk.alike] at hal
      | dead => simp [Blk.alike] at hal
      | mp => simp [Blk.alike] at hal
    · obtain ⟨k, hk, he, hal, hb⟩ := back id ep _ hx hxs rfl
      cases k with
      | tree e u ys =>
        simp only [Blk.ep] at he; subst he; obtain ⟨rfl, hl⟩ := hal; rw [hb, ← hl]; exact h _ _ (.of hk)
      | hole e u ys hs' o' =>
        simp only [Blk.ep] at he; subst he; obtain ⟨rfl, hl⟩ := hal; rw [hb, ← hl]; exact h _ _ (.ofH hk)
      | box => simp [Blk.alike] at hal
      | arr => simp [Blk.alike] at hal
      | dead => simp [Blk.alike] at hal
      | mp => simp [Blk.alike] at hal
  | tref id ep i p b o hx h =>
    refine .tref id ep i p b o (up _ _ hx) fun t xs hxs => ?_; rcases hxs.inv with hxs | ⟨hs, o, hxs⟩
    · obtain ⟨k, hk, he, hal, hb⟩ := back id ep _ hx hxs rfl
      cases k with
      | tree e u ys =>
        simp only [Blk.ep] at he; subst he; obtain ⟨rfl, hl⟩ := hal; rw [hb, ← hl]; exact h _ _ (.of hk)
      | hole e u ys hs' o' =>
        simp only [Blk.ep] at he; subst he; obtain ⟨rfl, hl⟩ := hal; rw [hb, ← hl]; exact h _ _ (.ofH hk)
      | box => simp [Blk.alike] at hal
      | arr => simp [Blk.alike] at hal
      | dead => simp [Blk.alike] at hal
      | mp => simp [Blk.alike] at hal
    · obtain ⟨k, hk, he, hal, hb⟩ := back id ep _ hx hxs rfl
      cases k with
      | tree e u ys =>
        simp only [Blk.ep] at he; subst he; obtain ⟨rfl, hl⟩ := hal; rw [hb, ← hl]; exact h _ _ (.of hk)
      | hole e u ys hs' o' =>
        simp only [Blk.ep] at he; subst he; obtain ⟨rfl, hl⟩ := hal; rw [hb, ← hl]; exact h _ _ (.ofH hk)
      | box => simp [Blk.alike] at hal
      | arr => simp [Blk.alike] at hal
      | dead => simp [Blk.alike] at hal
      | mp => simp [Blk.alike] at hal
  | dref t x b off cs hb hc h =>
    exact .dref t x b off cs (hA b hb).1 (fun j v hj => by
      rw [World.cell?_eq_of_heap (w := w)]
      · exact hc j v hj
      · exact (hA b hb).2) (h.mono hA)
  | agg l vs hl h1 _ ih => exact .agg l vs hl h1 ih
  | tup l vs hl _ ih => exact .tup l vs hl ih
  | clo f l vs hl _ ih => exact .clo f l vs hl ih
  | cnd p sv v _ h' ih => exact .cnd p sv v ih h'

structure Ent where
  w0 : World
  A0 : Nat → Prop
  bs : List Nat
  wf : ∀ b, A0 b → b < w0.heap.size ∧ b ∉ bs
  wb : ∀ b, b ∈ bs → b < w0.heap.size
  lay : Laid w0 bs
  par : Nat → Option Nat
  outer : Nat → Value := fun _ => undef
  ro : Option Nat := none
  obj : Nat → Option Obj := fun _ => none

def Ent.fence (E : Ent) : Fence := { Fence.wide with round := E.ro }

def slotV (E : Ent) (a : Act) (s : Nat) : Value := if s < OFF then a.tmps.getD s undef else E.outer s

def allow (E : Ent) (w : World) (β : Bind) (b : Nat) : Prop :=
  b < w.heap.size ∧ (E.A0 b ∨ E.w0.heap.size ≤ b) ∧ (∀ i C, β i ≠ some (b, C)) ∧ β.own b = none

def RepBlk (A : Nat → Prop) (w : World) (β : Bind) (mem : Nat → Option Blk) (i : Nat) : Blk → Prop
  | .box _ cells => ∃ (b C : Nat) (cs : Array Value) (el : Nat), β i = some (b, C) ∧ w.heap[b]? = some (.cells cs el (0, 0)) ∧ cs.size = cells.length ∧
      ∀ (j : Nat) (sv : SV), cells[j]? = some sv → ∃ v, cs[j]? = some v ∧ v.oneCell' = true ∧ RepSV A w β mem sv v
  | .arr _ t xs => (xs.length : Int) ≤ 4294967296 ∧ ((β i = none ∧ xs = []) ∨
      ∃ (b C : Nat) (cs : Array Value) (el : Nat) (css : Nat → List Value), β i = some (b, C) ∧ w.heap[b]? = some (.cells cs el (0, 0)) ∧ cs.size = C * t.size ∧ xs.length ≤ C ∧
        ∀ k (hk : k < xs.length), (css k).length = t.size ∧ (∀ (j : Nat) (v : Value), (css k)[j]? = some v → cs[k * t.size + j]? = some v) ∧ RepC A w t xs[k] (css k))
  | .tree _ t xs => (xs.length : Int) ≤ 4294967296 ∧ ((β i = none ∧ xs = []) ∨
      ∃ (b C : Nat) (cs : Array Value) (el : Nat) (css : Nat → List Value) (T : Nat → Nat → Prop), β i = some (b, C) ∧ w.heap[b]? = some (.cells cs el (0, 0)) ∧ cs.size = C * t.size ∧ xs.length ≤ C ∧
        (∀ k c, k < xs.length → T k c → β.own c = some i) ∧ (∀ j k c, j < xs.length → k < xs.length → T j c → T k c → j = k) ∧
        ∀ k (hk : k < xs.length), (css k).length = t.size ∧ (∀ (j : Nat) (v : Value), (css k)[j]? = some v → cs[k * t.size + j]? = some v) ∧ RepO w t xs[k] (css k) (T k))
  | .dead _ => β i = none
  | .hole _ t xs hs o => (xs.length : Int) ≤ 4294967296 ∧
      ∃ (b C : Nat) (cs : Array Value) (el : Nat) (css : Nat → List Value) (T : Nat → Nat → Prop), β i = some (b, C) ∧ w.heap[b]? = some (.cells cs el (0, 0)) ∧ cs.size = C * t.size ∧ xs.length ≤ C ∧
        ((∀ f, o = some f → ∀ k, k < xs.length → css k = f k) ∧ ∀ k v, k < xs.length → v ∈ css k → v.oneCell' = true) ∧ (∀ k c, k < xs.length → k ∉ hs → T k c → β.own c = some i) ∧ (∀ j k c, j < xs.length → k < xs.length → j ∉ hs → k ∉ hs → T j c → T k c → j = k) ∧
        ∀ k (hk : k < xs.length), (css k).length = t.size ∧ (∀ (j : Nat) (v : Value), (css k)[j]? = some v → cs[k * t.size + j]? = some v) ∧ (k ∉ hs → RepO w t xs[k] (css k) (T k))
  | .mp _ l => ∃ (b C : Nat) (es : Array MapEntry) (clk : Nat), β i = some (b, C) ∧ w.heap[b]? = some (.map es clk) ∧ es.toList.map (fun e => (e.key, e.val)) = l.map (fun p => (Value.int .i64 p.1, Value.int .i64 p.2)) ∧ ∀ p ∈ l, inR .i64 p.1 ∧ inR .i64 p.2

def Blk.isTree : Blk → Bool
  | .tree _ _ _ => true
  | .hole _ _ _ _ _ => true
  | _ => false

def MarkAt (E : Ent) (A : Nat → Prop) (w : World) (d : Deferred) : Prop :=
  ∃ D, d = { target := .collected D, args := #[] } ∧ A D ∧ E.w0.heap.size ≤ D ∧ E.obj D = none ∧ w.heap[D]? = some (.deferred (some []))

structure Marks (E : Ent) (A : Nat → Prop) (w : World) (ds : List Deferred) : Prop where
  each : ∀ d ∈ ds, MarkAt E A w d
  nodup : ds.Nodup
  objs : ∀ b o, E.obj b = some o → (A b ∧ E.w0.heap.size ≤ b) ∧ w.heap[b]? = some o

theorem Marks.mono {E : Ent} {A A' : Nat → Prop} {w w' : World} {ds : List Deferred} (h : Marks E A w ds) (hA : ∀ b, A b → A' b ∧ w'.heap[b]? = w.heap[b]?) : Marks E A' w' ds where
  each d hd := by
    obtain ⟨D, h1, h2, hw, h3, h4⟩ := h.each d hd; exact ⟨D, h1, (hA D h2).1, hw, h3, (hA D h2).2.trans h4⟩
  nodup := h.nodup
  objs b o e := ⟨⟨(hA b (h.objs b o e).1.1).1, (h.objs b o e).1.2⟩, (hA b (h.objs b o e).1.1).2.trans (h.objs b o e).2⟩

structure SimB (E : Ent) (N : Nat) (env : Nat → SV) (mem : Nat → Option Blk) (a : Act) (w : World) (β : Bind) : Prop where
  defers : Marks E (allow E w β) w a.defers
  size : a.tmps.size = N
  hN : N ≤ OFF
  os : w.os = E.w0.os
  tape : w.tape = E.w0.tape
  output : w.output = E.w0.output ∧ U.dr E.w0.drawn ≤ U.dr w.drawn
  grow : E.w0.heap.size ≤ w.heap.size
  old : ∀ b, b < E.w0.heap.size → b ∉ E.bs → w.heap[b]? = E.w0.heap[b]?
  dom : ∀ i b C, β i = some (b, C) → (∃ k, mem i = some k ∧ (b ∈ E.bs → k.isBox = true)) ∧ b < w.heap.size ∧ (b ∈ E.bs ∨ E.w0.heap.size ≤ b)
  inj : ∀ i j b C D, β i = some (b, C) → β j = some (b, D) → i = j
  own : ∀ b i, β.own b = some i → (∃ k, mem i = some k ∧ k.isTree = true) ∧ b < w.heap.size ∧ E.w0.heap.size ≤ b ∧ ∀ j C, β j ≠ some (b, C)
  blk : ∀ i k, mem i = some k → RepBlk (allow E w β) w β mem i k
  slot : ∀ s, RepSV (allow E w β) w β mem (env s) (slotV E a s)
  par : ∀ i c, mem i = some (.box 0 c) → ∃ b C, E.par i = some b ∧ β i = some (b, C)

def Sim (E : Ent) (N : Nat) (env : Nat → SV) (mem : Nat → Option Blk) (a : Act) (w : World) : Prop := ∃ β, SimB E N env mem a w β

omit U in
theorem upd_same {α : Type} (f : Nat → α) (d : Nat) (v : α) : upd f d v d = v := by simp [upd]
omit U in
theorem upd_ne {α : Type} (f : Nat → α) {d i : Nat} (v : α) (h : i ≠ d) : upd f d v i = f i := by
  (have : Nat.beq i d = false := by rw [Bool.eq_false_iff]; intro e; exact h (Nat.eq_of_beq_eq_true e)); simp [upd, this]

theorem Bind.set_same (β : Bind) (id : Nat) (bc : Option (Nat × Nat)) : (β.set id bc) id = bc := upd_same _ _ _
theorem Bind.set_ne (β : Bind) {id i : Nat} (bc : Option (Nat × Nat)) (h : i ≠ id) : (β.set id bc) i = β i := upd_ne _ _ h
theorem Bind.set_own (β : Bind) (id : Nat) (bc : Option (Nat × Nat)) (b : Nat) : (β.set id bc).own b = if β.own b = some id then none else β.own b := rfl
theorem Bind.set_own_some {β : Bind} {id : Nat} {bc : Option (Nat × Nat)} {b i : Nat} (h : (β.set id bc).own b = some i) : β.own b = some i ∧ i ≠ id := by
  rw [Bind.set_own] at h; split at h
  · cases h
  · rename_i hne; exact ⟨h, fun e => hne (by rw [h, e])⟩
theorem Bind.set_own_none {β : Bind} {id : Nat} {bc : Option (Nat × Nat)} {b : Nat} (h : β.own b = none) : (β.set id bc).own b = none := by
  rw [Bind.set_own, h]; simp

end Go.Am


namespace Go.Am
open List
variable [U : Univ]

omit U in
theorem wrap_in {k : IntKind} {n : Int} (h : inR k n) : k.wrap n = n := by
  obtain ⟨h1, h2⟩ := h; cases k <;> simp [IntKind.min, IntKind.max, IntKind.wrap, IntKind.bits, IntKind.signed] at * <;> omega

omit U in
theorem wrap_range (k : IntKind) (n : Int) : inR k (k.wrap n) := by
  unfold inR; cases k <;> simp [IntKind.min, IntKind.max, IntKind.wrap, IntKind.bits, IntKind.signed] <;> omega

omit U in
theorem bits_range (op : BinOp) (k : IntKind) (a b : Int) : inR k (bits op k a b) := by
  unfold bits; exact wrap_range _ _

theorem Rd.eval_bind {α β : Type} (m : Nat → Option Blk) (x : Rd α) (f : α → Rd β) : (x.bind f).eval m = (x.eval m).bind fun y => (f y).eval m := by
  induction x with
  | ret a => rfl
  | fail => rfl
  | mem i k ih => simp only [Rd.bind, Rd.eval]; exact ih _

theorem Rd.bind_some {α β : Type} {m : Nat → Option Blk} {x : Rd α} {f : α → Rd β} {r : β} (h : (x.bind f).eval m = some r) :
    ∃ y, x.eval m = some y ∧ (f y).eval m = some r := by
  rw [Rd.eval_bind] at h; exact Option.bind_eq_some_iff.1 h

theorem Rd.mem_some {α : Type} {m : Nat → Option Blk} {i : Nat} {k : Option Blk → Rd α} {r : α} (h : (Rd.mem i k).eval m = some r) : (k (m i)).eval m = some r := h

theorem Rd.opt_some {α : Type} {m : Nat → Option Blk} {x : Option α} {r : α} (h : (Rd.opt x).eval m = some r) : x = some r := by
  cases x with
  | some a => simpa [Rd.opt, Rd.eval] using h
  | none => simp [Rd.opt, Rd.eval] at h

def zeroCells : Nat → Ty → List Value
  | _, .int k => [.int k 0]
  | _, .bool => [.bool false]
  | _, .str => [.string ByteArray.empty]
  | _, .slice _ => [.slice none 0 0]
  | f + 1, .named n => (U.tys n).flatMap (zeroCells f)
  | 0, .named _ => []

structure ArrAt (P : Program) (C : Ctx) (T e n : Nat) : Prop where
  pos : 1 ≤ n ∧ n ≤ 4096
  und : P.underlying T = some (.array n e)
  zero : ∃ i z, P.info? T = some i ∧ i.zero = some z ∧ ∀ t, C.ty e = some t → z.cells.toList = (List.replicate n (zeroCells fuel t)).flatten

structure TyOK (P : Program) (C : Ctx) (T : Nat) (t : Ty) : Prop where
  info : ∃ i z, P.info? T = some i ∧ i.size = t.size ∧ i.size ≤ 4096 ∧ i.bytes ≤ 4096 ∧ i.zero = some z ∧ ∀ A w, RepV A w t t.zero z
  und : match t with
    | .int k => P.underlying T = some (.int k)
    | .bool => P.underlying T = some .bool
    | .str => P.underlying T = some .string
    | .slice e => ∃ E, P.underlying T = some (.slice E) ∧ C.ty E = some e
    | .named n => ∃ fs, P.underlying T = some (.struct fs) ∧ fs.size = (U.tys n).length ∧ ∀ f t, (U.tys n)[f]? = some t → ∃ fd, fs[f]? = some fd ∧ C.ty fd.type = some t ∧ fd.offset = offsetOf n f
  zc : ∀ i z, P.info? T = some i → i.zero = some z → z.cells.toList = zeroCells fuel t
  eqs : match t with
    | .named n => U.cmp n = true → P.stoodInHeld T = false ∧ P.eqGuardType P.depth T = false ∧ ((P.fieldsOf T).toList.all fun f => f.name != "_") = true
    | _ => True
  arrs : ∀ B n, findA B U.arrs = some (T, n) → ArrAt P C B T n
  ptrs : ∀ B, findP B U.ptrs = some T → ∃ X, P.underlying B = some (.pointer X)
  ifcs : ∀ B, findP B U.ifcs = some T → ∃ X, P.underlying B = some (.interface X)
  maps : ∀ B, findP B U.maps = some T → P.underlying B = some (.map T T)

def CtxTy (P : Program) (C : Ctx) : Prop := ∀ T t, C.ty T = some t → TyOK P C T t

section
variable {E : Ent} {N : Nat} {env : Nat → SV} {mem : Nat → Option Blk} {a : Act} {w : World} {β : Bind} {P : Program} {C : Ctx}

theorem constSV_rep {A : Nat → Prop} (v : Value) : RepSV A w β mem (constSV v) v := by
  unfold constSV; split
  · split
    · rename_i h; exact .int _ _ h.1 h.2
    · exact .top _
  · exact .bool _
  · split
    · rename_i h; exact .str _ h
    · exact .top _
  · exact .nilsl
  · exact .nilptr
  · exact .err0
  · exact .top _

theorem SimB.peek (h : SimB E N env mem a w β) (t : Nat) : RepSV (allow E w β) w β mem (peek env t) (a.tmps.getD t undef) := by
  unfold Am.peek
  cases hb : Nat.blt t OFF with
  | false => exact .top _
  | true =>
    have hlt : t < OFF := Nat.le_of_ble_eq_true hb; have := h.slot t
    unfold slotV at this
    rw [if_pos hlt] at this
    exact this

theorem opv_rep (h : SimB E N env mem a w β) {x : Operand} {v : SV} {ps : List Prop} (he : opv env x = (v, ps)) (hp : ∀ p ∈ ps, p) :
    RepSV (allow E w β) w β mem v (a.eval x) := by
  cases x with
  | tmp t =>
    have hs := h.peek t; simp only [opv] at he; split at he
    · rename_i p u hu; simp only [Prod.mk.injEq] at he; obtain ⟨rfl, rfl⟩ := he; rw [hu] at hs
      cases hs with
      | cnd _ _ _ h1 h2 => exact h1 (hp p (by simp))
    · simp only [Prod.mk.injEq] at he; obtain ⟨rfl, rfl⟩ := he; exact hs
  | const c =>
    simp only [opv, Prod.mk.injEq] at he; obtain ⟨rfl, rfl⟩ := he; exact constSV_rep c
  | func f =>
    simp only [opv, Prod.mk.injEq] at he; obtain ⟨rfl, rfl⟩ := he; exact .clo f [] [] rfl (by intro i sv v h; simp at h)
  | global g =>
    simp only [opv, Prod.mk.injEq] at he; obtain ⟨rfl, rfl⟩ := he; exact .top _

def putE (env : Nat → SV) (dst : Option Nat) (v : SV) : Nat → SV :=
  match dst with
  | some d => upd env d v
  | none => env

theorem SimB.put (h : SimB E N env mem a w β) {dst : Option Nat} (hd : ∀ d, dst = some d → d < N) {sv : SV} {v : Value}
    (hv : RepSV (allow E w β) w β mem sv v) : SimB E N (putE env dst sv) mem (a.put dst v) w β := by
  cases dst with
  | none => exact h
  | some d =>
    have hlt : d < a.tmps.size := by rw [h.size]; exact hd d rfl
    exact { defers := h.defers, size := by simp [Act.put, h.size], hN := h.hN, os := h.os, tape := h.tape, output := h.output, grow := h.grow, old := h.old, dom := h.dom, inj := h.inj, own := h.own, par := h.par, blk := h.blk,
            slot := fun s => by
              by_cases hs : s = d
              · subst hs; simp only [putE, upd_same]
                have e : slotV E (a.put (some s) v) s = v := by
                  unfold slotV; rw [if_pos (by have := h.hN; have := h.size; omega)]; simp [Act.put, hlt]
                rw [e]; exact hv
              · simp only [putE, upd_ne _ _ hs]
                have e : slotV E (a.put (some d) v) s = slotV E a s := by
                  unfold slotV; simp [Act.put, Array.getElem?_setIfInBounds_ne (Ne.symm hs)]
                rw [e]
                exact h.slot s }

theorem intBin_rep {A : Nat → Prop} {wr : Bool} {op : BinOp} {k k' : IntKind} {n n' : Int} {r : SV} {ob : List Prop} (T : Nat) (h : intBin wr k k' n n' op = some (r, ob)) (hob : ∀ p ∈ ob, p)
    (lo : k.min ≤ n) (hi : n ≤ k.max) : ∃ z, (binOp op T (.int k n) (.int k' n')).run P w = .ok z w ∧ RepSV A w β mem r z := by
  have fit : ∀ {k : IntKind} {m : Int}, inR k m → RepSV A w β mem (.int k m) (.int k m) := fun h => .int _ _ h.1 h.2; (have hmin : k.min ≤ 0 := by cases k <;> decide); have hmax : 0 ≤ k.max := by cases k <;> decide
  have lele' : ∀ {x y : Int}, 0 ≤ x → 0 < y → x % y ≤ x := by
    intro x y hx hy; have h1 := Int.emod_def x y; have h2 := Int.mul_nonneg (Int.le_of_lt hy) (Int.ediv_nonneg hx (Int.le_of_lt hy)); omega
  have lele : ∀ {x y : Int}, 0 ≤ x → x % y ≤ x := by
    intro x y hx; rcases Int.lt_trichotomy y 0 with h3 | h3 | h3
    · rw [← Int.emod_neg]; exact lele' hx (by omega)
    · subst h3; simp
    · exact lele' hx h3
  cases op <;> simp only [intBin] at h
  case shl =>
    split at h <;> simp only [Option.some.injEq, Prod.mk.injEq] at h <;> obtain ⟨rfl, rfl⟩ := h
    · have hb := hob _ (mem_singleton.2 rfl); exact ⟨_, by rw [binOp_shl, shift_shl k k' n n' hb.1 hb.2]; rfl, fit (wrap_range k _)⟩
    · have hb := hob _ (mem_cons_self ..); have hr := hob _ (mem_cons_of_mem _ (mem_singleton.2 rfl)); exact ⟨_, by rw [binOp_shl, shift_shl k k' n n' hb.1 hb.2, wrap_in hr]; rfl, fit hr⟩
  case shr =>
    simp only [Option.some.injEq, Prod.mk.injEq] at h; obtain ⟨rfl, rfl⟩ := h; have hb := hob _ (mem_singleton.2 rfl); refine ⟨_, by rw [binOp_shr, shift_shr k k' n n' hb.1 hb.2]; rfl, ?_⟩; have hpos : (0 : Int) < 2 ^ n'.toNat := Int.pow_pos (by decide); refine .int _ _ ?_ ?_
    · rw [Int.le_ediv_iff_mul_le hpos]
      exact Int.le_trans (by
        have : k.min * 2 ^ n'.toNat ≤ k.min * 1 := Int.mul_le_mul_of_nonpos_left hmin (by omega)
        simpa using this) lo
    · rcases Int.lt_or_le n 0 with hn | hn
      · have := Int.ediv_neg_of_neg_of_pos hn hpos; omega
      · have := Int.ediv_le_self (2 ^ n'.toNat) hn; omega
  all_goals
    split at h
    case isFalse => simp at h
    rename_i hk; subst hk
  case add =>
    split at h <;> simp only [Option.some.injEq, Prod.mk.injEq] at h <;> obtain ⟨rfl, rfl⟩ := h
    · exact ⟨_, by rw [binOp_add]; rfl, fit (wrap_range _ _)⟩
    · have hr := hob _ (mem_singleton.2 rfl); exact ⟨_, by rw [binOp_add]; simp only [Op.intArith, wrap_in hr]; rfl, fit hr⟩
  case sub =>
    split at h <;> simp only [Option.some.injEq, Prod.mk.injEq] at h <;> obtain ⟨rfl, rfl⟩ := h
    · exact ⟨_, by rw [binOp_sub]; rfl, fit (wrap_range _ _)⟩
    · have hr := hob _ (mem_singleton.2 rfl); exact ⟨_, by rw [binOp_sub]; simp only [Op.intArith, wrap_in hr]; rfl, fit hr⟩
  case mul =>
    split at h <;> simp only [Option.some.injEq, Prod.mk.injEq] at h <;> obtain ⟨rfl, rfl⟩ := h
    · exact ⟨_, by rw [binOp_mul]; rfl, fit (wrap_range _ _)⟩
    · have hr := hob _ (mem_singleton.2 rfl); exact ⟨_, by rw [binOp_mul]; simp only [Op.intArith, wrap_in hr]; rfl, fit hr⟩
  case quo =>
    split at h <;> simp only [Option.some.injEq, Prod.mk.injEq] at h <;> obtain ⟨rfl, rfl⟩ := h
    · have hr := hob _ (mem_singleton.2 rfl); exact ⟨_, by rw [binOp_quo]; simp only [Op.intDiv, if_neg hr]; rfl, fit (wrap_range _ _)⟩
    · have hr := hob _ (mem_singleton.2 rfl)
      have hin : inR k' (n / n') := by
        have h1 := Int.ediv_le_self n' hr.1; have h2 := Int.ediv_nonneg hr.1 (Int.le_of_lt hr.2); exact ⟨by omega, by omega⟩
      refine ⟨_, ?_, fit hin⟩; rw [binOp_quo]; simp only [Op.intDiv, if_neg (show ¬ n' = 0 by omega)]; rw [Int.tdiv_eq_ediv_of_nonneg hr.1, wrap_in hin]; rfl
  case rem =>
    split at h <;> simp only [Option.some.injEq, Prod.mk.injEq] at h <;> obtain ⟨rfl, rfl⟩ := h
    · have hr := hob _ (mem_singleton.2 rfl); refine ⟨_, by rw [binOp_rem]; simp only [Op.intDiv, if_neg hr]; rfl, fit ⟨?_, ?_⟩⟩
      · rcases Int.lt_or_le n 0 with hn | hn
        · (have e : n.tmod n' = -((-n).tmod n') := by rw [Int.neg_tmod]; omega); have e2 := Int.tmod_eq_emod_of_nonneg (a := -n) (b := n') (by omega); have := lele (x := -n) (y := n') (by omega); omega
        · have := Int.tmod_nonneg n' hn; omega
      · rcases Int.lt_or_le n 0 with hn | hn
        · (have e : n.tmod n' = -((-n).tmod n') := by rw [Int.neg_tmod]; omega); have := Int.tmod_nonneg (a := -n) n' (by omega); omega
        · have := Int.tmod_eq_emod_of_nonneg hn (b := n'); have := lele (x := n) (y := n') hn; omega
    · have hr := hob _ (mem_singleton.2 rfl)
      have hin : inR k' (n % n') := by
        have h1 := lele' hr.1 hr.2; have h2 := Int.emod_nonneg n (show n' ≠ 0 by omega); exact ⟨by omega, by omega⟩
      refine ⟨_, ?_, fit hin⟩; rw [binOp_rem]; simp only [Op.intDiv, if_neg (show ¬ n' = 0 by omega)]; rw [Int.tmod_eq_emod_of_nonneg hr.1]; rfl
  all_goals
    simp only [Option.some.injEq, Prod.mk.injEq] at h; obtain ⟨rfl, rfl⟩ := h
  case and => exact ⟨_, by rw [binOp_and, intBits_and]; rfl, fit (bits_range _ _ _ _)⟩
  case or => exact ⟨_, by rw [binOp_or, intBits_or]; rfl, fit (bits_range _ _ _ _)⟩
  case xor => exact ⟨_, by rw [binOp_xor, intBits_xor]; rfl, fit (bits_range _ _ _ _)⟩
  case andNot => exact ⟨_, by rw [binOp_andNot, intBits_andNot]; rfl, fit (bits_range _ _ _ _)⟩
  case eql => exact ⟨_, by rw [binOp_eql]; rfl, .bool _⟩
  case neq => exact ⟨_, by rw [binOp_neq]; rfl, .bool _⟩
  case lss => exact ⟨_, by rw [binOp_lss]; rfl, .bool _⟩
  case leq => exact ⟨_, by rw [binOp_leq]; rfl, .bool _⟩
  case gtr => exact ⟨_, by rw [binOp_gtr]; rfl, .bool _⟩
  case geq => exact ⟨_, by rw [binOp_geq]; rfl, .bool _⟩

end
end Go.Am
