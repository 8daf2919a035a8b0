/-
  Am, part A: data types, symbolic values, and what they say of the machine's memory.
-/
import Derived.Orders
import Derived.OrdersIn
import Derived.RangeFuncLeaves
import Derived.RangeFuncRecord
import Derived.Laws.Entries
import Derived.Laws.Cells
import Derived.Laws.CopyRow
import Derived.Laws.MakeOwn
import Derived.KernelRfl
import GoSem.ClaimData
set_option linter.all false
namespace Go.Am
open List

inductive Ty where
  | int (k : IntKind)
  | bool
  | str
  | named (n : Nat)
  | slice (t : Ty)
  deriving DecidableEq

class UnivT where
  R : Nat → Type

def Ty.den [UnivT] : Ty → Type
  | .int _ => Int
  | .bool => Bool
  | .str => ByteArray
  | .named n => UnivT.R n
  | .slice t => List t.den

abbrev TV [UnivT] : Type := (t : Ty) × t.den

class UnivD extends UnivT where
  dfl : (n : Nat) → R n
  sz : Nat → Nat

def Ty.zero [UnivD] : (t : Ty) → t.den
  | .int _ => (0 : Int)
  | .bool => false
  | .str => ByteArray.empty
  | .named n => UnivD.dfl n
  | .slice _ => ([] : List _)

def Ty.size [UnivD] : Ty → Nat
  | .named n => UnivD.sz n
  | _ => 1

class Univ extends UnivD where
  tys : Nat → List Ty
  get : (n : Nat) → R n → List TV
  bld : (n : Nat) → List TV → R n
  get_tys : ∀ n x, (get n x).map Sigma.fst = tys n
  get_bld : ∀ n l, l.map Sigma.fst = tys n → get n (bld n l) = l
  bld_get : ∀ n x, bld n (get n x) = x
  get_dfl : ∀ n, get n (dfl n) = (tys n).map fun t => ⟨t, t.zero⟩
  sz_eq : ∀ n, sz n = ((tys n).map Ty.size).sum
  sz_pos : ∀ n, 1 ≤ sz n
  cmp : Nat → Bool := fun _ => false
  arrs : List (Nat × Nat × Nat) := []
  ptrs : List (Nat × Nat) := []
  ifcs : List (Nat × Nat) := []
  fvars : List Nat := []
  gl : List Nat := []
  G : World → Prop := fun _ => True
  dr : Nat → Nat := fun n => n
  dr_mono : ∀ a b : Nat, a ≤ b → dr a ≤ dr b := by intros; assumption
  gst : ∀ w w' : World, (∀ b, b ∈ gl → w'.heap[b]? = w.heap[b]?) → G w → G w' := by intros; trivial

def Laid [U : Univ] (w : World) (bs : List Nat) : Prop := (∀ b, b ∈ U.gl → b < w.heap.size ∧ b ∉ bs) ∧ U.G w

def findP (T : Nat) : List (Nat × Nat) → Option Nat
  | [] => none
  | (i, e) :: r => if i = T then some e else findP T r

def findA (T : Nat) : List (Nat × Nat × Nat) → Option (Nat × Nat)
  | [] => none
  | (i, e, n) :: r => if i = T then some (e, n) else findA T r

variable [U : Univ]

theorem Ty.size_pos (t : Ty) : 1 ≤ t.size := by
  cases t <;> simp [Ty.size, Univ.sz_pos]

def lim : Int := 9223372036854775807

mutual
inductive RepC (A : Nat → Prop) (w : World) : (t : Ty) → t.den → List Value → Prop
  | int (k : IntKind) (n : Int) (lo : k.min ≤ n) (hi : n ≤ k.max) : RepC A w (.int k) n [.int k n]
  | bool (b : Bool) : RepC A w .bool b [.bool b]
  | str (s : ByteArray) (h : (s.size : Int) ≤ lim) : RepC A w .str s [.string s]
  | named (n : Nat) (x : U.R n) (cs : List Value) (h : RepL A w (U.get n x) cs) : RepC A w (.named n) x cs
  | nil (t : Ty) : RepC A w (.slice t) ([] : List t.den) [.slice none 0 0]
  | slice (t : Ty) (xs : List t.den) (a : Addr) (cap : Nat) (css : Nat → List Value) (hl : (xs.length : Int) ≤ lim) (hcap : xs.length ≤ cap)
      (hA : xs ≠ [] → A a.block) (hs : xs ≠ [] → a.spot = none) (hlen : ∀ i, i < xs.length → (css i).length = t.size)
      (hc : ∀ i j v, i < xs.length → (css i)[j]? = some v → w.cell? ⟨a.block, a.off + i * t.size + j, none⟩ = some v)
      (hr : ∀ i (h : i < xs.length), RepC A w t xs[i] (css i)) : RepC A w (.slice t) xs [.slice (some a) xs.length cap]
inductive RepL (A : Nat → Prop) (w : World) : List TV → List Value → Prop
  | nil : RepL A w [] []
  | cons (t : Ty) (x : t.den) (r : List TV) (cs ds : List Value) (h : RepC A w t x cs) (k : RepL A w r ds) : RepL A w (⟨t, x⟩ :: r) (cs ++ ds)
end

omit U in
theorem World.cell?_eq_of_heap {w w' : World} {a : Addr} (h : w'.heap[a.block]? = w.heap[a.block]?) : w'.cell? a = w.cell? a := by
  unfold World.cell?; rw [h]

theorem RepC.mono {A A' : Nat → Prop} {w w' : World} (hA : ∀ b, A b → A' b ∧ w'.heap[b]? = w.heap[b]?) {t : Ty} {x : t.den} {cs : List Value}
    (h : RepC A w t x cs) : RepC A' w' t x cs := by
  refine RepC.rec (motive_1 := fun t x cs _ => RepC A' w' t x cs) (motive_2 := fun l cs _ => RepL A' w' l cs) ?_ ?_ ?_ ?_ ?_ ?_ ?_ ?_ h
  · intro k n lo hi; exact .int k n lo hi
  · intro b; exact .bool b
  · intro s h; exact .str s h
  · intro n x cs _ ih; exact .named n x cs ih
  · intro t; exact .nil t
  · intro t xs a cap css hl hcap hA' hs hlen hc _ ih; refine .slice t xs a cap css hl hcap (fun h => (hA _ (hA' h)).1) hs hlen (fun i j v hi hj => ?_) ih; rw [World.cell?_eq_of_heap (w := w)]
    · exact hc i j v hi hj
    · exact (hA _ (hA' (by intro h; simp [h] at hi))).2
  · exact .nil
  · intro t x r cs ds _ _ h k; exact .cons t x r cs ds h k

theorem RepL.mono {A A' : Nat → Prop} {w w' : World} (hA : ∀ b, A b → A' b ∧ w'.heap[b]? = w.heap[b]?) {l : List TV} {cs : List Value}
    (h : RepL A w l cs) : RepL A' w' l cs := by
  refine RepL.rec (motive_1 := fun t x cs _ => True) (motive_2 := fun l cs _ => RepL A' w' l cs) ?_ ?_ ?_ ?_ ?_ ?_ ?_ ?_ h
  · intros; trivial
  · intros; trivial
  · intros; trivial
  · intros; trivial
  · intros; trivial
  · intros; trivial
  · exact .nil
  · intro t x r cs ds h _ _ k; exact .cons t x r cs ds (h.mono hA) k

theorem RepC.length {A : Nat → Prop} {w : World} {t : Ty} {x : t.den} {cs : List Value} (h : RepC A w t x cs) : cs.length = t.size := by
  refine RepC.rec (motive_1 := fun t x cs _ => cs.length = t.size) (motive_2 := fun l cs _ => cs.length = ((l.map Sigma.fst).map Ty.size).sum) ?_ ?_ ?_ ?_ ?_ ?_ ?_ ?_ h
  · intros; rfl
  · intros; rfl
  · intros; rfl
  · intro n x cs _ ih; rw [ih, U.get_tys]; exact (U.sz_eq n).symm
  · intros; rfl
  · intros; rfl
  · rfl
  · intro t x r cs ds _ _ h k; simp [h, k]

theorem RepL.length {A : Nat → Prop} {w : World} {l : List TV} {cs : List Value} (h : RepL A w l cs) : cs.length = ((l.map Sigma.fst).map Ty.size).sum := by
  refine RepL.rec (motive_1 := fun t x cs _ => True) (motive_2 := fun l cs _ => cs.length = ((l.map Sigma.fst).map Ty.size).sum) ?_ ?_ ?_ ?_ ?_ ?_ ?_ ?_ h
  · intros; trivial
  · intros; trivial
  · intros; trivial
  · intros; trivial
  · intros; trivial
  · intros; trivial
  · rfl
  · intro t x r cs ds h _ _ k; simp [h.length, k]

theorem RepC.one {A : Nat → Prop} {w : World} {t : Ty} {x : t.den} {cs : List Value} (h : RepC A w t x cs) : ∀ v ∈ cs, v.oneCell' = true := by
  refine RepC.rec (motive_1 := fun t x cs _ => ∀ v ∈ cs, v.oneCell' = true) (motive_2 := fun l cs _ => ∀ v ∈ cs, v.oneCell' = true) ?_ ?_ ?_ ?_ ?_ ?_ ?_ ?_ h
  · intro k n _ _ v hv; simp at hv; subst hv; rfl
  · intro b v hv; simp at hv; subst hv; rfl
  · intro s _ v hv; simp at hv; subst hv; rfl
  · intro n x cs _ ih; exact ih
  · intro t v hv; simp at hv; subst hv; rfl
  · intro t xs a cap css _ _ _ _ _ _ _ _ v hv; simp at hv; subst hv; rfl
  · intro v hv; cases hv
  · intro t x r cs ds _ _ h k v hv; rcases mem_append.1 hv with hv | hv
    · exact h v hv
    · exact k v hv

def Ty.flatN : Nat → Ty → Bool
  | _, .int _ | _, .bool | _, .str => true
  | _, .slice _ => false
  | 0, .named _ => false
  | f + 1, .named n => (U.tys n).all (Ty.flatN f)

theorem RepC.flat {A A' : Nat → Prop} {w w' : World} : ∀ (f : Nat) {t : Ty} {x : t.den} {cs : List Value}, t.flatN f = true → RepC A w t x cs → RepC A' w' t x cs := by
  intro f
  induction f with
  | zero =>
    intro t x cs ht h
    cases h with
    | int k n lo hi => exact .int k n lo hi
    | bool b => exact .bool b
    | str s h => exact .str s h
    | named n x cs h => simp [Ty.flatN] at ht
    | nil t => simp [Ty.flatN] at ht
    | slice => simp [Ty.flatN] at ht
  | succ f ih =>
    intro t x cs ht h
    cases h with
    | int k n lo hi => exact .int k n lo hi
    | bool b => exact .bool b
    | str s h => exact .str s h
    | named n x cs h =>
      refine .named n x cs ?_; simp only [Ty.flatN] at ht; rw [← U.get_tys n x] at ht; generalize U.get n x = l at ht h; clear x
      induction l generalizing cs with
      | nil => cases h; exact .nil
      | cons tv r ihr =>
        obtain ⟨t, x⟩ := tv
        cases h with
        | cons _ _ _ cs ds h k =>
          simp only [map_cons, all_cons, Bool.and_eq_true] at ht; exact .cons t x r cs ds (ih ht.1 h) (ihr ht.2 k)
    | nil t => simp [Ty.flatN] at ht
    | slice => simp [Ty.flatN] at ht

mutual
inductive RepO (w : World) : (t : Ty) → t.den → List Value → (Nat → Prop) → Prop
  | int (k : IntKind) (n : Int) (S : Nat → Prop) (lo : k.min ≤ n) (hi : n ≤ k.max) : RepO w (.int k) n [.int k n] S
  | bool (b : Bool) (S : Nat → Prop) : RepO w .bool b [.bool b] S
  | str (s : ByteArray) (S : Nat → Prop) (h : (s.size : Int) ≤ lim) : RepO w .str s [.string s] S
  | named (n : Nat) (x : U.R n) (cs : List Value) (S : Nat → Prop) (h : RepOL w (U.get n x) cs S) : RepO w (.named n) x cs S
  | nil (t : Ty) (S : Nat → Prop) : RepO w (.slice t) ([] : List t.den) [.slice none 0 0] S
  | slice (t : Ty) (xs : List t.den) (b cap : Nat) (cs : Array Value) (el : Nat) (css : Nat → List Value) (T : Nat → Nat → Prop) (S : Nat → Prop)
      (hl : (xs.length : Int) ≤ 4294967296) (hh : w.heap[b]? = some (.cells cs el (0, 0))) (hs : cs.size = cap * t.size) (hcap : xs.length ≤ cap) (hb : S b)
      (hlen : ∀ i, i < xs.length → (css i).length = t.size)
      (hc : ∀ (i j : Nat) (v : Value), i < xs.length → (css i)[j]? = some v → cs[i * t.size + j]? = some v)
      (hS : ∀ i c, i < xs.length → T i c → S c ∧ c ≠ b) (hd : ∀ i j c, i < xs.length → j < xs.length → T i c → T j c → i = j)
      (hr : ∀ i (h : i < xs.length), RepO w t xs[i] (css i) (T i)) : RepO w (.slice t) xs [.slice (some ⟨b, 0, none⟩) xs.length cap] S
inductive RepOL (w : World) : List TV → List Value → (Nat → Prop) → Prop
  | nil (S : Nat → Prop) : RepOL w [] [] S
  | cons (t : Ty) (x : t.den) (r : List TV) (cs ds : List Value) (S1 S2 S : Nat → Prop) (h : RepO w t x cs S1) (k : RepOL w r ds S2)
      (h1 : ∀ c, S1 c → S c) (h2 : ∀ c, S2 c → S c) (hd : ∀ c, S1 c → ¬ S2 c) : RepOL w (⟨t, x⟩ :: r) (cs ++ ds) S
end

theorem RepO.mono {w w' : World} {t : Ty} {x : t.den} {cs : List Value} {S : Nat → Prop} (h : RepO w t x cs S) : ∀ {S' : Nat → Prop}, (∀ b, S b → S' b ∧ w'.heap[b]? = w.heap[b]?) → RepO w' t x cs S' := by
  refine RepO.rec (motive_1 := fun t x cs S _ => ∀ {S' : Nat → Prop}, (∀ b, S b → S' b ∧ w'.heap[b]? = w.heap[b]?) → RepO w' t x cs S')
    (motive_2 := fun l cs S _ => ∀ {S' : Nat → Prop}, (∀ b, S b → S' b ∧ w'.heap[b]? = w.heap[b]?) → RepOL w' l cs S') ?_ ?_ ?_ ?_ ?_ ?_ ?_ ?_ h
  · intro k n S lo hi S' _; exact .int k n S' lo hi
  · intro b S S' _; exact .bool b S'
  · intro s S h S' _; exact .str s S' h
  · intro n x cs S _ ih S' hS; exact .named n x cs S' (ih hS)
  · intro t S S' _; exact .nil t S'
  · intro t xs b cap cs el css T S hl hh hs hcap hb hlen hc hS hd _ ih S' hSS; refine .slice t xs b cap cs el css T S' hl (by rw [(hSS b hb).2, hh]) hs hcap (hSS b hb).1 hlen hc (fun i c hi hT => ⟨(hSS c (hS i c hi hT).1).1, (hS i c hi hT).2⟩) hd (fun i hi => ih i hi fun c hT => ⟨hT, (hSS c (hS i c hi hT).1).2⟩)
  · intro S S' _; exact .nil S'
  · intro t x r cs ds S1 S2 S _ _ h1 h2 hd ih1 ih2 S' hSS; exact .cons t x r cs ds S1 S2 S' (ih1 fun c hc => ⟨hc, (hSS c (h1 c hc)).2⟩) (ih2 fun c hc => ⟨hc, (hSS c (h2 c hc)).2⟩) (fun c hc => (hSS c (h1 c hc)).1) (fun c hc => (hSS c (h2 c hc)).1) hd

theorem RepO.repC {w : World} {A : Nat → Prop} {t : Ty} {x : t.den} {cs : List Value} {S : Nat → Prop} (h : RepO w t x cs S) : (∀ b, S b → A b) → RepC A w t x cs := by
  refine RepO.rec (motive_1 := fun t x cs S _ => (∀ b, S b → A b) → RepC A w t x cs) (motive_2 := fun l cs S _ => (∀ b, S b → A b) → RepL A w l cs) ?_ ?_ ?_ ?_ ?_ ?_ ?_ ?_ h
  · intro k n S lo hi _; exact .int k n lo hi
  · intro b S _; exact .bool b
  · intro s S h _; exact .str s h
  · intro n x cs S _ ih hS; exact .named n x cs (ih hS)
  · intro t S _; exact .nil t
  · intro t xs b cap cs el css T S hl hh hs hcap hb hlen hc hS hd _ ih hSA; refine .slice t xs ⟨b, 0, none⟩ cap css (by unfold lim; omega) hcap (fun _ => hSA b hb) (fun _ => rfl) hlen (fun i j v hi hj => ?_) (fun i hi => ih i hi fun c hT => hSA c (hS i c hi hT).1); have := hc i j v hi hj; simp [World.cell?, hh, this]
  · intro S _; exact .nil
  · intro t x r cs ds S1 S2 S _ _ h1 h2 hd ih1 ih2 hS; exact .cons t x r cs ds (ih1 fun c hc => hS c (h1 c hc)) (ih2 fun c hc => hS c (h2 c hc))

theorem RepO.length {w : World} {t : Ty} {x : t.den} {cs : List Value} {S : Nat → Prop} (h : RepO w t x cs S) : cs.length = t.size := (h.repC (A := S) fun _ h => h).length
theorem RepO.one {w : World} {t : Ty} {x : t.den} {cs : List Value} {S : Nat → Prop} (h : RepO w t x cs S) : ∀ v ∈ cs, v.oneCell' = true := (h.repC (A := S) fun _ h => h).one

theorem RepC.toO {A : Nat → Prop} {w w' : World} {S : Nat → Prop} : ∀ (f : Nat) {t : Ty} {x : t.den} {cs : List Value}, t.flatN f = true → RepC A w t x cs → RepO w' t x cs S := by
  intro f
  induction f generalizing S with
  | zero =>
    intro t x cs ht h
    cases h with
    | int k n lo hi => exact .int k n S lo hi
    | bool b => exact .bool b S
    | str s h => exact .str s S h
    | named n x cs h => simp [Ty.flatN] at ht
    | nil t => simp [Ty.flatN] at ht
    | slice => simp [Ty.flatN] at ht
  | succ f ih =>
    intro t x cs ht h
    cases h with
    | int k n lo hi => exact .int k n S lo hi
    | bool b => exact .bool b S
    | str s h => exact .str s S h
    | named n x cs h =>
      refine .named n x cs S ?_; simp only [Ty.flatN] at ht; rw [← U.get_tys n x] at ht; generalize U.get n x = l at ht h; clear x
      induction l generalizing cs with
      | nil => cases h; exact .nil S
      | cons tv r ihr =>
        obtain ⟨t, x⟩ := tv
        cases h with
        | cons _ _ _ cs ds h k =>
          simp only [map_cons, all_cons, Bool.and_eq_true] at ht; exact .cons t x r cs ds (fun _ => False) S S (ih ht.1 h) (ihr ht.2 k) (fun _ h => h.elim) (fun _ h => h) (fun _ h => h.elim)
    | nil t => simp [Ty.flatN] at ht
    | slice => simp [Ty.flatN] at ht

end Go.Am
