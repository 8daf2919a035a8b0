/-
  Am, part B: symbolic values, abstract memory, and one abstract step.
-/
import Derived.Orders
import Derived.OrdersIn
import Derived.RangeFuncLeaves
import Derived.RangeFuncRecord
import Derived.Laws.Entries
import Derived.Laws.Cells
import Derived.Laws.CopyRow
import Derived.Laws.MakeOwn
import Derived.KernelRfl
import GoSem.ClaimData
set_option linter.all false
namespace Go.Am
open List

inductive Ty where
  | int (k : IntKind)
  | bool
  | str
  | named (n : Nat)
  | slice (t : Ty)
  deriving DecidableEq

class UnivT where
  R : Nat → Type

def Ty.den [UnivT] : Ty → Type
  | .int _ => Int
  | .bool => Bool
  | .str => ByteArray
  | .named n => UnivT.R n
  | .slice t => List t.den

abbrev TV [UnivT] : Type := (t : Ty) × t.den

class UnivD extends UnivT where
  dfl : (n : Nat) → R n
  sz : Nat → Nat

def Ty.zero [UnivD] : (t : Ty) → t.den
  | .int _ => (0 : Int)
  | .bool => false
  | .str => ByteArray.empty
  | .named n => UnivD.dfl n
  | .slice _ => ([] : List _)

def Ty.size [UnivD] : Ty → Nat
  | .named n => UnivD.sz n
  | _ => 1

class Univ extends UnivD where
  tys : Nat → List Ty
  get : (n : Nat) → R n → List TV
  bld : (n : Nat) → List TV → R n
  get_tys : ∀ n x, (get n x).map Sigma.fst = tys n
  get_bld : ∀ n l, l.map Sigma.fst = tys n → get n (bld n l) = l
  bld_get : ∀ n x, bld n (get n x) = x
  get_dfl : ∀ n, get n (dfl n) = (tys n).map fun t => ⟨t, t.zero⟩
  sz_eq : ∀ n, sz n = ((tys n).map Ty.size).sum
  sz_pos : ∀ n, 1 ≤ sz n
  cmp : Nat → Bool := fun _ => false
  arrs : List (Nat × Nat × Nat) := []
  ptrs : List (Nat × Nat) := []
  ifcs : List (Nat × Nat) := []
  maps : List (Nat × Nat) := []
  fvars : List Nat := []
  gl : List Nat := []
  G : World → Prop := fun _ => True
  dr : Nat → Nat := fun n => n
  dr_mono : ∀ a b : Nat, a ≤ b → dr a ≤ dr b := by intros; assumption
  gst : ∀ w w' : World, (∀ b, b ∈ gl → w'.heap[b]? = w.heap[b]?) → G w → G w' := by intros; trivial

def Laid [U : Univ] (w : World) (bs : List Nat) : Prop := (∀ b, b ∈ U.gl → b < w.heap.size ∧ b ∉ bs) ∧ U.G w

def findP (T : Nat) : List (Nat × Nat) → Option Nat
  | [] => none
  | (i, e) :: r => if i = T then some e else findP T r

def findA (T : Nat) : List (Nat × Nat × Nat) → Option (Nat × Nat)
  | [] => none
  | (i, e, n) :: r => if i = T then some (e, n) else findA T r

variable [U : Univ]

theorem Ty.size_pos (t : Ty) : 1 ≤ t.size := by
  cases t <;> simp [Ty.size, Univ.sz_pos]

def lim : Int := 9223372036854775807

mutual
inductive RepC (A : Nat → Prop) (w : World) : (t : Ty) → t.den → List Value → Prop
  | int (k : IntKind) (n : Int) (lo : k.min ≤ n) (hi : n ≤ k.max) : RepC A w (.int k) n [.int k n]
  | bool (b : Bool) : RepC A w .bool b [.bool b]
  | str (s : ByteArray) (h : (s.size : Int) ≤ lim) : RepC A w .str s [.string s]
  | named (n : Nat) (x : U.R n) (cs : List Value) (h : RepL A w (U.get n x) cs) : RepC A w (.named n) x cs
  | nil (t : Ty) : RepC A w (.slice t) ([] : List t.den) [.slice none 0 0]
  | slice (t : Ty) (xs : List t.den) (a : Addr) (cap : Nat) (css : Nat → List Value) (hl : (xs.length : Int) ≤ lim) (hcap : xs.length ≤ cap)
      (hA : xs ≠ [] → A a.block) (hs : xs ≠ [] → a.spot = none) (hlen : ∀ i, i < xs.length → (css i).length = t.size)
      (hc : ∀ i j v, i < xs.length → (css i)[j]? = some v → w.cell? ⟨a.block, a.off + i * t.size + j, none⟩ = some v)
      (hr : ∀ i (h : i < xs.length), RepC A w t xs[i] (css i)) : RepC A w (.slice t) xs [.slice (some a) xs.length cap]
inductive RepL (A : Nat → Prop) (w : World) : List TV → List Value → Prop
  | nil : RepL A w [] []
  | cons (t : Ty) (x : t.den) (r : List TV) (cs ds : List Value) (h : RepC A w t x cs) (k : RepL A w r ds) : RepL A w (⟨t, x⟩ :: r) (cs ++ ds)
end

omit U in
theorem World.cell?_eq_of_heap {w w' : World} {a : Addr} (h : w'.heap[a.block]? = w.heap[a.block]?) : w'.cell? a = w.cell? a := by
  unfold World.cell?; rw [h]

theorem RepC.mono {A A' : Nat → Prop} {w w' : World} (hA : ∀ b, A b → A' b ∧ w'.heap[b]? = w.heap[b]?) {t : Ty} {x : t.den} {cs : List Value}
    (h : RepC A w t x cs) : RepC A' w' t x cs := by
  refine RepC.rec (motive_1 := fun t x cs _ => RepC A' w' t x cs) (motive_2 := fun l cs _ => RepL A' w' l cs) ?_ ?_ ?_ ?_ ?_ ?_ ?_ ?_ h
  · intro k n lo hi; exact .int k n lo hi
  · intro b; exact .bool b
  · intro s h; exact .str s h
  · intro n x cs _ ih; exact .named n x cs ih
  · intro t; exact .nil t
  · intro t xs a cap css hl hcap hA' hs hlen hc _ ih; refine .slice t xs a cap css hl hcap (fun h => (hA _ (hA' h)).1) hs hlen (fun i j v hi hj => ?_) ih; rw [World.cell?_eq_of_heap (w := w)]
    · exact hc i j v hi hj
    · exact (hA _ (hA' (by intro h; simp [h] at hi))).2
  · exact .nil
  · intro t x r cs ds _ _ h k; exact .cons t x r cs ds h k

theorem RepL.mono {A A' : Nat → Prop} {w w' : World} (hA : ∀ b, A b → A' b ∧ w'.heap[b]? = w.heap[b]?) {l : List TV} {cs : List Value}
    (h : RepL A w l cs) : RepL A' w' l cs := by
  refine RepL.rec (motive_1 := fun t x cs _ => True) (motive_2 := fun l cs _ => RepL A' w' l cs) ?_ ?_ ?_ ?_ ?_ ?_ ?_ ?_ h
  · intros; trivial
  · intros; trivial
  · intros; trivial
  · intros; trivial
  · intros; trivial
  · intros; trivial
  · exact .nil
  · intro t x r cs ds h _ _ k; exact .cons t x r cs ds (h.mono hA) k

theorem RepC.length {A : Nat → Prop} {w : World} {t : Ty} {x : t.den} {cs : List Value} (h : RepC A w t x cs) : cs.length = t.size := by
  refine RepC.rec (motive_1 := fun t x cs _ => cs.length = t.size) (motive_2 := fun l cs _ => cs.length = ((l.map Sigma.fst).map Ty.size).sum) ?_ ?_ ?_ ?_ ?_ ?_ ?_ ?_ h
  · intros; rfl
  · intros; rfl
  · intros; rfl
  · intro n x cs _ ih; rw [ih, U.get_tys]; exact (U.sz_eq n).symm
  · intros; rfl
  · intros; rfl
  · rfl
  · intro t x r cs ds _ _ h k; simp [h, k]

theorem RepL.length {A : Nat → Prop} {w : World} {l : List TV} {cs : List Value} (h : RepL A w l cs) : cs.length = ((l.map Sigma.fst).map Ty.size).sum := by
  refine RepL.rec (motive_1 := fun t x cs _ => True) (motive_2 := fun l cs _ => cs.length = ((l.map Sigma.fst).map Ty.size).sum) ?_ ?_ ?_ ?_ ?_ ?_ ?_ ?_ h
  · intros; trivial
  · intros; trivial
  · intros; trivial
  · intros; trivial
  · intros; trivial
  · intros; trivial
  · rfl
  · intro t x r cs ds h _ _ k; simp [h.length, k]

theorem RepC.one {A : Nat → Prop} {w : World} {t : Ty} {x : t.den} {cs : List Value} (h : RepC A w t x cs) : ∀ v ∈ cs, v.oneCell' = true := by
  refine RepC.rec (motive_1 := fun t x cs _ => ∀ v ∈ cs, v.oneCell' = true) (motive_2 := fun l cs _ => ∀ v ∈ cs, v.oneCell' = true) ?_ ?_ ?_ ?_ ?_ ?_ ?_ ?_ h
  · intro k n _ _ v hv; simp at hv; subst hv; rfl
  · intro b v hv; simp at hv; subst hv; rfl
  · intro s _ v hv; simp at hv; subst hv; rfl
  · intro n x cs _ ih; exact ih
  · intro t v hv; simp at hv; subst hv; rfl
  · intro t xs a cap css _ _ _ _ _ _ _ _ v hv; simp at hv; subst hv; rfl
  · intro v hv; cases hv
  · intro t x r cs ds _ _ h k v hv; rcases mem_append.1 hv with hv | hv
    · exact h v hv
    · exact k v hv

def Ty.flatN : Nat → Ty → Bool
  | _, .int _ | _, .bool | _, .str => true
  | _, .slice _ => false
  | 0, .named _ => false
  | f + 1, .named n => (U.tys n).all (Ty.flatN f)

theorem RepC.flat {A A' : Nat → Prop} {w w' : World} : ∀ (f : Nat) {t : Ty} {x : t.den} {cs : List Value}, t.flatN f = true → RepC A w t x cs → RepC A' w' t x cs := by
  intro f
  induction f with
  | zero =>
    intro t x cs ht h
    cases h with
    | int k n lo hi => exact .int k n lo hi
    | bool b => exact .bool b
    | str s h => exact .str s h
    | named n x cs h => simp [Ty.flatN] at ht
    | nil t => simp [Ty.flatN] at ht
    | slice => simp [Ty.flatN] at ht
  | succ f ih =>
    intro t x cs ht h
    cases h with
    | int k n lo hi => exact .int k n lo hi
    | bool b => exact .bool b
    | str s h => exact .str s h
    | named n x cs h =>
      refine .named n x cs ?_; simp only [Ty.flatN] at ht; rw [← U.get_tys n x] at ht; generalize U.get n x = l at ht h; clear x
      induction l generalizing cs with
      | nil => cases h; exact .nil
      | cons tv r ihr =>
        obtain ⟨t, x⟩ := tv
        cases h with
        | cons _ _ _ cs ds h k =>
          simp only [map_cons, all_cons, Bool.and_eq_true] at ht; exact .cons t x r cs ds (ih ht.1 h) (ihr ht.2 k)
    | nil t => simp [Ty.flatN] at ht
    | slice => simp [Ty.flatN] at ht

mutual
inductive RepO (w : World) : (t : Ty) → t.den → List Value → (Nat → Prop) → Prop
  | int (k : IntKind) (n : Int) (S : Nat → Prop) (lo : k.min ≤ n) (hi : n ≤ k.max) : RepO w (.int k) n [.int k n] S
  | bool (b : Bool) (S : Nat → Prop) : RepO w .bool b [.bool b] S
  | str (s : ByteArray) (S : Nat → Prop) (h : (s.size : Int) ≤ lim) : RepO w .str s [.string s] S
  | named (n : Nat) (x : U.R n) (cs : List Value) (S : Nat → Prop) (h : RepOL w (U.get n x) cs S) : RepO w (.named n) x cs S
  | nil (t : Ty) (S : Nat → Prop) : RepO w (.slice t) ([] : List t.den) [.slice none 0 0] S
  | slice (t : Ty) (xs : List t.den) (b cap : Nat) (cs : Array Value) (el : Nat) (css : Nat → List Value) (T : Nat → Nat → Prop) (S : Nat → Prop)
      (hl : (xs.length : Int) ≤ 4294967296) (hh : w.heap[b]? = some (.cells cs el (0, 0))) (hs : cs.size = cap * t.size) (hcap : xs.length ≤ cap) (hb : S b)
      (hlen : ∀ i, i < xs.length → (css i).length = t.size)
      (hc : ∀ (i j : Nat) (v : Value), i < xs.length → (css i)[j]? = some v → cs[i * t.size + j]? = some v)
      (hS : ∀ i c, i < xs.length → T i c → S c ∧ c ≠ b) (hd : ∀ i j c, i < xs.length → j < xs.length → T i c → T j c → i = j)
      (hr : ∀ i (h : i < xs.length), RepO w t xs[i] (css i) (T i)) : RepO w (.slice t) xs [.slice (some ⟨b, 0, none⟩) xs.length cap] S
inductive RepOL (w : World) : List TV → List Value → (Nat → Prop) → Prop
  | nil (S : Nat → Prop) : RepOL w [] [] S
  | cons (t : Ty) (x : t.den) (r : List TV) (cs ds : List Value) (S1 S2 S : Nat → Prop) (h : RepO w t x cs S1) (k : RepOL w r ds S2)
      (h1 : ∀ c, S1 c → S c) (h2 : ∀ c, S2 c → S c) (hd : ∀ c, S1 c → ¬ S2 c) : RepOL w (⟨t, x⟩ :: r) (cs ++ ds) S
end

theorem RepO.mono {w w' : World} {t : Ty} {x : t.den} {cs : List Value} {S : Nat → Prop} (h : RepO w t x cs S) : ∀ {S' : Nat → Prop}, (∀ b, S b → S' b ∧ w'.heap[b]? = w.heap[b]?) → RepO w' t x cs S' := by
  refine RepO.rec (motive_1 := fun t x cs S _ => ∀ {S' : Nat → Prop}, (∀ b, S b → S' b ∧ w'.heap[b]? = w.heap[b]?) → RepO w' t x cs S')
    (motive_2 := fun l cs S _ => ∀ {S' : Nat → Prop}, (∀ b, S b → S' b ∧ w'.heap[b]? = w.heap[b]?) → RepOL w' l cs S') ?_ ?_ ?_ ?_ ?_ ?_ ?_ ?_ h
  · intro k n S lo hi S' _; exact .int k n S' lo hi
  · intro b S S' _; exact .bool b S'
  · intro s S h S' _; exact .str s S' h
  · intro n x cs S _ ih S' hS; exact .named n x cs S' (ih hS)
  · intro t S S' _; exact .nil t S'
  · intro t xs b cap cs el css T S hl hh hs hcap hb hlen hc hS hd _ ih S' hSS; refine .slice t xs b cap cs el css T S' hl (by rw [(hSS b hb).2, hh]) hs hcap (hSS b hb).1 hlen hc (fun i c hi hT => ⟨(hSS c (hS i c hi hT).1).1, (hS i c hi hT).2⟩) hd (fun i hi => ih i hi fun c hT => ⟨hT, (hSS c (hS i c hi hT).1).2⟩)
  · intro S S' _; exact .nil S'
  · intro t x r cs ds S1 S2 S _ _ h1 h2 hd ih1 ih2 S' hSS; exact .cons t x r cs ds S1 S2 S' (ih1 fun c hc => ⟨hc, (hSS c (h1 c hc)).2⟩) (ih2 fun c hc => ⟨hc, (hSS c (h2 c hc)).2⟩) (fun c hc => (hSS c (h1 c hc)).1) (fun c hc => (hSS c (h2 c hc)).1) hd

theorem RepO.repC {w : World} {A : Nat → Prop} {t : Ty} {x : t.den} {cs : List Value} {S : Nat → Prop} (h : RepO w t x cs S) : (∀ b, S b → A b) → RepC A w t x cs := by
  refine RepO.rec (motive_1 := fun t x cs S _ => (∀ b, S b → A b) → RepC A w t x cs) (motive_2 := fun l cs S _ => (∀ b, S b → A b) → RepL A w l cs) ?_ ?_ ?_ ?_ ?_ ?_ ?_ ?_ h
  · intro k n S lo hi _; exact .int k n lo hi
  · intro b S _; exact .bool b
  · intro s S h _; exact .str s h
  · intro n x cs S _ ih hS; exact .named n x cs (ih hS)
  · intro t S _; exact .nil t
  · intro t xs b cap cs el css T S hl hh hs hcap hb hlen hc hS hd _ ih hSA; refine .slice t xs ⟨b, 0, none⟩ cap css (by unfold lim; omega) hcap (fun _ => hSA b hb) (fun _ => rfl) hlen (fun i j v hi hj => ?_) (fun i hi => ih i hi fun c hT => hSA c (hS i c hi hT).1); have := hc i j v hi hj; simp [World.cell?, hh, this]
  · intro S _; exact .nil
  · intro t x r cs ds S1 S2 S _ _ h1 h2 hd ih1 ih2 hS; exact .cons t x r cs ds (ih1 fun c hc => hS c (h1 c hc)) (ih2 fun c hc => hS c (h2 c hc))

theorem RepO.length {w : World} {t : Ty} {x : t.den} {cs : List Value} {S : Nat → Prop} (h : RepO w t x cs S) : cs.length = t.size := (h.repC (A := S) fun _ h => h).length
theorem RepO.one {w : World} {t : Ty} {x : t.den} {cs : List Value} {S : Nat → Prop} (h : RepO w t x cs S) : ∀ v ∈ cs, v.oneCell' = true := (h.repC (A := S) fun _ h => h).one

theorem RepC.toO {A : Nat → Prop} {w w' : World} {S : Nat → Prop} : ∀ (f : Nat) {t : Ty} {x : t.den} {cs : List Value}, t.flatN f = true → RepC A w t x cs → RepO w' t x cs S := by
  intro f
  induction f generalizing S with
  | zero =>
    intro t x cs ht h
    cases h with
    | int k n lo hi => exact .int k n S lo hi
    | bool b => exact .bool b S
    | str s h => exact .str s S h
    | named n x cs h => simp [Ty.flatN] at ht
    | nil t => simp [Ty.flatN] at ht
    | slice => simp [Ty.flatN] at ht
  | succ f ih =>
    intro t x cs ht h
    cases h with
    | int k n lo hi => exact .int k n S lo hi
    | bool b => exact .bool b S
    | str s h => exact .str s S h
    | named n x cs h =>
      refine .named n x cs S ?_; simp only [Ty.flatN] at ht; rw [← U.get_tys n x] at ht; generalize U.get n x = l at ht h; clear x
      induction l generalizing cs with
      | nil => cases h; exact .nil S
      | cons tv r ihr =>
        obtain ⟨t, x⟩ := tv
        cases h with
        | cons _ _ _ cs ds h k =>
          simp only [map_cons, all_cons, Bool.and_eq_true] at ht; exact .cons t x r cs ds (fun _ => False) S S (ih ht.1 h) (ihr ht.2 k) (fun _ h => h.elim) (fun _ h => h) (fun _ h => h.elim)
    | nil t => simp [Ty.flatN] at ht
    | slice => simp [Ty.flatN] at ht

end Go.Am


namespace Go.Am
variable [U : Univ]

inductive SV where
  | top
  | int (k : IntKind) (n : Int)
  | bool (b : Bool)
  | str (s : ByteArray)
  | data (t : Ty) (x : t.den)
  | nilsl
  | nilptr
  | err (b : Bool)
  | el (id i : Nat) (cs : List Value)
  | mp (id ep : Nat)
  | arr (id ep : Nat)
  | sub (id ep off len : Nat)
  | ref (id ep off : Nat)
  | bsl (id ep off len : Nat)
  | eref (id ep i : Nat) (path : List Nat)
  | tr (id ep : Nat)
  | tref (id ep i : Nat) (path : List Nat)
  | dref (t : Ty) (x : t.den)
  | agg (l : List SV)
  | tup (l : List SV)
  | clo (f : Nat) (caps : List SV)
  | cnd (p : Prop) (v : SV)

inductive Blk where
  | box (ep : Nat) (cells : List SV)
  | arr (ep : Nat) (t : Ty) (xs : List t.den)
  | tree (ep : Nat) (t : Ty) (xs : List t.den)
  | dead (ep : Nat)
  | mp (ep : Nat) (l : List (Int × Int))
  | hole (ep : Nat) (t : Ty) (xs : List t.den) (hs : List Nat) (o : Option (Nat → List Value))

def Blk.ep : Blk → Nat
  | .box e _ | .arr e _ _ | .tree e _ _ | .dead e | .mp e _ | .hole e _ _ _ _ => e

def Blk.isBox : Blk → Bool
  | .box _ _ => true
  | _ => false

def SV.ofTV : TV → SV
  | ⟨.int k, n⟩ => .int k n
  | ⟨.bool, b⟩ => .bool b
  | ⟨.str, s⟩ => .str s
  | ⟨.named n, x⟩ => .data (.named n) x
  | ⟨.slice t, xs⟩ => .data (.slice t) xs

def cellsOf : Nat → TV → List SV
  | f + 1, ⟨.named n, x⟩ => (U.get n x).flatMap (cellsOf f)
  | 0, ⟨.named n, _⟩ => List.replicate (U.sz n) .top
  | _, ⟨.int k, n⟩ => [.int k n]
  | _, ⟨.bool, b⟩ => [.bool b]
  | _, ⟨.str, s⟩ => [.str s]
  | _, ⟨.slice t, xs⟩ => [.data (.slice t) xs]

def fuel : Nat := 8

def zcells : Nat → Ty → List SV
  | _, .int k => [.int k 0]
  | _, .bool => [.bool false]
  | _, .str => [.str ByteArray.empty]
  | _, .slice _ => [.nilsl]
  | f + 1, .named n => (U.tys n).flatMap (zcells f)
  | 0, .named _ => []

def offsetOf (n f : Nat) : Nat := (((U.tys n).take f).map Ty.size).sum

def pathOff : Ty → List Nat → Option (Nat × Ty)
  | t, [] => some (0, t)
  | .named n, f :: p =>
    match (U.tys n)[f]? with
    | some t => match pathOff t p with
      | some (o, u) => some (offsetOf n f + o, u)
      | none => none
    | none => none
  | _, _ :: _ => none

def follow : TV → List Nat → Option TV
  | tv, [] => some tv
  | ⟨.named n, x⟩, f :: p =>
    match (U.get n x)[f]? with
    | some tv => follow tv p
    | none => none
  | ⟨_, _⟩, _ :: _ => none

def updAt : TV → List Nat → TV → Option TV
  | ⟨t, _⟩, [], ⟨u, y⟩ => if u = t then some ⟨u, y⟩ else none
  | ⟨.named n, x⟩, f :: p, y =>
    match (U.get n x)[f]? with
    | some tv => match updAt tv p y with
      | some tv' => some ⟨.named n, U.bld n ((U.get n x).set f tv')⟩
      | none => none
    | none => none
  | ⟨_, _⟩, _ :: _, _ => none

def TV.to (t : Ty) : TV → Option t.den
  | ⟨u, x⟩ => if h : u = t then some (h ▸ x) else none

def TV.toL (t : Ty) (tv : TV) : Option (List t.den) := TV.to (.slice t) tv

inductive Rd (α : Type) where
  | ret (a : α)
  | fail
  | mem (i : Nat) (k : Option Blk → Rd α)

def Rd.bind {α β : Type} : Rd α → (α → Rd β) → Rd β
  | .ret a, f => f a
  | .fail, _ => .fail
  | .mem i k, f => .mem i fun b => (k b).bind f

def Rd.eval {α : Type} (m : Nat → Option Blk) : Rd α → Option α
  | .ret a => some a
  | .fail => none
  | .mem i k => (k (m i)).eval m

def Rd.log {α : Type} (m : Nat → Option Blk) : Rd α → List Nat
  | .ret _ => []
  | .fail => []
  | .mem i k => i :: (k (m i)).log m

def Rd.opt {α : Type} : Option α → Rd α
  | some a => .ret a
  | none => .fail

def toFields (to : (t : Ty) → SV → Rd t.den) : List Ty → List SV → Rd (List TV)
  | [], [] => .ret []
  | [], _ :: _ => .fail
  | .named n :: ts, l =>
    (to (.named n) (.agg (l.take (U.sz n)))).bind fun x => (toFields to ts (l.drop (U.sz n))).bind fun r => .ret (⟨.named n, x⟩ :: r)
  | t :: ts, sv :: l => (to t sv).bind fun x => (toFields to ts l).bind fun r => .ret (⟨t, x⟩ :: r)
  | _ :: _, [] => .fail

def toD (lend : Bool) : Nat → (t : Ty) → SV → Rd t.den
  | 0, _, _ => .fail
  | f + 1, t, sv =>
    match sv with
    | .int k n => .opt (TV.to t ⟨.int k, n⟩)
    | .bool b => .opt (TV.to t ⟨.bool, b⟩)
    | .str s => .opt (TV.to t ⟨.str, s⟩)
    | .data u x => .opt (TV.to t ⟨u, x⟩)
    | .nilsl => match t with
      | .slice _ => .ret ([] : List _)
      | _ => .fail
    | .arr id ep => if lend then (.mem id fun b => match b with
      | some (.arr ep' u xs) => if ep' = ep then .opt (TV.to t ⟨.slice u, xs⟩) else .fail
      | _ => .fail) else .fail
    | .sub id ep off len => if lend then (.mem id fun b => match b with
      | some (.arr ep' u xs) => if ep' = ep then .opt (TV.to t ⟨.slice u, ((xs.drop off).take len : List u.den)⟩) else .fail
      | _ => .fail) else .fail
    | .tr id ep => if lend then (.mem id fun b => match b with
      | some (.tree ep' u xs) => if ep' = ep then .opt (TV.to t ⟨.slice u, xs⟩) else .fail
      | _ => .fail) else .fail
    | .agg l => match t with
      | .named n => (toFields (toD lend f) (U.tys n) l).bind fun tvs => .ret (U.bld n tvs)
      | _ => .fail
    | _ => .fail

def ownD : Nat → (t : Ty) → SV → Rd t.den
  | 0, _, _ => .fail
  | f + 1, t, sv =>
    match sv with
    | .int k n => .opt (TV.to t ⟨.int k, n⟩)
    | .bool b => .opt (TV.to t ⟨.bool, b⟩)
    | .str s => .opt (TV.to t ⟨.str, s⟩)
    | .data u x => if u.flatN fuel then .opt (TV.to t ⟨u, x⟩) else .fail
    | .nilsl => match t with
      | .slice _ => .ret ([] : List _)
      | _ => .fail
    | .arr id ep => .mem id fun b => match b with
      | some (.arr ep' u xs) => if ep' = ep ∧ u.flatN fuel = true then .opt (TV.to t ⟨.slice u, xs⟩) else .fail
      | _ => .fail
    | .tr id ep => .mem id fun b => match b with
      | some (.tree ep' u xs) => if ep' = ep then .opt (TV.to t ⟨.slice u, xs⟩) else .fail
      | _ => .fail
    | .agg l => match t with
      | .named n => (toFields (ownD f) (U.tys n) l).bind fun tvs => .ret (U.bld n tvs)
      | _ => .fail
    | _ => .fail

def toTV (lend : Bool) (t : Ty) (sv : SV) : Rd TV := (toD lend fuel t sv).bind fun x => .ret ⟨t, x⟩

def lentIds : Nat → SV → List Nat
  | _, .arr id _ => [id]
  | _, .sub id _ _ _ => [id]
  | _, .tr id _ => [id]
  | f + 1, .agg l => l.flatMap (lentIds f)
  | _, _ => []

def isPure : Nat → SV → Bool
  | _, .int _ _ | _, .bool _ | _, .str _ | _, .data _ _ | _, .nilsl => true
  | f + 1, .agg l => l.all (isPure f)
  | _, _ => false

def SV.cells : SV → Option (List SV)
  | .agg l => some l
  | .data (.named n) x => some (cellsOf fuel ⟨.named n, x⟩)
  | .top | .tup _ | .cnd _ _ | .el _ _ _ => none
  | v => some [v]

inductive PK where
  | val (t : Ty)
  | rd (t : Ty)
  | box (n : Nat)
  | clo (f : Nat) (t : Ty)

inductive RK where
  | err
  | val (t : Ty)
  | own (t : Ty)
  | ptr (n : Nat)
  | clo (f : Nat) (t : Ty)
  | deep (t : Ty)

structure FnSpec where
  ps : List PK
  rs : List RK
  pre : List TV → Prop
  fn : List TV → List TV
  bx : List TV → List TV

structure Ctx where
  ty : Nat → Option Ty
  sp : Nat → Option FnSpec
  base : Nat := 0
  deep : Bool := false
  lendv : Bool := false

def argOf0 : PK → SV → Rd (TV × List Nat × List Nat)
  | .val t, sv => (toTV true t sv).bind fun x => .ret (x, lentIds fuel sv, [])
  | .rd t, .dref u x => (Rd.opt (TV.to t ⟨u, x⟩)).bind fun x => .ret (⟨t, x⟩, [], [])
  | .rd t, .ref id ep off => .mem id fun b => match b with
    | some (.box ep' cells) => if ep' = ep then
        (match t with
         | .named n => (toTV true t (.agg ((cells.drop off).take (U.sz n)))).bind fun x => .ret (x, id :: lentIds fuel (.agg ((cells.drop off).take (U.sz n))), [])
         | t => match cells[off]? with
           | some sv => (toTV true t sv).bind fun x => .ret (x, id :: lentIds fuel sv, [])
           | none => .fail)
      else .fail
    | _ => .fail
  | .rd t, .eref id ep i p => .mem id fun b => match b with
    | some (.arr ep' u xs) => if ep' = ep then
        (match follow ⟨u, xs.getD i u.zero⟩ p with
         | some tv => (Rd.opt (TV.to t tv)).bind fun x => .ret (⟨t, x⟩, [id], [])
         | none => .fail)
      else .fail
    | _ => .fail
  | .box n, .ref id ep off => .mem id fun b => match b with
    | some (.box ep' cells) => if ep' = ep ∧ off = 0 then (toTV false (.named n) (.agg cells)).bind fun x => .ret (x, [], [id]) else .fail
    | _ => .fail
  | _, _ => .fail

def elemsD (u : Ty) : List SV → Rd (List u.den)
  | [] => .ret ([] : List u.den)
  | sv :: r => (toD true 7 u sv).bind fun x => (elemsD u r).bind fun xs => .ret (x :: xs)

def vecArg (t : Ty) (id ep off len : Nat) : Rd (TV × List Nat × List Nat) :=
  match t with
  | .slice u => .mem id fun b => match b with
    | some (.box ep' cells) => if ep' = ep ∧ off + len ≤ cells.length ∧ len ≤ 1000 ∧ u.size = 1 then
        (elemsD u ((cells.drop off).take len)).bind fun xs => .ret (⟨.slice u, xs⟩, id :: lentIds fuel (.agg ((cells.drop off).take len)), [])
      else .fail
    | _ => .fail
  | _ => .fail

def argOf (p : PK) (sv : SV) : Rd (TV × List Nat × List Nat) :=
  match p with
  | .clo f t => (match sv with
    | .clo g [v] => if g = f then argOf0 (.rd t) v else .fail
    | _ => .fail)
  | .val t => (match sv with
    | .bsl id ep off len => vecArg t id ep off len
    | sv => argOf0 (.val t) sv)
  | .rd t => argOf0 (.rd t) sv
  | .box n => argOf0 (.box n) sv

def argsOf : List PK → List SV → Rd (List TV × List Nat × List Nat)
  | [], [] => .ret ([], [], [])
  | p :: ps, v :: vs => (argOf p v).bind fun (x, l, b) => (argsOf ps vs).bind fun (xs, ls, bs) => .ret (x :: xs, l ++ ls, b ++ bs)
  | _, _ => .fail

def freshEp (id : Nat) : Rd Nat := .mem id fun b => match b with
  | some k => .ret (k.ep + 1)
  | none => .ret 1

def deepL (go : Nat → TV → Rd (List SV × List (Nat × Blk))) : Nat → List TV → Rd (List SV × List (Nat × Blk))
  | _, [] => .ret ([], [])
  | id, tv :: r => (go id tv).bind fun (cs, ms) => (deepL go (id + ms.length) r).bind fun (ds, ns) => .ret (cs ++ ds, ms ++ ns)

def deepCells : Nat → Nat → TV → Rd (List SV × List (Nat × Blk))
  | _, _, ⟨.int k, n⟩ => .ret ([.int k n], [])
  | _, _, ⟨.bool, b⟩ => .ret ([.bool b], [])
  | _, _, ⟨.str, s⟩ => .ret ([.str s], [])
  | _, id, ⟨.slice u, xs⟩ => (freshEp id).bind fun ep => if u.flatN fuel then .ret ([.arr id ep], [(id, .arr ep u xs)]) else .ret ([.tr id ep], [(id, .tree ep u xs)])
  | f + 1, id, ⟨.named n, x⟩ => deepL (deepCells f) id (U.get n x)
  | 0, _, ⟨.named _, _⟩ => .fail

def deepSV (id : Nat) : TV → Rd (SV × List (Nat × Blk))
  | ⟨.named n, x⟩ => (deepCells fuel id ⟨.named n, x⟩).bind fun (cs, ms) => .ret (.agg cs, ms)
  | ⟨.slice u, xs⟩ => (deepCells fuel id ⟨.slice u, xs⟩).bind fun (cs, ms) => match cs with
    | [sv] => .ret (sv, ms)
    | _ => .fail
  | _ => .fail

def resOf (id : Nat) : RK → TV → Rd (SV × List (Nat × Blk))
  | .err, ⟨.bool, b⟩ => .ret (.err b, [])
  | .val t, ⟨u, x⟩ => if u = t then .ret (SV.ofTV ⟨u, x⟩, []) else .fail
  | .own t, ⟨.slice u, xs⟩ => if u = t then (freshEp id).bind fun ep => .ret (.arr id ep, [(id, .arr ep u xs)]) else .fail
  | .clo f t, ⟨u, x⟩ => if u = t then .ret (.clo f [.dref u x], []) else .fail
  | .ptr n, ⟨.named m, x⟩ => if m = n then (freshEp id).bind fun ep => .ret (.ref id ep 0, [(id, .box ep (cellsOf fuel ⟨.named m, x⟩))]) else .fail
  | .deep t, tv => if tv.1 = t then deepSV id tv else .fail
  | _, _ => .fail

def ressOf : Nat → List RK → List TV → Rd (List SV × List (Nat × Blk))
  | _, [], [] => .ret ([], [])
  | id, r :: rs, x :: xs => (resOf id r x).bind fun (v, m) => (ressOf (id + max 1 m.length) rs xs).bind fun (vs, ms) => .ret (v :: vs, m ++ ms)
  | _, _, _ => .fail

def boxesOf : List Nat → List TV → Rd (List (Nat × Blk))
  | [], [] => .ret []
  | id :: ids, ⟨t, x⟩ :: xs => .mem id fun b => match b with
    | some k => (boxesOf ids xs).bind fun r => .ret ((id, .box k.ep (cellsOf fuel ⟨t, x⟩)) :: r)
    | none => .fail
  | _, _ => .fail

def killed : List Nat → Rd (List (Nat × Blk))
  | [] => .ret []
  | id :: ids => .mem id fun b => match b with
    | some (.arr ep _ _) => (killed ids).bind fun r => .ret ((id, .dead (ep + 1)) :: r)
    | some (.tree ep _ _) => (killed ids).bind fun r => .ret ((id, .dead (ep + 1)) :: r)
    | _ => .fail

def RK.flat : RK → Bool
  | .val t | .own t => t.flatN fuel
  | .ptr n => (Ty.named n).flatN fuel
  | .clo _ t => (Ty.slice t).flatN fuel
  | .deep _ => true
  | .err => true

def PK.flat : PK → Bool
  | .box n => (Ty.named n).flatN fuel
  | _ => true

structure Res where
  val : SV
  memw : List (Nat × Blk) := []
  ob : List Prop := []

def nodupN : List Nat → Bool
  | [] => true
  | i :: r => !(r.contains i) && nodupN r

def packSV : List SV → SV
  | [v] => v
  | vs => .tup vs

def doCall (sp : FnSpec) (d : Nat) (vs : List SV) : Rd Res :=
  (argsOf sp.ps vs).bind fun (tvs, lent, bs) =>
  if !(nodupN bs) || lent.any (bs.contains ·) then .fail else
  (ressOf (d * 4) sp.rs (sp.fn tvs)).bind fun (rvs, ms) =>
  (boxesOf bs (sp.bx tvs)).bind fun bw =>
  if ms.any (fun m => lent.contains m.1 || bs.contains m.1) then .fail else
  let v := packSV rvs
  if lent.isEmpty || (sp.rs.all RK.flat && sp.ps.all PK.flat) then .ret { val := v, memw := ms ++ bw, ob := [sp.pre tvs] }
  else if nodupN lent then (killed lent).bind fun ks => .ret { val := v, memw := ks ++ (ms ++ bw), ob := [sp.pre tvs] }
  else .fail

def inR (k : IntKind) (n : Int) : Prop := k.min ≤ n ∧ n ≤ k.max

def constSV : Value → SV
  | .int k n => if k.min ≤ n ∧ n ≤ k.max then .int k n else .top
  | .bool b => .bool b
  | .string s => if (s.size : Int) ≤ lim then .str s else .top
  | .slice none 0 0 => .nilsl
  | .pointer none => .nilptr
  | .nilIface => .err false
  | _ => .top

def OFF : Nat := 1000

def peek (env : Nat → SV) (t : Nat) : SV := bif Nat.blt t OFF then env t else .top

def opv (env : Nat → SV) : Operand → SV × List Prop
  | .tmp t => match peek env t with
    | .cnd p v => (v, [p])
    | v => (v, [])
  | .const v => (constSV v, [])
  | .func f => (.clo f [], [])
  | .global _ => (.top, [])

def intBin (wr : Bool) (k k' : IntKind) (a b : Int) : BinOp → Option (SV × List Prop)
  | .shl => if wr then some (.int k (k.wrap (a * 2 ^ b.toNat)), [0 ≤ b ∧ b ≤ k.bits]) else some (.int k (a * 2 ^ b.toNat), [0 ≤ b ∧ b ≤ k.bits, inR k (a * 2 ^ b.toNat)])
  | .shr => some (.int k (a / 2 ^ b.toNat), [0 ≤ b ∧ b ≤ k.bits])
  | .add => if k' = k then (if wr then some (.int k (k.wrap (a + b)), []) else some (.int k (a + b), [inR k (a + b)])) else none
  | .sub => if k' = k then (if wr then some (.int k (k.wrap (a - b)), []) else some (.int k (a - b), [inR k (a - b)])) else none
  | .mul => if k' = k then (if wr then some (.int k (k.wrap (a * b)), []) else some (.int k (a * b), [inR k (a * b)])) else none
  | .quo => if k' = k then (if wr then some (.int k (k.wrap (a.tdiv b)), [b ≠ 0]) else some (.int k (a / b), [0 ≤ a ∧ 0 < b])) else none
  | .rem => if k' = k then (if wr then some (.int k (a.tmod b), [b ≠ 0]) else some (.int k (a % b), [0 ≤ a ∧ 0 < b])) else none
  | .and => if k' = k then some (.int k (bits .and k a b), []) else none
  | .or => if k' = k then some (.int k (bits .or k a b), []) else none
  | .xor => if k' = k then some (.int k (bits .xor k a b), []) else none
  | .andNot => if k' = k then some (.int k (bits .andNot k a b), []) else none
  | .eql => if k' = k then some (.bool (a == b), []) else none
  | .neq => if k' = k then some (.bool (a != b), []) else none
  | .lss => if k' = k then some (.bool (decide (a < b)), []) else none
  | .leq => if k' = k then some (.bool (decide (a ≤ b)), []) else none
  | .gtr => if k' = k then some (.bool (decide (b < a)), []) else none
  | .geq => if k' = k then some (.bool (decide (b ≤ a)), []) else none

def seq (a b : ByteArray) : Bool := a.toList == b.toList

def sat (s : ByteArray) (i : Int) : Int := ((s.data.getD i.toNat 0).toNat : Nat)

def strOf (l : List Int) : ByteArray := ⟨(l.map fun n => UInt8.ofNat n.toNat).toArray⟩

def strBin (a b : ByteArray) : BinOp → Option (SV × List Prop)
  | .add => some (.str (a ++ b), [((a.size + b.size : Nat) : Int) ≤ lim])
  | .eql => some (.bool (seq a b), [])
  | .neq => some (.bool (!(seq a b)), [])
  | _ => none

def binSV (wr : Bool) (op : BinOp) : SV → SV → Option (SV × List Prop)
  | .int k a, .int k' b => intBin wr k k' a b op
  | .str a, .str b => strBin a b op
  | _, _ => none

def unSV (wr : Bool) (op : UnOp) : SV → Option (SV × List Prop)
  | .bool b => match op with
    | .not => some (.bool (!b), [])
    | _ => none
  | .int k n => match op with
    | .neg => if wr then some (.int k (k.wrap (0 - n)), []) else some (.int k (-n), [inR k (-n)])
    | _ => none
  | _ => none

def lenSV : SV → Rd Int
  | .data (.slice _) xs => .ret (xs.length : Int)
  | .nilsl => .ret 0
  | .str s => .ret ((s.size : Nat) : Int)
  | .arr id ep => .mem id fun b => match b with
    | some (.arr ep' _ xs) => if ep' = ep then .ret (xs.length : Int) else .fail
    | _ => .fail
  | .sub id ep _ len => .mem id fun b => match b with
    | some (.arr ep' _ _) => if ep' = ep then .ret (len : Int) else .fail
    | _ => .fail
  | .tr id ep => .mem id fun b => match b with
    | some (.tree ep' _ xs) => if ep' = ep then .ret (xs.length : Int) else .fail
    | _ => .fail
  | _ => .fail

def SV.force {α : Type} (v : SV) (k : SV → α) : α :=
  match v with
  | .top => k .top
  | .int a b => k (.int a b)
  | .bool b => k (.bool b)
  | .str s => k (.str s)
  | .data t x => k (.data t x)
  | .nilsl => k .nilsl
  | .nilptr => k .nilptr
  | .err b => k (.err b)
  | .el a b c => k (.el a b c)
  | .mp a b => k (.mp a b)
  | .arr a b => k (.arr a b)
  | .sub a b c d => k (.sub a b c d)
  | .ref a b c => k (.ref a b c)
  | .bsl a b c d => k (.bsl a b c d)
  | .eref a b c d => k (.eref a b c d)
  | .tr a b => k (.tr a b)
  | .tref a b c d => k (.tref a b c d)
  | .dref t x => k (.dref t x)
  | .agg l => k (.agg l)
  | .tup l => k (.tup l)
  | .clo f l => k (.clo f l)
  | .cnd p v => k (.cnd p v)

def treeCells : Nat → TV → List SV
  | f + 1, ⟨.named n, x⟩ => (U.get n x).flatMap (treeCells f)
  | 0, ⟨.named n, _⟩ => List.replicate (U.sz n) .top
  | _, ⟨.int k, n⟩ => [.int k n]
  | _, ⟨.bool, b⟩ => [.bool b]
  | _, ⟨.str, s⟩ => [.str s]
  | _, ⟨.slice _, _⟩ => [.top]

def treeSV (tv : TV) : SV :=
  if tv.1.flatN fuel then SV.ofTV tv else match tv with
    | ⟨.named n, x⟩ => .agg (treeCells fuel ⟨.named n, x⟩)
    | _ => .top

def Ty.isNamed : Ty → Bool
  | .named _ => true
  | _ => false

def loadSV (t : Ty) : SV → Rd SV
  | .dref u x => if u = t then .ret (SV.ofTV ⟨u, x⟩) else .fail
  | .ref id ep off => .mem id fun b => match b with
    | some (.box ep' cells) => if ep' = ep then
        (match t with
         | .named n => if off + U.sz n ≤ cells.length then .ret (.agg ((cells.drop off).take (U.sz n))) else .fail
         | _ => match cells[off]? with
           | some sv => .ret sv
           | none => .fail)
      else .fail
    | _ => .fail
  | .eref id ep i p => .mem id fun b => match b with
    | some (.arr ep' u xs) => if ep' = ep then
        (match follow ⟨u, xs.getD i u.zero⟩ p with
         | some ⟨v, x⟩ => if v = t then .ret (SV.ofTV ⟨v, x⟩) else .fail
         | none => .fail)
      else .fail
    | _ => .fail
  | .tref id ep i p => .mem id fun b => match b with
    | some (.tree ep' u xs) => if ep' = ep then
        (match follow ⟨u, xs.getD i u.zero⟩ p with
         | some ⟨v, x⟩ => if v = t then .ret (treeSV ⟨v, x⟩) else .fail
         | none => .fail)
      else .fail
    | some (.hole ep' u _ _ (some f)) => if ep' = ep ∧ p.isEmpty = true ∧ u = t ∧ u.isNamed = true then .ret (.el id i (f i)) else .fail
    | _ => .fail
  | _ => .fail

def putCells (cells : List SV) (off : Nat) (vs : List SV) : List SV := cells.take off ++ vs ++ cells.drop (off + vs.length)

def storeSV (t : Ty) (v : SV) : SV → Rd (List (Nat × Blk))
  | .ref id ep off => .mem id fun b => match b with
    | some (.box ep' cells) => (match v.cells with
      | some vs => if ep' = ep ∧ vs.length = t.size ∧ off + vs.length ≤ cells.length then .ret [(id, .box ep' (putCells cells off vs))] else .fail
      | none => .fail)
    | _ => .fail
  | .eref id ep i p => .mem id fun b => match b with
    | some (.arr ep' u xs) => if ep' = ep ∧ !((lentIds fuel v).contains id) ∧ nodupN (lentIds fuel v) then
        (toTV true t v).bind fun tv =>
        match updAt ⟨u, xs.getD i u.zero⟩ p tv with
        | some tv' => (match TV.to u tv' with
          | some y => (killed (lentIds fuel v)).bind fun ks => .ret (ks ++ [(id, .arr ep' u (xs.set i y))])
          | none => .fail)
        | none => .fail
      else .fail
    | _ => .fail
  | .tref id ep i p => .mem id fun b => match b with
    | some (.tree ep' u xs) => if ep' = ep ∧ !((lentIds fuel v).contains id) ∧ nodupN (lentIds fuel v) then
        (ownD fuel t v).bind fun x =>
        match updAt ⟨u, xs.getD i u.zero⟩ p ⟨t, x⟩ with
        | some tv' => (match TV.to u tv' with
          | some y => (killed (lentIds fuel v)).bind fun ks => .ret (ks ++ [(id, .tree ep' u (xs.set i y))])
          | none => .fail)
        | none => .fail
      else .fail
    | some (.hole ep' u xs hs _) => if ep' = ep ∧ p.isEmpty = true ∧ !((lentIds fuel v).contains id) ∧ nodupN (lentIds fuel v) then
        (ownD fuel t v).bind fun x =>
        match TV.to u ⟨t, x⟩ with
        | some y => (killed (lentIds fuel v)).bind fun ks => .ret (ks ++ [(id, .hole ep' u (xs.set i y) (hs.filter fun k => !(Nat.beq k i)) none)])
        | none => .fail
      else .fail
    | _ => .fail
  | _ => .fail

def fieldAddrSV (n f : Nat) : SV → Rd SV
  | .ref id ep off => .ret (.ref id ep (off + offsetOf n f))
  | .eref id ep i p => .mem id fun b => match b with
    | some (.arr ep' u _) => if ep' = ep then (match pathOff u p with
        | some (_, .named m) => if m = n then .ret (.eref id ep i (p ++ [f])) else .fail
        | _ => .fail) else .fail
    | _ => .fail
  | .tref id ep i p => .mem id fun b => match b with
    | some (.tree ep' u _) => if ep' = ep then (match pathOff u p with
        | some (_, .named m) => if m = n then .ret (.tref id ep i (p ++ [f])) else .fail
        | _ => .fail) else .fail
    | _ => .fail
  | .dref (.named m) x => if m = n then (match (U.get m x)[f]? with
      | some ⟨t, y⟩ => .ret (.dref t y)
      | none => .fail) else .fail
  | _ => .fail

def fieldSV (n f : Nat) (ft : Ty) : SV → Option SV
  | .data (.named m) x => if m = n then (match (U.get m x)[f]? with
      | some tv => some (SV.ofTV tv)
      | none => none) else none
  | .agg l => if l.length = U.sz n then (match ft with
      | .named m => some (.agg ((l.drop (offsetOf n f)).take (U.sz m)))
      | _ => l[offsetOf n f]?) else none
  | _ => none

def indexSV (t : Ty) (i : Int) : SV → Rd (SV × List Prop)
  | .data (.slice u) xs => if u = t then .ret (.dref u (xs.getD i.toNat u.zero), [0 ≤ i ∧ i < (xs.length : Int)]) else .fail
  | .arr id ep => .mem id fun b => match b with
    | some (.arr ep' u xs) => if ep' = ep ∧ u = t then .ret (.eref id ep i.toNat [], [0 ≤ i ∧ i < (xs.length : Int)]) else .fail
    | _ => .fail
  | .sub id ep off len => .mem id fun b => match b with
    | some (.arr ep' u _) => if ep' = ep ∧ u = t then .ret (.eref id ep (off + i.toNat) [], [0 ≤ i ∧ i < (len : Int)]) else .fail
    | _ => .fail
  | .tr id ep => .mem id fun b => match b with
    | some (.tree ep' u xs) => if ep' = ep ∧ u = t then .ret (.tref id ep i.toNat [], [0 ≤ i ∧ i < (xs.length : Int)]) else .fail
    | some (.hole ep' u xs _ _) => if ep' = ep ∧ u = t then .ret (.tref id ep i.toNat [], [0 ≤ i ∧ i < (xs.length : Int)]) else .fail
    | _ => .fail
  | _ => .fail

def indexArr (t : Ty) (len : Nat) (i : Int) : SV → Rd (SV × List Prop)
  | .eref id ep 0 [] => .mem id fun b => match b with
    | some (.arr ep' u xs) => if ep' = ep ∧ u = t then .ret (.eref id ep i.toNat [], [0 ≤ i ∧ i < (len : Int), i < (xs.length : Int)]) else .fail
    | _ => .fail
  | _ => .fail

def sliceSV (lo : Option Int) (hi : Option Int) : SV → Rd (SV × List Prop)
  | .nilsl =>
    match lo, hi with
    | none, some h => .ret (.nilsl, [h = 0])
    | _, _ => .fail
  | .data (.slice u) xs =>
    match lo, hi with
    | none, none => .ret (.data (.slice u) xs, [])
    | some l, none => .ret (.data (.slice u) (xs.drop l.toNat : List u.den), [0 ≤ l ∧ l ≤ (xs.length : Int)])
    | none, some h => .ret (.data (.slice u) (xs.take h.toNat : List u.den), [0 ≤ h ∧ h ≤ (xs.length : Int)])
    | some l, some h => .ret (.data (.slice u) ((xs.take h.toNat).drop l.toNat : List u.den), [0 ≤ l ∧ l ≤ h ∧ h ≤ (xs.length : Int)])
  | .arr id ep => .mem id fun b => match b with
    | some (.arr ep' _ xs) => if ep' = ep then
        (match lo, hi with
         | none, none => .ret (.arr id ep, [])
         | some l, none => .ret (.sub id ep l.toNat (xs.length - l.toNat), [0 ≤ l ∧ l ≤ (xs.length : Int)])
         | none, some h => .ret (.sub id ep 0 h.toNat, [0 ≤ h ∧ h ≤ (xs.length : Int)])
         | some l, some h => .ret (.sub id ep l.toNat (h.toNat - l.toNat), [0 ≤ l ∧ l ≤ h ∧ h ≤ (xs.length : Int)]))
      else .fail
    | _ => .fail
  | _ => .fail

def appendSV (d : Nat) (t : Ty) (v : SV) (ys : List t.den) : Rd Res :=
  match v with
  | .nilsl => (freshEp (d * 4)).bind fun ep =>
      .ret { val := .arr (d * 4) ep, memw := [(d * 4, .arr ep t ys)], ob := [(ys.length : Int) ≤ 4294967296] }
  | .arr id ep => .mem id fun b => match b with
    | some (.arr ep' u xs) => if ep' = ep then (match TV.toL t ⟨.slice u, xs⟩ with
        | some xs => .ret { val := .arr id (ep + 1), memw := [(id, .arr (ep + 1) t (xs ++ ys))], ob := [(xs.length : Int) + (ys.length : Int) ≤ 4294967296] }
        | none => .fail) else .fail
    | _ => .fail
  | .sub id ep off len => .mem id fun b => match b with
    | some (.arr ep' u xs) => if ep' = ep ∧ off = 0 then (match TV.toL t ⟨.slice u, xs⟩ with
        | some xs => .ret { val := .arr id (ep + 1), memw := [(id, .arr (ep + 1) t (xs.take len ++ ys))], ob := [(len : Int) + (ys.length : Int) ≤ 4294967296] }
        | none => .fail) else .fail
    | _ => .fail
  | _ => .fail

def SV.isTr : SV → Bool
  | .tr _ _ => true
  | _ => false

def appendTr (t : Ty) (v y : SV) : Rd Res :=
  match v, y with
  | .tr id ep, .tr jd jp => .mem id fun b => .mem jd fun c => match b, c with
    | some (.tree ep' u xs), some (.tree jp' u' ys) => if ep' = ep ∧ jp' = jp ∧ id ≠ jd then (match TV.toL t ⟨.slice u, xs⟩, TV.toL t ⟨.slice u', ys⟩ with
        | some xs, some ys => .ret { val := .tr id (ep + 1), memw := [(jd, .dead (jp + 1)), (id, .tree (ep + 1) t (xs ++ ys))], ob := [(xs.length : Int) + (ys.length : Int) ≤ 4294967296] }
        | _, _ => .fail) else .fail
    | _, _ => .fail
  | _, _ => .fail

def sliceTy (t : Ty) : SV → Rd Unit
  | .nilsl => .ret ()
  | .data (.slice u) _ => if u = t then .ret () else .fail
  | .arr id _ => .mem id fun b => match b with
    | some (.arr _ u _) => if u = t then .ret () else .fail
    | _ => .fail
  | _ => .fail

def listOf (t : Ty) : SV → Rd (List t.den)
  | .data u x => Rd.opt (TV.toL t ⟨u, x⟩)
  | .nilsl => .ret ([] : List t.den)
  | .arr id ep => .mem id fun b => match b with
    | some (.arr ep' u xs) => if ep' = ep then Rd.opt (TV.toL t ⟨.slice u, xs⟩) else .fail
    | _ => .fail
  | .sub id ep off len => .mem id fun b => match b with
    | some (.arr ep' u xs) => if ep' = ep then Rd.opt (TV.toL t ⟨.slice u, ((xs.drop off).take len : List u.den)⟩) else .fail
    | _ => .fail
  | _ => .fail

def findPart {α : Type} (i : Nat) : List (Nat × α) → Option α
  | [] => none
  | (j, v) :: r => if j = i then some v else findPart i r

def buildFields (ps : List (Nat × SV)) : Nat → List Ty → Rd (List TV)
  | _, [] => .ret []
  | i, t :: ts => (match findPart i ps with
      | some v => toTV false t v
      | none => .ret ⟨t, t.zero⟩).bind fun tv => (buildFields ps (i + 1) ts).bind fun r => .ret (tv :: r)

def partCells (ps : List (Nat × SV)) (i : Nat) (t : Ty) : Option (List SV) :=
  match findPart i ps with
  | some v => v.cells
  | none => some (zcells 7 t)

def givenAll (ps : List (Nat × SV)) : Nat → List Ty → Bool
  | _, [] => true
  | i, t :: ts => ((findPart i ps).isSome || t.flatN fuel) && givenAll ps (i + 1) ts

def buildCells (ps : List (Nat × SV)) : Nat → List Ty → Option (List SV)
  | _, [] => some []
  | i, t :: ts =>
    match partCells ps i t with
    | some vs => if vs.length = t.size then (match buildCells ps (i + 1) ts with
      | some r => some (vs ++ r)
      | none => none) else none
    | none => none

def inOrder (n : Nat) : Nat → List Nat → Bool
  | _, [] => true
  | i, j :: r => decide (i ≤ j) && decide (j < n) && inOrder n (j + 1) r

def buildElems (t : Ty) : Nat → List (Nat × SV) → Rd (List t.den)
  | _, [] => .ret ([] : List t.den)
  | i, (j, v) :: r => if j = i then (toD true fuel t v).bind fun x => (buildElems t (i + 1) r).bind fun xs => .ret (x :: xs) else .fail

def oneAll : Nat → List (Nat × SV) → Bool
  | _, [] => true
  | i, (j, .arr _ _) :: r => Nat.beq j i && oneAll (i + 1) r
  | i, (j, .sub _ _ _ _) :: r => Nat.beq j i && oneAll (i + 1) r
  | _, _ => false

def buildOwned (t : Ty) : Nat → List (Nat × SV) → Rd (List t.den)
  | _, [] => .ret ([] : List t.den)
  | i, (j, v) :: r => if j = i then (ownD fuel t v).bind fun x => (buildOwned t (i + 1) r).bind fun xs => .ret (x :: xs) else .fail

def optInt (env : Nat → SV) : Option Operand → Option (Option Int × List Prop)
  | none => some (none, [])
  | some x => match opv env x with
    | (.int _ n, ps) => some (some n, ps)
    | _ => none

def opvs (env : Nat → SV) : List Operand → List SV × List Prop
  | [] => ([], [])
  | x :: r => let (v, p) := opv env x
    let (vs, ps) := opvs env r
    (v :: vs, p ++ ps)

def partsOf (env : Nat → SV) : List (Nat × Operand) → List (Nat × SV) × List Prop
  | [] => ([], [])
  | (i, x) :: r => let (v, p) := opv env x
    let (vs, ps) := partsOf env r
    ((i, v) :: vs, p ++ ps)

def SV.aggCells : SV → Option (List SV)
  | .agg l => some l
  | .data (.named n) x => some (cellsOf fuel ⟨.named n, x⟩)
  | _ => none

def eqCells : List Ty → List SV → List SV → Option Bool
  | [], [], [] => some true
  | .int _ :: ts, .int k a :: xs, .int k' b :: ys => (match eqCells ts xs ys with
    | some r => if k' = k then some (bif a == b then r else false) else none
    | none => none)
  | .bool :: ts, .bool a :: xs, .bool b :: ys => (match eqCells ts xs ys with
    | some r => some (bif a == b then r else false)
    | none => none)
  | _, _, _ => none

def eqSV : Ty → Bool → SV → SV → Option SV
  | .bool, neg, .bool a, .bool b => some (.bool (bif neg then a != b else a == b))
  | .named n, neg, v, u => (match v.aggCells, u.aggCells with
    | some l, some l' => bif U.cmp n then (match eqCells (U.tys n) l l' with
      | some b => some (.bool (bif neg then !b else b))
      | none => none) else none
    | _, _ => none)
  | _, _, _, _ => none

def minSV (max : Bool) : SV → SV → Option SV
  | .int k a, .int k' b => if k' = k then some (.int k (if max then (if b > a then b else a) else (if b < a then b else a))) else none
  | _, _ => none

def minsSV (max : Bool) : SV → List SV → Option SV
  | v, [] => some v
  | v, u :: r => match minSV max v u with
    | some x => minsSV max x r
    | none => none

def Rd.withOb (ps : List Prop) (r : Rd Res) : Rd Res := r.bind fun x => .ret { x with ob := ps ++ x.ob }

def ofOpt (x : Option (SV × List Prop)) : Rd Res :=
  match x with
  | some (v, ob) => .ret { val := v, ob }
  | none => .fail

def Ctx.elem (C : Ctx) (T : Nat) : Option Ty :=
  match C.ty T with
  | some (.slice t) => some t
  | _ => none

def lenTy (C : Ctx) (T : Nat) : SV → Bool
  | .str _ => C.ty T == some .str
  | _ => (C.elem T).isSome

def appendZ (C : Ctx) (d : Nat) (t : Ty) (T' : Nat) : SV → SV → Rd Res
  | .nilsl, .int .i64 n => if C.ty T' = some (.int .i64) ∧ 0 < t.size then (freshEp (d * 4)).bind fun ep => .ret { val := .arr (d * 4) ep, memw := [(d * 4, .arr ep t (List.replicate n.toNat t.zero))], ob := [0 < n ∧ n ≤ 4294967296] } else .fail
  | _, _ => .fail

def copySV (t : Ty) (v : SV) (ys : List t.den) : Rd Res :=
  match v with
  | .arr id ep => .mem id fun b => match b with
    | some (.arr ep' u xs) => if ep' = ep then (match TV.toL t ⟨.slice u, xs⟩ with
        | some xs => .ret { val := .int .i64 (ys.length : Int), memw := [(id, .arr ep t ys)], ob := [xs.length = ys.length] }
        | none => .fail) else .fail
    | _ => .fail
  | _ => .fail

def mget : List (Int × Int) → Int → Int
  | [], _ => 0
  | (a, b) :: r, k => if a = k then b else mget r k

def mput : List (Int × Int) → Int → Int → List (Int × Int)
  | [], k, v => [(k, v)]
  | (a, b) :: r, k, v => if a = k then (k, v) :: r else (a, b) :: mput r k v

def isMap (C : Ctx) (T : Nat) : Bool :=
  match findP T U.maps with
  | some T' => C.ty T' == some (.int .i64)
  | none => false

def mapGet (v : SV) (k : Int) (ps : List Prop) : Rd Res :=
  match v with
  | .mp id ep => .mem id fun b => match b with
    | some (.mp ep' l) => if ep' = ep then .ret { val := .int .i64 (mget l k), ob := ps } else .fail
    | _ => .fail
  | _ => .fail

def mapPut (v : SV) (k x : Int) (ps : List Prop) : Rd Res :=
  match v with
  | .mp id ep => .mem id fun b => match b with
    | some (.mp ep' l) => if ep' = ep then .ret { val := .top, memw := [(id, .mp ep (mput l k x))], ob := ps } else .fail
    | _ => .fail
  | _ => .fail

def mapLen (v : SV) : Rd Res :=
  match v with
  | .mp id ep => .mem id fun b => match b with
    | some (.mp ep' l) => if ep' = ep then .ret { val := .int .i64 (l.length : Int), ob := [(l.length : Int) ≤ lim] } else .fail
    | _ => .fail
  | _ => .fail

def stepBuiltin (C : Ctx) (d : Nat) (b : Builtin) (ats : List Nat) (vs : List SV) : Rd Res :=
  match b, ats, vs with
  | .len, [T], [v] => if lenTy C T v then (lenSV v).bind fun n => .ret { val := .int .i64 n } else if isMap C T then mapLen v else .fail
  | .append, [T, T'], [v, y] =>
    (match C.elem T with
     | some t => if C.ty T' = some (.slice t) then (if v.isTr then appendTr t v y else (listOf t y).bind fun ys => appendSV d t v ys) else appendZ C d t T' v y
     | none => .fail)
  | .copy, [T, T'], [v, y] =>
    (match C.elem T with
     | some t => if C.ty T' = some (.slice t) then (listOf t y).bind fun ys => copySV t v ys else .fail
     | none => .fail)
  | .cap, [T], [.nilsl] => if (C.elem T).isSome then .ret { val := .int .i64 0 } else .fail
  | .min, _, v :: vs => (match minsSV false v vs with
     | some x => .ret { val := x }
     | none => .fail)
  | .max, _, v :: vs => (match minsSV true v vs with
     | some x => .ret { val := x }
     | none => .fail)
  | _, _, _ => .fail

def errNeq (C : Ctx) (T : Nat) (v : SV) (y : Operand) (ps : List Prop) : Rd Res :=
  match findP T U.ifcs, v, y with
  | some T', .err b, .const .nilIface => (match C.ty T' with
    | some _ => .ret { val := .bool b, ob := ps }
    | none => .fail)
  | _, _, _ => .fail

def bytesStr (sT tT : Option Ty) (v : SV) (ps : List Prop) : Rd Res :=
  match sT, tT, v with
  | some (.slice (.int .u8)), some .str, .arr id ep => .mem id fun b => match b with
    | some (.arr ep' u xs) => if ep' = ep then (match TV.toL (.int .u8) ⟨.slice u, xs⟩ with
      | some xs => .ret { val := .str (strOf xs), ob := ps }
      | none => .fail) else .fail
    | _ => .fail
  | _, _, _ => .fail

def cutStr (v : SV) (l h : Option Int) (ps : List Prop) : Rd Res :=
  match v with
  | .str s => .ret { val := .str (s.extract (l.getD 0).toNat (h.getD (s.size : Nat)).toNat), ob := ps ++ [0 ≤ l.getD 0 ∧ l.getD 0 ≤ h.getD (s.size : Nat) ∧ h.getD (s.size : Nat) ≤ (s.size : Nat)] }
  | _ => .fail

def loadRes (t : Ty) (d : Nat) (ps : List Prop) (v : SV) : Rd Res :=
  match v with
  | .tref id ep i [] => .mem id fun b => match b with
    | some (.hole ep' u xs [] none) => if ep' = ep ∧ u = t ∧ u.isNamed = true then (deepCells fuel (d * 4) ⟨u, xs.getD i u.zero⟩).bind fun (cs, ms) => if ms.any (fun m => Nat.beq m.1 id) then .fail else .ret { val := .agg cs, memw := (id, .hole ep' u xs [i] none) :: ms, ob := ps } else .fail
    | _ => (loadSV t v).bind fun x => x.force fun x => .ret { val := x, ob := ps }
  | _ => (loadSV t v).bind fun x => x.force fun x => .ret { val := x, ob := ps }

def elPair : List (Nat × SV) → Option (Nat × Nat × List Value × Nat × List Value)
  | [(0, .el id i cs), (1, .el jd j ds)] => if jd = id then some (id, i, cs, j, ds) else none
  | _ => none

def takePair (t : Ty) (d len : Nat) (ob : List Prop) (id i : Nat) (cs : List Value) (j : Nat) (ds : List Value) : Rd Res :=
  .mem id fun b => match b with
    | some (.hole ep' u xs [] (some f)) => if len = 2 ∧ id ≠ d * 4 then (match TV.toL t ⟨.slice u, xs⟩ with
        | some xs => (freshEp (d * 4)).bind fun ep => .ret { val := .tr (d * 4) ep, memw := [(id, .hole ep' t xs [i, j] none), (d * 4, .tree ep t [xs.getD i t.zero, xs.getD j t.zero])], ob := ob ++ [i < xs.length ∧ j < xs.length ∧ i ≠ j, f i = cs ∧ f j = ds] }
        | none => .fail) else .fail
    | _ => .fail

def stepOp (C : Ctx) (wr : Bool) (env : Nat → SV) (d : Nat) (op : Op) : Rd Res :=
  match op with
  | .move x | .assign x =>
    let (v, ps) := opv env x
    v.force fun v => .ret { val := v, ob := ps }
  | .pick c a b =>
    (match opv env c with
     | (.bool x, ps) => (match opv env a, opv env b with
        | (.bool y, qs), (.bool z, rs) => .ret { val := .bool (bif x then y else z), ob := ps ++ (qs.map fun q => x = true → q) ++ rs.map fun r => x = false → r }
        | (.bool y, qs), _ => .ret { val := .bool y, ob := ps ++ [x = true] ++ qs }
        | _, (.bool z, rs) => .ret { val := .bool z, ob := ps ++ [x = false] ++ rs }
        | _, _ => .fail)
     | _ => .fail)
  | .alloc T =>
    (match C.ty T with
     | some t => (freshEp (d * 4)).bind fun ep => .ret { val := .ref (d * 4) ep 0, memw := [(d * 4, .box ep (zcells fuel t))] }
     | none => (match findA T U.arrs with
       | some (e, n) => (match C.ty e with
         | some t => (freshEp (d * 4)).bind fun ep => .ret { val := .eref (d * 4) ep 0 [], memw := [(d * 4, .arr ep t (List.replicate n t.zero))] }
         | none => .fail)
       | none => .fail))
  | .box T x =>
    (match C.ty T, opv env x with
     | some t, (v, ps) => (match v.cells with
       | some cs => if cs.length = t.size then (freshEp (d * 4)).bind fun ep => .ret { val := .ref (d * 4) ep 0, memw := [(d * 4, .box ep cs)], ob := ps } else .fail
       | none => .fail)
     | none, (v, ps) => (match v.cells with
       | some [c] => if (findP T U.ptrs).isSome || U.fvars.contains T then (freshEp (d * 4)).bind fun ep => .ret { val := .ref (d * 4) ep 0, memw := [(d * 4, .box ep [c])], ob := ps } else .fail
       | _ => .fail))
  | .build T parts =>
    (match C.ty T with
     | some (.named n) =>
       if parts.toList.isEmpty && !((Ty.named n).flatN fuel) then .ret { val := .agg (zcells fuel (.named n)) } else
       let (ps, ob) := partsOf env parts.toList
       if !(inOrder (U.tys n).length 0 (ps.map (·.1))) then .fail else
       if (ps.all fun p => isPure fuel p.2) && givenAll ps 0 (U.tys n) then (buildFields ps 0 (U.tys n)).bind fun tvs => .ret { val := .data (.named n) (U.bld n tvs), ob }
       else (match buildCells ps 0 (U.tys n) with
         | some cs => .ret { val := .agg cs, ob }
         | none => .fail)
     | _ => .fail)
  | .buildSlice T len parts =>
    (match C.elem T with
     | some t =>
       let (ps, ob) := partsOf env parts.toList
       match elPair ps with
       | some (id, i, cs, j, ds) => takePair t d len ob id i cs j ds
       | none =>
       if (C.lendv && !ps.isEmpty && oneAll 0 ps) = true then (if ps.length = len ∧ len ≤ 1000 ∧ t.size = 1 then (freshEp (d * 4)).bind fun ep =>
         .ret { val := .bsl (d * 4) ep 0 len, memw := [(d * 4, .box ep (ps.map (·.2)))], ob } else .fail) else
       let ids := ps.flatMap fun p => lentIds fuel p.2
       if (C.deep && !(t.flatN fuel)) = true then (if ps.length = len ∧ len ≤ 1000 ∧ nodupN ids ∧ !(ids.contains (d * 4)) then (buildOwned t 0 ps).bind fun xs => (killed ids).bind fun ks => (freshEp (d * 4)).bind fun ep =>
         .ret { val := .tr (d * 4) ep, memw := ks ++ [(d * 4, .tree ep t xs)], ob } else .fail) else
       if ps.length = len ∧ len ≤ 1000 ∧ nodupN ids ∧ !(ids.contains (d * 4)) then (buildElems t 0 ps).bind fun xs => (killed ids).bind fun ks => (freshEp (d * 4)).bind fun ep =>
         .ret { val := .arr (d * 4) ep, memw := ks ++ [(d * 4, .arr ep t xs)], ob } else .fail
     | none => .fail)
  | .load T a =>
    (match C.ty T, opv env a with
     | some t, (v, ps) => loadRes t d ps v
     | none, (v, ps) => (match findP T U.ptrs with
       | some T' => (match C.ty T' with
         | some _ => (loadSV .bool v).bind fun x => x.force fun x => .ret { val := x, ob := ps }
         | none => .fail)
       | none => .fail))
  | .store T a x =>
    (match C.ty T, opv env a, opv env x with
     | some t, (v, ps), (y, qs) => (storeSV t y v).bind fun m => .ret { val := .top, memw := m, ob := ps ++ qs }
     | none, _, _ => .fail)
  | .nilCheck x =>
    (match opv env x with
     | (.ref a b c, ps) => .ret { val := .ref a b c, ob := ps }
     | (.eref a b c e, ps) => .ret { val := .eref a b c e, ob := ps }
     | (.tref a b c e, ps) => .ret { val := .tref a b c e, ob := ps }
     | (.dref t y, ps) => .ret { val := .dref t y, ob := ps }
     | (.clo f l, ps) => .ret { val := .clo f l, ob := ps }
     | _ => .fail)
  | .binOp op T x y _ =>
    (match opv env x, opv env y with
     | (v, ps), (u, qs) => (match binSV wr op v u with
        | some (r, ob) => .ret { val := r, ob := ps ++ qs ++ ob }
        | none => (match C.ty T, op with
          | some t, .eql => (match eqSV t false v u with
             | some r => .ret { val := r, ob := ps ++ qs }
             | none => .fail)
          | some t, .neq => (match eqSV t true v u with
             | some r => .ret { val := r, ob := ps ++ qs }
             | none => .fail)
          | none, .neq => errNeq C T v y ps
          | _, _ => .fail)))
  | .unOp op _ x =>
    (match opv env x with
     | (v, ps) => (ofOpt (unSV wr op v)).withOb ps)
  | .convert S T x =>
    (match C.ty S, C.ty T, opv env x with
     | some _, some (.int k), (.int _ n, ps) => .ret { val := .int k n, ob := ps ++ [inR k n] }
     | sT, tT, (v, ps) => bytesStr sT tT v ps)
  | .index T x i =>
    (match C.ty T, opv env x, opv env i with
     | some .str, (.str s, ps), (.int _ n, qs) => .ret { val := .int .u8 (sat s n), ob := ps ++ qs ++ [0 ≤ n ∧ n < (s.size : Nat)] }
     | _, _, _ => .fail)
  | .makeMap T none => if isMap C T then (freshEp (d * 4)).bind fun ep => .ret { val := .mp (d * 4) ep, memw := [(d * 4, .mp ep [])] } else .fail
  | .lookup T m k false =>
    (match opv env m, opv env k with
     | (v, ps), (.int .i64 n, qs) => if isMap C T then mapGet v n (ps ++ qs) else .fail
     | _, _ => .fail)
  | .mapUpdate T m k x =>
    (match opv env m, opv env k, opv env x with
     | (v, ps), (.int .i64 n, qs), (.int .i64 y, rs) => if isMap C T then mapPut v n y (ps ++ qs ++ rs) else .fail
     | _, _, _ => .fail)
  | .makeSlice T l c =>
    (match C.elem T, opv env l, opv env c with
     | some t, (.int _ n, ps), (.int _ m, qs) => (freshEp (d * 4)).bind fun ep =>
        if (C.deep && !(t.flatN fuel)) = true then .ret { val := .tr (d * 4) ep, memw := [(d * 4, .tree ep t (List.replicate n.toNat t.zero))], ob := ps ++ qs ++ [0 ≤ n ∧ n ≤ m ∧ m ≤ 4294967296] } else
        .ret { val := .arr (d * 4) ep, memw := [(d * 4, .arr ep t (List.replicate n.toNat t.zero))], ob := ps ++ qs ++ [0 ≤ n ∧ n ≤ m ∧ m ≤ 4294967296] }
     | _, _, _ => .fail)
  | .slice T x lo hi none =>
    (match C.elem T, opv env x, optInt env lo, optInt env hi with
     | some t, (v, ps), some (l, qs), some (h, rs) => (sliceTy t v).bind fun _ => (sliceSV l h v).bind fun (r, ob) => .ret { val := r, ob := ps ++ qs ++ rs ++ ob }
     | none, (v, ps), some (l, qs), some (h, rs) => if C.ty T = some .str then cutStr v l h (ps ++ qs ++ rs) else .fail
     | _, _, _, _ => .fail)
  | .fieldAddr T x f =>
    (match C.ty T, opv env x with
     | some (.named n), (v, ps) => if f < (U.tys n).length then (fieldAddrSV n f v).bind fun r => .ret { val := r, ob := ps } else .fail
     | _, _ => .fail)
  | .field T x f =>
    (match C.ty T, opv env x with
     | some (.named n), (v, ps) => (match (U.tys n)[f]? with
        | some ft => (match fieldSV n f ft v with
          | some r => .ret { val := r, ob := ps }
          | none => .fail)
        | none => .fail)
     | _, _ => .fail)
  | .indexAddr T x i =>
    (match C.elem T, opv env x, opv env i with
     | some t, (v, ps), (.int _ n, qs) => (indexSV t n v).bind fun (r, ob) => .ret { val := r, ob := ps ++ qs ++ ob }
     | none, (v, ps), (.int _ n, qs) => (match findA T U.arrs with
       | some (e, len) => (match C.ty e with
         | some t => (indexArr t len n v).bind fun (r, ob) => .ret { val := r, ob := ps ++ qs ++ ob }
         | none => .fail)
       | none => .fail)
     | _, _, _ => .fail)
  | .extract x i =>
    (match opv env x with
     | (.tup l, ps) => (match l[i]? with
        | some v => v.force fun v => .ret { val := v, ob := ps }
        | none => .fail)
     | _ => .fail)
  | .makeFunc (.func f) first captured =>
    if first.size = 0 then
      let (vs, ps) := opvs env captured.toList
      .ret { val := .clo f vs, ob := ps }
    else .fail
  | .call c =>
    let (vs, ps) := opvs env c.args.toList
    (match c.callee with
     | .value f => (match opv env f with
        | (.clo g caps, qs) => (match C.sp g with
          | some sp => (doCall sp d (vs ++ caps)).withOb (ps ++ qs)
          | none => .fail)
        | _ => .fail)
     | .builtin b => (stepBuiltin C d b c.argTypes.toList vs).withOb ps
     | _ => .fail)
  | _ => .fail

def upd {α : Type} (f : Nat → α) (d : Nat) (v : α) : Nat → α := fun i => bif Nat.beq i d then v else f i
def updm (f : Nat → Option Blk) : List (Nat × Blk) → Nat → Option Blk
  | [] => f
  | (i, b) :: r => updm (fun j => bif Nat.beq j i then some b else f j) r

structure StepR where
  dst : Option Nat
  val : SV
  memw : List (Nat × Blk)
  ob : List Prop

def stepPlain (C : Ctx) (wr : Bool) (env : Nat → SV) (o : Oper) (pre : List Prop) : Rd StepR :=
  (stepOp C wr env (o.dst.getD 0 + C.base) o.op).bind fun r => .ret { dst := o.dst, val := r.val, memw := r.memw, ob := pre ++ r.ob }

def stepCond (C : Ctx) (wr : Bool) (env : Nat → SV) (o : Oper) (p : Prop) : Rd StepR :=
  (stepOp C wr env (o.dst.getD 0 + C.base) o.op).bind fun r => match r.memw with
    | [] => .ret { dst := o.dst, val := .cnd p r.val, memw := [], ob := r.ob.map fun q => p → q }
    | _ => .fail

def stepGuard (C : Ctx) (wr : Bool) (kn : List (Nat × Bool)) (env : Nat → SV) (o : Oper) (g : Nat) (want : Bool) (pre : List Prop) (p : Prop) (x : Bool) : Rd StepR :=
  match findPart g kn with
  | some b => if b = want then stepPlain C wr env o (pre ++ [x = b]) else .ret { dst := o.dst, val := .cnd False .top, memw := [], ob := pre ++ [x = b] }
  | none => stepCond C wr env o p

def stepAt (C : Ctx) (wr : Bool) (kn : List (Nat × Bool)) (N : Nat) (ops : Array Oper) (env : Nat → SV) (i : Nat) : Rd StepR :=
  match ops[i]? with
  | none => .fail
  | some o =>
    if o.dst.all (· < N) then
      match o.guard with
      | none => stepPlain C wr env o []
      | some (j, want) =>
        match (ops[j]?).bind (·.dst) with
        | none => .fail
        | some g => match peek env g with
          | .bool x => stepGuard C wr kn env o g want [] (x = want) x
          | .cnd p (.bool x) => stepGuard C wr kn env o g want [p] (p ∧ x = want) x
          | .cnd p .top => .ret { dst := o.dst, val := .cnd False .top, memw := [], ob := [¬ p] }
          | _ => .fail
    else .fail

def StepR.env (r : StepR) (env : Nat → SV) : Nat → SV :=
  match r.dst with
  | some d => upd env d r.val
  | none => env

def runL (C : Ctx) (wr : Bool) (kn : List (Nat × Bool)) (N : Nat) (ops : Array Oper) : List Nat → (Nat → SV) → (Nat → Option Blk) → Option ((Nat → SV) × (Nat → Option Blk) × List Prop)
  | [], env, mem => some (env, mem, [])
  | i :: r, env, mem =>
    match (stepAt C wr kn N ops env i).eval mem with
    | none => none
    | some s => match runL C wr kn N ops r (s.env env) (updm mem s.memw) with
      | none => none
      | some (e, m, ob) => some (e, m, s.ob ++ ob)

structure St where
  slots : List (Nat × SV)
  mem : List (Nat × Blk)

def lookS : List (Nat × SV) → Nat → SV
  | [], _ => .top
  | (j, v) :: r, i => bif Nat.beq i j then v else lookS r i

def lookM : List (Nat × Blk) → Nat → Option Blk
  | [], _ => none
  | (j, b) :: r, i => bif Nat.beq i j then some b else lookM r i

def St.env (st : St) : Nat → SV := lookS st.slots
def St.memf (st : St) : Nat → Option Blk := lookM st.mem

def memN (i : Nat) : List Nat → Bool
  | [] => false
  | j :: r => Nat.beq i j || memN i r

def alive (m : Nat → Option Blk) (ms : List Nat) (id ep : Nat) : Bool :=
  memN id ms && match m id with
    | some k => Nat.beq k.ep ep
    | none => false

def nrm : Nat → Nat
  | 0 => 0
  | _ + 1 => 1

def normSV (m : Nat → Option Blk) (ms : List Nat) : Nat → SV → SV
  | _, .arr id ep => bif alive m ms id ep then .arr id (nrm ep) else .top
  | _, .sub id ep off len => bif alive m ms id ep then .sub id (nrm ep) off len else .top
  | _, .ref id ep off => bif alive m ms id ep then .ref id (nrm ep) off else .top
  | _, .bsl id ep off len => bif alive m ms id ep then .bsl id (nrm ep) off len else .top
  | _, .eref id ep i p => bif alive m ms id ep then .eref id (nrm ep) i p else .top
  | _, .tr id ep => bif alive m ms id ep then .tr id (nrm ep) else .top
  | _, .mp id ep => bif alive m ms id ep then .mp id (nrm ep) else .top
  | _, .tref id ep i p => bif alive m ms id ep then .tref id (nrm ep) i p else .top
  | _, .cnd _ _ => .top
  | f + 1, .agg l => .agg (l.map (normSV m ms f))
  | f + 1, .tup l => .tup (l.map (normSV m ms f))
  | f + 1, .clo g l => .clo g (l.map (normSV m ms f))
  | 0, .agg _ => .top
  | 0, .tup _ => .top
  | 0, .clo _ _ => .top
  | _, .top => .top
  | _, .int k n => .int k n
  | _, .bool b => .bool b
  | _, .str s => .str s
  | _, .data t x => .data t x
  | _, .nilsl => .nilsl
  | _, .nilptr => .nilptr
  | _, .err b => .err b
  | _, .el a b c => .el a b c
  | _, .dref t x => .dref t x

def normBlk (m : Nat → Option Blk) (ms : List Nat) : Blk → Blk
  | .box ep cells => .box (nrm ep) (cells.map (normSV m ms fuel))
  | .arr ep t xs => .arr (nrm ep) t xs
  | .tree ep t xs => .tree (nrm ep) t xs
  | .dead ep => .dead (nrm ep)
  | .mp ep l => .mp (nrm ep) l
  | .hole ep t xs hs o => .hole (nrm ep) t xs hs o

def keepM (m : Nat → Option Blk) (all : List Nat) : List Nat → Option (List (Nat × Blk))
  | [] => some []
  | i :: r => match m i with
    | some k => match keepM m all r with
      | some l => some ((i, normBlk m all k) :: l)
      | none => none
    | none => none

def keep (ks ms : List Nat) (env : Nat → SV) (m : Nat → Option Blk) : Option St :=
  match keepM m ms ms with
  | some l => some { slots := ks.map fun i => (i, normSV m ms fuel (env i)), mem := l }
  | none => none

def region (C : Ctx) (wr : Bool) (kn : List (Nat × Bool)) (N : Nat) (ops : Array Oper) (ks ms : List Nat) (st : St) : Option (St × List Prop) :=
  match runL C wr kn N ops (List.range ops.size) st.env st.memf with
  | some (e, m, ob) => match keep ks ms e m with
    | some st' => some (st', ob)
    | none => none
  | none => none

end Go.Am
