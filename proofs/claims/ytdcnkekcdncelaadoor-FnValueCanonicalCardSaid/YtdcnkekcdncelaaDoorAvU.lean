/-
  A part of the proof of this claim (AvU): what functions of the program compute, and plain facts of that. No conditions.
-/
import Derived.Test.YtdcnkekcdncelaaDoorAnD
import Derived.Test.YtdcnkekcdncelaaDoorChecked
import Derived.Lib.LaidTab
import Derived.Lib.ItoaNum
set_option linter.all false
namespace Go.Proofs.YtdcnkekcdncelaaDoor
open Go Go.Am

structure Val where
 Null : Bool
 N : Int
def Val.zero : Val := ⟨false, 0⟩

structure Rdr where
 b : List Int
 p : Int
def Rdr.zero : Rdr := ⟨[], 0⟩

def RR : Nat → Type
 | 0 => Val
 | 1 => Rdr
 | _ + 2 => Bool

instance uT : UnivT := ⟨RR⟩

def dflR : (n : Nat) → RR n
 | 0 => Val.zero
 | 1 => Rdr.zero
 | _ + 2 => false

def szR : Nat → Nat
 | 0 => 2
 | 1 => 2
 | _ + 2 => 1

instance uD : UnivD := { uT with dfl := dflR, sz := szR }

def tysR : Nat → List Ty
 | 0 => [.bool, .int .i64]
 | 1 => [.slice (.int .u8), .int .i64]
 | _ + 2 => [.bool]

def getR : (n : Nat) → RR n → List TV
 | 0, x => [⟨.bool, Val.Null x⟩, ⟨.int .i64, Val.N x⟩]
 | 1, x => [⟨.slice (.int .u8), Rdr.b x⟩, ⟨.int .i64, Rdr.p x⟩]
 | _ + 2, x => [⟨.bool, x⟩]

def asTV (t : Ty) (d : t.den) (tv : TV) : t.den := if h : tv.1 = t then h ▸ tv.2 else d

def bldR : (n : Nat) → List TV → RR n
 | 0, [a0, a1] => (⟨asTV (.bool) (Ty.zero (.bool)) a0, asTV (.int .i64) (Ty.zero (.int .i64)) a1⟩ : Val)
 | 0, _ => Val.zero
 | 1, [a0, a1] => (⟨asTV (.slice (.int .u8)) (Ty.zero (.slice (.int .u8))) a0, asTV (.int .i64) (Ty.zero (.int .i64)) a1⟩ : Rdr)
 | 1, _ => Rdr.zero
 | _ + 2, [a0] => asTV .bool false a0
 | _ + 2, _ => false

theorem get_bldR : ∀ (n : Nat) (l : List TV), l.map Sigma.fst = tysR n → getR n (bldR n l) = l
 | 0, l, h => AllT.get (p := fun l => getR 0 (bldR 0 l) = l) (ts := tysR 0) (fun _ _ => rfl) l h
 | 1, l, h => AllT.get (p := fun l => getR 1 (bldR 1 l) = l) (ts := tysR 1) (fun _ _ => rfl) l h
 | n + 2, l, h => AllT.get (p := fun l => getR (n + 2) (bldR (n + 2) l) = l) (ts := tysR (n + 2)) (fun _ => rfl) l h

theorem bld_getR : ∀ (n : Nat) (x : RR n), bldR n (getR n x) = x
 | 0, _ => rfl
 | 1, _ => rfl
 | _ + 2, _ => rfl

theorem get_dflR : ∀ (n : Nat), getR n (dflR n) = (tysR n).map fun t => ⟨t, t.zero⟩
 | 0 => rfl
 | 1 => rfl
 | _ + 2 => rfl

theorem sz_eqR : ∀ n, szR n = ((tysR n).map Ty.size).sum
 | 0 => rfl
 | 1 => rfl
 | _ + 2 => rfl

theorem sz_posR : ∀ n, 1 ≤ szR n
 | 0 => by decide
 | 1 => by decide
 | _ + 2 => Nat.le_refl _

theorem get_tysR : ∀ (n : Nat) (x : RR n), (getR n x).map Sigma.fst = tysR n
 | 0, _ => rfl
 | 1, _ => rfl
 | _ + 2, _ => rfl

def cmpR : Nat → Bool
 | 0 => true
 | 1 => false
 | _ + 2 => false

def ifcL : List (Nat × Nat) := [(37, 4)]

def globL : List Nat := [0, 1, 2]

def ErrAt (w : World) (b : Nat) : Prop := ∃ ev, w.cell? ⟨b, 0, none⟩ = some ev ∧ (ev = .nilIface ∨ ∃ te pe, ev = .iface te pe)

def globG (w : World) : Prop := Lib.TabIs Tryd.prog w "internal/strconv.uint64pow10" .u64 Lib.pow10Tab ∧ ErrAt w 0 ∧ ErrAt w 1

theorem glob2 : Tryd.prog.globalNamed "internal/strconv.uint64pow10" = some 2 := by kernel_rfl

theorem globSt : ∀ w w' : World, (∀ b, b ∈ globL → w'.heap[b]? = w.heap[b]?) → globG w → globG w' := by
 rintro w w' h ⟨h1, h2, h3⟩; refine ⟨?_, ?_, ?_⟩
 · unfold Lib.TabIs World.var? at h1 ⊢; rw [glob2] at h1 ⊢; simp only [Option.bind_some] at h1 ⊢; rw [h 2 (by decide)]; exact h1
 · obtain ⟨ev, e1, e2⟩ := h2; exact ⟨ev, (World.cell?_eq_of_heap (h 0 (by decide))).trans e1, e2⟩
 · obtain ⟨ev, e1, e2⟩ := h3; exact ⟨ev, (World.cell?_eq_of_heap (h 1 (by decide))).trans e1, e2⟩

instance uv : Univ := { uD with ifcs := ifcL, gl := globL, G := globG, gst := globSt, dr := fun _ => 0, dr_mono := fun _ _ _ => Nat.le_refl _, cmp := cmpR, tys := tysR, get := getR, bld := bldR, get_tys := get_tysR, get_bld := get_bldR, bld_get := bld_getR, get_dfl := get_dflR, sz_eq := sz_eqR, sz_pos := sz_posR }

end Go.Proofs.YtdcnkekcdncelaaDoor
