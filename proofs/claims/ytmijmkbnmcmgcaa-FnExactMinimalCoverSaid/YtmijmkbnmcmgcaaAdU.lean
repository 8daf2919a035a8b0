/-
  A part of the proof of this claim (AdU): what functions of the program compute, and plain facts of that. No conditions.
-/
import Derived.Test.YtmijmkbnmcmgcaaAnD
import Derived.Test.YtmijmkbnmcmgcaaChecked
set_option linter.all false
namespace Go.Proofs.Ytmijmkbnmcmgcaa
open Go Go.Am

structure Dep where
 From : Int
 To : Int
def Dep.zero : Dep := ⟨0, 0⟩

structure Rdr where
 b : List Int
 p : Int
def Rdr.zero : Rdr := ⟨[], 0⟩

def RR : Nat → Type
 | 0 => Dep
 | 1 => Rdr
 | _ + 2 => Bool

instance uT : UnivT := ⟨RR⟩

def dflR : (n : Nat) → RR n
 | 0 => Dep.zero
 | 1 => Rdr.zero
 | _ + 2 => false

def szR : Nat → Nat
 | 0 => 2
 | 1 => 2
 | _ + 2 => 1

instance uD : UnivD := { uT with dfl := dflR, sz := szR }

def tysR : Nat → List Ty
 | 0 => [.int .i64, .int .i64]
 | 1 => [.slice (.int .u8), .int .i64]
 | _ + 2 => [.bool]

def getR : (n : Nat) → RR n → List TV
 | 0, x => [⟨.int .i64, Dep.From x⟩, ⟨.int .i64, Dep.To x⟩]
 | 1, x => [⟨.slice (.int .u8), Rdr.b x⟩, ⟨.int .i64, Rdr.p x⟩]
 | _ + 2, x => [⟨.bool, x⟩]

def asTV (t : Ty) (d : t.den) (tv : TV) : t.den := if h : tv.1 = t then h ▸ tv.2 else d

def bldR : (n : Nat) → List TV → RR n
 | 0, [a0, a1] => (⟨asTV (.int .i64) (Ty.zero (.int .i64)) a0, asTV (.int .i64) (Ty.zero (.int .i64)) a1⟩ : Dep)
 | 0, _ => Dep.zero
 | 1, [a0, a1] => (⟨asTV (.slice (.int .u8)) (Ty.zero (.slice (.int .u8))) a0, asTV (.int .i64) (Ty.zero (.int .i64)) a1⟩ : Rdr)
 | 1, _ => Rdr.zero
 | _ + 2, [a0] => asTV .bool false a0
 | _ + 2, _ => false

theorem get_bldR : ∀ (n : Nat) (l : List TV), l.map Sigma.fst = tysR n → getR n (bldR n l) = l
 | 0, l, h => AllT.get (p := fun l => getR 0 (bldR 0 l) = l) (ts := tysR 0) (fun _ _ => rfl) l h
 | 1, l, h => AllT.get (p := fun l => getR 1 (bldR 1 l) = l) (ts := tysR 1) (fun _ _ => rfl) l h
 | n + 2, l, h => AllT.get (p := fun l => getR (n + 2) (bldR (n + 2) l) = l) (ts := tysR (n + 2)) (fun _ => rfl) l h

theorem bld_getR : ∀ (n : Nat) (x : RR n), bldR n (getR n x) = x
 | 0, _ => rfl
 | 1, _ => rfl
 | _ + 2, _ => rfl

theorem get_dflR : ∀ (n : Nat), getR n (dflR n) = (tysR n).map fun t => ⟨t, t.zero⟩
 | 0 => rfl
 | 1 => rfl
 | _ + 2 => rfl

theorem sz_eqR : ∀ n, szR n = ((tysR n).map Ty.size).sum
 | 0 => rfl
 | 1 => rfl
 | _ + 2 => rfl

theorem sz_posR : ∀ n, 1 ≤ szR n
 | 0 => by decide
 | 1 => by decide
 | _ + 2 => Nat.le_refl _

theorem get_tysR : ∀ (n : Nat) (x : RR n), (getR n x).map Sigma.fst = tysR n
 | 0, _ => rfl
 | 1, _ => rfl
 | _ + 2, _ => rfl

def cmpR : Nat → Bool
 | 0 => true
 | 1 => false
 | _ + 2 => false

instance uv : Univ := { uD with cmp := cmpR, tys := tysR, get := getR, bld := bldR, get_tys := get_tysR, get_bld := get_bldR, bld_get := bld_getR, get_dfl := get_dflR, sz_eq := sz_eqR, sz_pos := sz_posR }

theorem noGlob : ∀ (w : World) (bs : List Nat), Laid w bs := fun _ _ => ⟨fun _ hb => (by cases hb), trivial⟩

end Go.Proofs.Ytmijmkbnmcmgcaa
