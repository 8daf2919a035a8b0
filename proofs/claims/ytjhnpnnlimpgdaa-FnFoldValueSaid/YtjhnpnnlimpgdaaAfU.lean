/-
  A part of the proof of this claim (AfU): what functions of the program compute, and plain facts of that. No conditions.
-/
import Derived.Test.YtjhnpnnlimpgdaaAnO
import Derived.Test.YtjhnpnnlimpgdaaChecked
set_option linter.all false
namespace Go.Proofs.Ytjhnpnnlimpgdaa
open Go Go.Am

structure Val where
 Null : Bool
 N : Int
def Val.zero : Val := ⟨false, 0⟩

inductive Xpr where
 | mk (Kind : Int) (Col : Int) (V : Val) (Kids : List Xpr)
def Xpr.Kind : Xpr → Int
 | .mk x _ _ _ => x
def Xpr.Col : Xpr → Int
 | .mk _ x _ _ => x
def Xpr.V : Xpr → Val
 | .mk _ _ x _ => x
def Xpr.Kids : Xpr → List Xpr
 | .mk _ _ _ x => x
theorem Xpr.eta (x : Xpr) : Xpr.mk (Xpr.Kind x) (Xpr.Col x) (Xpr.V x) (Xpr.Kids x) = x := by cases x; rfl
def Xpr.zero : Xpr := ⟨0, 0, Val.zero, []⟩

structure Rdr where
 b : List Int
 p : Int
def Rdr.zero : Rdr := ⟨[], 0⟩

def RR : Nat → Type
 | 0 => Val
 | 1 => Xpr
 | 2 => Rdr
 | _ + 3 => Bool

instance uT : UnivT := ⟨RR⟩

def dflR : (n : Nat) → RR n
 | 0 => Val.zero
 | 1 => Xpr.zero
 | 2 => Rdr.zero
 | _ + 3 => false

def szR : Nat → Nat
 | 0 => 2
 | 1 => 5
 | 2 => 2
 | _ + 3 => 1

instance uD : UnivD := { uT with dfl := dflR, sz := szR }

def tysR : Nat → List Ty
 | 0 => [.bool, .int .i64]
 | 1 => [.int .i64, .int .i64, .named 0, .slice (.named 1)]
 | 2 => [.slice (.int .u8), .int .i64]
 | _ + 3 => [.bool]

def getR : (n : Nat) → RR n → List TV
 | 0, x => [⟨.bool, Val.Null x⟩, ⟨.int .i64, Val.N x⟩]
 | 1, x => [⟨.int .i64, Xpr.Kind x⟩, ⟨.int .i64, Xpr.Col x⟩, ⟨.named 0, Xpr.V x⟩, ⟨.slice (.named 1), Xpr.Kids x⟩]
 | 2, x => [⟨.slice (.int .u8), Rdr.b x⟩, ⟨.int .i64, Rdr.p x⟩]
 | _ + 3, x => [⟨.bool, x⟩]

def asTV (t : Ty) (d : t.den) (tv : TV) : t.den := if h : tv.1 = t then h ▸ tv.2 else d

theorem asTV_same (t : Ty) (d x : t.den) : asTV t d ⟨t, x⟩ = x := by simp [asTV]

def bldR : (n : Nat) → List TV → RR n
 | 0, [a0, a1] => (⟨asTV (.bool) (Ty.zero (.bool)) a0, asTV (.int .i64) (Ty.zero (.int .i64)) a1⟩ : Val)
 | 0, _ => Val.zero
 | 1, [a0, a1, a2, a3] => (⟨asTV (.int .i64) (Ty.zero (.int .i64)) a0, asTV (.int .i64) (Ty.zero (.int .i64)) a1, asTV (.named 0) (Ty.zero (.named 0)) a2, asTV (.slice (.named 1)) (Ty.zero (.slice (.named 1))) a3⟩ : Xpr)
 | 1, _ => Xpr.zero
 | 2, [a0, a1] => (⟨asTV (.slice (.int .u8)) (Ty.zero (.slice (.int .u8))) a0, asTV (.int .i64) (Ty.zero (.int .i64)) a1⟩ : Rdr)
 | 2, _ => Rdr.zero
 | _ + 3, [a0] => asTV .bool false a0
 | _ + 3, _ => false

theorem get_bldR : ∀ (n : Nat) (l : List TV), l.map Sigma.fst = tysR n → getR n (bldR n l) = l
 | 0, l, h => AllT.get (p := fun l => getR 0 (bldR 0 l) = l) (ts := tysR 0) (fun _ _ => rfl) l h
 | 1, l, h => AllT.get (p := fun l => getR 1 (bldR 1 l) = l) (ts := tysR 1) (fun _ _ _ _ => rfl) l h
 | 2, l, h => AllT.get (p := fun l => getR 2 (bldR 2 l) = l) (ts := tysR 2) (fun _ _ => rfl) l h
 | n + 3, l, h => AllT.get (p := fun l => getR (n + 3) (bldR (n + 3) l) = l) (ts := tysR (n + 3)) (fun _ => rfl) l h

theorem bld_getR : ∀ (n : Nat) (x : RR n), bldR n (getR n x) = x
 | 0, _ => rfl
 | 1, x => by cases x; rfl
 | 2, _ => rfl
 | _ + 3, _ => rfl

theorem get_dflR : ∀ (n : Nat), getR n (dflR n) = (tysR n).map fun t => ⟨t, t.zero⟩
 | 0 => rfl
 | 1 => rfl
 | 2 => rfl
 | _ + 3 => rfl

theorem sz_eqR : ∀ n, szR n = ((tysR n).map Ty.size).sum
 | 0 => rfl
 | 1 => rfl
 | 2 => rfl
 | _ + 3 => rfl

theorem sz_posR : ∀ n, 1 ≤ szR n
 | 0 => by decide
 | 1 => by decide
 | 2 => by decide
 | _ + 3 => Nat.le_refl _

theorem get_tysR : ∀ (n : Nat) (x : RR n), (getR n x).map Sigma.fst = tysR n
 | 0, _ => rfl
 | 1, _ => rfl
 | 2, _ => rfl
 | _ + 3, _ => rfl

def cmpR : Nat → Bool
 | 0 => true
 | 1 => false
 | 2 => false
 | _ + 3 => false

def ptrL : List (Nat × Nat) := [(57, 27)]

instance uv : Univ := { uD with ptrs := ptrL, cmp := cmpR, tys := tysR, get := getR, bld := bldR, get_tys := get_tysR, get_bld := get_bldR, bld_get := bld_getR, get_dfl := get_dflR, sz_eq := sz_eqR, sz_pos := sz_posR }

end Go.Proofs.Ytjhnpnnlimpgdaa
