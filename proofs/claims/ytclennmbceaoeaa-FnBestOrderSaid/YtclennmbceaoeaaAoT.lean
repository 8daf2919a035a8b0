/-
  A part of the proof of this claim (AoT): what functions of the program compute, and plain facts of that. No conditions.
-/
import Derived.Test.YtclennmbceaoeaaAnE
import Derived.Test.YtclennmbceaoeaaChecked
import Derived.Eval
set_option linter.all false
namespace Go.Proofs.Ytclennmbceaoeaa
open Go Go.Am

structure Edge where
 A : Int
 B : Int
 Den : Int
def Edge.zero : Edge := ⟨0, 0, 0⟩

structure Graph where
 Rows : List Int
 Edges : List Edge
def Graph.zero : Graph := ⟨[], []⟩

structure Rdr where
 b : List Int
 p : Int
def Rdr.zero : Rdr := ⟨[], 0⟩

inductive JoinTree where
 | mk (Leaf : Int) (Kids : List JoinTree)
def JoinTree.Leaf : JoinTree → Int
 | .mk x _ => x
def JoinTree.Kids : JoinTree → List JoinTree
 | .mk _ x => x
def JoinTree.zero : JoinTree := ⟨0, []⟩

structure Ords where
 G : Graph
 Lst : List Int
 Used : Int
 Best : List Int
 Cost : Int
def Ords.zero : Ords := ⟨Graph.zero, [], 0, [], 0⟩

def RR : Nat → Type
 | 0 => Edge
 | 1 => Graph
 | 2 => Rdr
 | 3 => JoinTree
 | 4 => Ords
 | _ + 5 => Bool

instance uT : UnivT := ⟨RR⟩

def dflR : (n : Nat) → RR n
 | 0 => Edge.zero
 | 1 => Graph.zero
 | 2 => Rdr.zero
 | 3 => JoinTree.zero
 | 4 => Ords.zero
 | _ + 5 => false

def szR : Nat → Nat
 | 0 => 3
 | 1 => 2
 | 2 => 2
 | 3 => 2
 | 4 => 6
 | _ + 5 => 1

instance uD : UnivD := { uT with dfl := dflR, sz := szR }

def tysR : Nat → List Ty
 | 0 => [.int .i64, .int .i64, .int .i64]
 | 1 => [.slice (.int .i64), .slice (.named 0)]
 | 2 => [.slice (.int .u8), .int .i64]
 | 3 => [.int .i64, .slice (.named 3)]
 | 4 => [.named 1, .slice (.int .i64), .int .i64, .slice (.int .i64), .int .i64]
 | _ + 5 => [.bool]

def getR : (n : Nat) → RR n → List TV
 | 0, x => [⟨.int .i64, Edge.A x⟩, ⟨.int .i64, Edge.B x⟩, ⟨.int .i64, Edge.Den x⟩]
 | 1, x => [⟨.slice (.int .i64), Graph.Rows x⟩, ⟨.slice (.named 0), Graph.Edges x⟩]
 | 2, x => [⟨.slice (.int .u8), Rdr.b x⟩, ⟨.int .i64, Rdr.p x⟩]
 | 3, x => [⟨.int .i64, JoinTree.Leaf x⟩, ⟨.slice (.named 3), JoinTree.Kids x⟩]
 | 4, x => [⟨.named 1, Ords.G x⟩, ⟨.slice (.int .i64), Ords.Lst x⟩, ⟨.int .i64, Ords.Used x⟩, ⟨.slice (.int .i64), Ords.Best x⟩, ⟨.int .i64, Ords.Cost x⟩]
 | _ + 5, x => [⟨.bool, x⟩]

def asTV (t : Ty) (d : t.den) (tv : TV) : t.den := if h : tv.1 = t then h ▸ tv.2 else d

def bldR : (n : Nat) → List TV → RR n
 | 0, [a0, a1, a2] => (⟨asTV (.int .i64) (Ty.zero (.int .i64)) a0, asTV (.int .i64) (Ty.zero (.int .i64)) a1, asTV (.int .i64) (Ty.zero (.int .i64)) a2⟩ : Edge)
 | 0, _ => Edge.zero
 | 1, [a0, a1] => (⟨asTV (.slice (.int .i64)) (Ty.zero (.slice (.int .i64))) a0, asTV (.slice (.named 0)) (Ty.zero (.slice (.named 0))) a1⟩ : Graph)
 | 1, _ => Graph.zero
 | 2, [a0, a1] => (⟨asTV (.slice (.int .u8)) (Ty.zero (.slice (.int .u8))) a0, asTV (.int .i64) (Ty.zero (.int .i64)) a1⟩ : Rdr)
 | 2, _ => Rdr.zero
 | 3, [a0, a1] => (⟨asTV (.int .i64) (Ty.zero (.int .i64)) a0, asTV (.slice (.named 3)) (Ty.zero (.slice (.named 3))) a1⟩ : JoinTree)
 | 3, _ => JoinTree.zero
 | 4, [a0, a1, a2, a3, a4] => (⟨asTV (.named 1) (Ty.zero (.named 1)) a0, asTV (.slice (.int .i64)) (Ty.zero (.slice (.int .i64))) a1, asTV (.int .i64) (Ty.zero (.int .i64)) a2, asTV (.slice (.int .i64)) (Ty.zero (.slice (.int .i64))) a3, asTV (.int .i64) (Ty.zero (.int .i64)) a4⟩ : Ords)
 | 4, _ => Ords.zero
 | _ + 5, [a0] => asTV .bool false a0
 | _ + 5, _ => false

theorem get_bldR : ∀ (n : Nat) (l : List TV), l.map Sigma.fst = tysR n → getR n (bldR n l) = l
 | 0, l, h => AllT.get (p := fun l => getR 0 (bldR 0 l) = l) (ts := tysR 0) (fun _ _ _ => rfl) l h
 | 1, l, h => AllT.get (p := fun l => getR 1 (bldR 1 l) = l) (ts := tysR 1) (fun _ _ => rfl) l h
 | 2, l, h => AllT.get (p := fun l => getR 2 (bldR 2 l) = l) (ts := tysR 2) (fun _ _ => rfl) l h
 | 3, l, h => AllT.get (p := fun l => getR 3 (bldR 3 l) = l) (ts := tysR 3) (fun _ _ => rfl) l h
 | 4, l, h => AllT.get (p := fun l => getR 4 (bldR 4 l) = l) (ts := tysR 4) (fun _ _ _ _ _ => rfl) l h
 | n + 5, l, h => AllT.get (p := fun l => getR (n + 5) (bldR (n + 5) l) = l) (ts := tysR (n + 5)) (fun _ => rfl) l h

theorem bld_getR : ∀ (n : Nat) (x : RR n), bldR n (getR n x) = x
 | 0, _ => rfl
 | 1, _ => rfl
 | 2, _ => rfl
 | 3, x => by cases x; rfl
 | 4, _ => rfl
 | _ + 5, _ => rfl

theorem get_dflR : ∀ (n : Nat), getR n (dflR n) = (tysR n).map fun t => ⟨t, t.zero⟩
 | 0 => rfl
 | 1 => rfl
 | 2 => rfl
 | 3 => rfl
 | 4 => rfl
 | _ + 5 => rfl

theorem sz_eqR : ∀ n, szR n = ((tysR n).map Ty.size).sum
 | 0 => rfl
 | 1 => rfl
 | 2 => rfl
 | 3 => rfl
 | 4 => rfl
 | _ + 5 => rfl

theorem sz_posR : ∀ n, 1 ≤ szR n
 | 0 => by decide
 | 1 => by decide
 | 2 => by decide
 | 3 => by decide
 | 4 => by decide
 | _ + 5 => Nat.le_refl _

theorem get_tysR : ∀ (n : Nat) (x : RR n), (getR n x).map Sigma.fst = tysR n
 | 0, _ => rfl
 | 1, _ => rfl
 | 2, _ => rfl
 | 3, _ => rfl
 | 4, _ => rfl
 | _ + 5, _ => rfl

def cmpR : Nat → Bool
 | 0 => true
 | 1 => false
 | 2 => false
 | 3 => false
 | 4 => false
 | _ + 5 => false

def ptrL : List (Nat × Nat) := [(71, 26)]

instance uv : Univ := { uD with dr := fun _ => 0, dr_mono := fun _ _ _ => Nat.le_refl _, ptrs := ptrL, cmp := cmpR, tys := tysR, get := getR, bld := bldR, get_tys := get_tysR, get_bld := get_bldR, bld_get := bld_getR, get_dfl := get_dflR, sz_eq := sz_eqR, sz_pos := sz_posR }

theorem noGlob : ∀ (w : World) (bs : List Nat), Laid w bs := fun _ _ => ⟨fun _ hb => (by cases hb), trivial⟩

end Go.Proofs.Ytclennmbceaoeaa


namespace Go.Proofs.Ytclennmbceaoeaa
open Go Go.Am

def tyL : List (Nat × Ty) := [(3, (.int .i64)), (4, .bool), (5, (.int .u8)), (22, (.slice (.int .u8))), (23, (.slice (.int .i64))), (24, (.slice (.named 0))), (25, (.named 1)), (26, (.named 1)), (32, (.slice (.named 3))), (33, (.named 3)), (34, (.named 3)), (39, (.slice (.named 0))), (40, (.named 1)), (41, (.named 1)), (57, (.named 4)), (58, (.named 4)), (66, (.named 2)), (67, (.named 2)), (69, (.named 0)), (70, (.named 0)), (79, (.named 0))]

theorem tyOK {sp : List (Nat × FnSpec)} : CtxTy Try.prog (mkCtx tyL sp) := by
 refine CtxTy.of ⟨?_, ?_, ?_, ?_, ?_, ?_, ?_, ?_, ?_, ?_, ?_, ?_, ?_, ?_, ?_, ?_, ?_, ?_, ?_, ?_, ?_, trivial⟩
 · exact .of 8 (by kernel_rfl) (by decide) (by decide) (by decide) Try.underlying3 trivial (fun _ _ h => by cases h) (PtrsOK.get (l := ptrL) ⟨(fun h => by cases h), trivial⟩)
 · exact .of 1 (by kernel_rfl) (by decide) (by decide) (by decide) Try.underlying4 trivial (fun _ _ h => by cases h) (PtrsOK.get (l := ptrL) ⟨(fun h => by cases h), trivial⟩)
 · exact .of 1 (by kernel_rfl) (by decide) (by decide) (by decide) Try.underlying5 trivial (fun _ _ h => by cases h) (PtrsOK.get (l := ptrL) ⟨(fun h => by cases h), trivial⟩)
 · exact .of 24 (by kernel_rfl) (by decide) (by decide) (by decide) ⟨5, Try.underlying22, rfl⟩ trivial (fun _ _ h => by cases h) (PtrsOK.get (l := ptrL) ⟨(fun h => by cases h), trivial⟩)
 · exact .of 24 (by kernel_rfl) (by decide) (by decide) (by decide) ⟨3, Try.underlying23, rfl⟩ trivial (fun _ _ h => by cases h) (PtrsOK.get (l := ptrL) ⟨(fun h => by cases h), trivial⟩)
 · exact .of 24 (by kernel_rfl) (by decide) (by decide) (by decide) ⟨70, Try.underlying24, rfl⟩ trivial (fun _ _ h => by cases h) (PtrsOK.get (l := ptrL) ⟨(fun h => by cases h), trivial⟩)
 · exact .of 48 (by kernel_rfl) (by decide) (by decide) (by decide) ⟨_, Try.underlying25, by decide, AllI.get ⟨⟨_, rfl, rfl, rfl⟩, ⟨_, rfl, rfl, rfl⟩, trivial⟩⟩ (fun h => by cases h) (fun _ _ h => by cases h) (PtrsOK.get (l := ptrL) ⟨(fun h => by cases h), trivial⟩)
 · exact .of 48 (by kernel_rfl) (by decide) (by decide) (by decide) ⟨_, Try.underlying26, by decide, AllI.get ⟨⟨_, rfl, rfl, rfl⟩, ⟨_, rfl, rfl, rfl⟩, trivial⟩⟩ (fun h => by cases h) (fun _ _ h => by cases h) (PtrsOK.get (l := ptrL) ⟨fun _ => ⟨26, Try.underlying71⟩, trivial⟩)
 · exact .of 24 (by kernel_rfl) (by decide) (by decide) (by decide) ⟨34, Try.underlying32, rfl⟩ trivial (fun _ _ h => by cases h) (PtrsOK.get (l := ptrL) ⟨(fun h => by cases h), trivial⟩)
 · exact .of 32 (by kernel_rfl) (by decide) (by decide) (by decide) ⟨_, Try.underlying33, by decide, AllI.get ⟨⟨_, rfl, rfl, rfl⟩, ⟨_, rfl, rfl, rfl⟩, trivial⟩⟩ (fun h => by cases h) (fun _ _ h => by cases h) (PtrsOK.get (l := ptrL) ⟨(fun h => by cases h), trivial⟩)
 · exact .of 32 (by kernel_rfl) (by decide) (by decide) (by decide) ⟨_, Try.underlying34, by decide, AllI.get ⟨⟨_, rfl, rfl, rfl⟩, ⟨_, rfl, rfl, rfl⟩, trivial⟩⟩ (fun h => by cases h) (fun _ _ h => by cases h) (PtrsOK.get (l := ptrL) ⟨(fun h => by cases h), trivial⟩)
 · exact .of 24 (by kernel_rfl) (by decide) (by decide) (by decide) ⟨79, Try.underlying39, rfl⟩ trivial (fun _ _ h => by cases h) (PtrsOK.get (l := ptrL) ⟨(fun h => by cases h), trivial⟩)
 · exact .of 48 (by kernel_rfl) (by decide) (by decide) (by decide) ⟨_, Try.underlying40, by decide, AllI.get ⟨⟨_, rfl, rfl, rfl⟩, ⟨_, rfl, rfl, rfl⟩, trivial⟩⟩ (fun h => by cases h) (fun _ _ h => by cases h) (PtrsOK.get (l := ptrL) ⟨(fun h => by cases h), trivial⟩)
 · exact .of 48 (by kernel_rfl) (by decide) (by decide) (by decide) ⟨_, Try.underlying41, by decide, AllI.get ⟨⟨_, rfl, rfl, rfl⟩, ⟨_, rfl, rfl, rfl⟩, trivial⟩⟩ (fun h => by cases h) (fun _ _ h => by cases h) (PtrsOK.get (l := ptrL) ⟨(fun h => by cases h), trivial⟩)
 · exact .of 112 (by kernel_rfl) (by decide) (by decide) (by decide) ⟨_, Try.underlying57, by decide, AllI.get ⟨⟨_, rfl, rfl, rfl⟩, ⟨_, rfl, rfl, rfl⟩, ⟨_, rfl, rfl, rfl⟩, ⟨_, rfl, rfl, rfl⟩, ⟨_, rfl, rfl, rfl⟩, trivial⟩⟩ (fun h => by cases h) (fun _ _ h => by cases h) (PtrsOK.get (l := ptrL) ⟨(fun h => by cases h), trivial⟩)
 · exact .of 112 (by kernel_rfl) (by decide) (by decide) (by decide) ⟨_, Try.underlying58, by decide, AllI.get ⟨⟨_, rfl, rfl, rfl⟩, ⟨_, rfl, rfl, rfl⟩, ⟨_, rfl, rfl, rfl⟩, ⟨_, rfl, rfl, rfl⟩, ⟨_, rfl, rfl, rfl⟩, trivial⟩⟩ (fun h => by cases h) (fun _ _ h => by cases h) (PtrsOK.get (l := ptrL) ⟨(fun h => by cases h), trivial⟩)
 · exact .of 32 (by kernel_rfl) (by decide) (by decide) (by decide) ⟨_, Try.underlying66, by decide, AllI.get ⟨⟨_, rfl, rfl, rfl⟩, ⟨_, rfl, rfl, rfl⟩, trivial⟩⟩ (fun h => by cases h) (fun _ _ h => by cases h) (PtrsOK.get (l := ptrL) ⟨(fun h => by cases h), trivial⟩)
 · exact .of 32 (by kernel_rfl) (by decide) (by decide) (by decide) ⟨_, Try.underlying67, by decide, AllI.get ⟨⟨_, rfl, rfl, rfl⟩, ⟨_, rfl, rfl, rfl⟩, trivial⟩⟩ (fun h => by cases h) (fun _ _ h => by cases h) (PtrsOK.get (l := ptrL) ⟨(fun h => by cases h), trivial⟩)
 · exact .of 24 (by kernel_rfl) (by decide) (by decide) (by decide) ⟨_, Try.underlying69, by decide, AllI.get ⟨⟨_, rfl, rfl, rfl⟩, ⟨_, rfl, rfl, rfl⟩, ⟨_, rfl, rfl, rfl⟩, trivial⟩⟩ (fun _ => ⟨by kernel_rfl, by kernel_rfl, by kernel_rfl⟩) (fun _ _ h => by cases h) (PtrsOK.get (l := ptrL) ⟨(fun h => by cases h), trivial⟩)
 · exact .of 24 (by kernel_rfl) (by decide) (by decide) (by decide) ⟨_, Try.underlying70, by decide, AllI.get ⟨⟨_, rfl, rfl, rfl⟩, ⟨_, rfl, rfl, rfl⟩, ⟨_, rfl, rfl, rfl⟩, trivial⟩⟩ (fun _ => ⟨by kernel_rfl, by kernel_rfl, by kernel_rfl⟩) (fun _ _ h => by cases h) (PtrsOK.get (l := ptrL) ⟨(fun h => by cases h), trivial⟩)
 · exact .of 24 (by kernel_rfl) (by decide) (by decide) (by decide) ⟨_, Try.underlying79, by decide, AllI.get ⟨⟨_, rfl, rfl, rfl⟩, ⟨_, rfl, rfl, rfl⟩, ⟨_, rfl, rfl, rfl⟩, trivial⟩⟩ (fun _ => ⟨by kernel_rfl, by kernel_rfl, by kernel_rfl⟩) (fun _ _ h => by cases h) (PtrsOK.get (l := ptrL) ⟨(fun h => by cases h), trivial⟩)

end Go.Proofs.Ytclennmbceaoeaa
