/-
  A part of the proof of this claim (AwT): what functions of the program compute, and plain facts of that. No conditions.
-/
import Derived.Test.YtjcjpeckfikfkaaAnM
import Derived.Test.YtjcjpeckfikfkaaChecked
import Derived.Eval
set_option linter.all false
namespace Go.Proofs.Ytjcjpeckfikfkaa
open Go Go.Am

structure Rng where
 Low : Int
 High : Int
def Rng.zero : Rng := ⟨0, 0⟩

structure Val where
 Null : Bool
 N : Int
def Val.zero : Val := ⟨false, 0⟩

structure Tab where
 Width : Int
 Rows : List (List Val)
def Tab.zero : Tab := ⟨0, []⟩

structure Rdr where
 b : List Int
 p : Int
def Rdr.zero : Rdr := ⟨[], 0⟩

structure Sta where
 Rows : Int
 Distinct : List Int
 Nulls : List Int
def Sta.zero : Sta := ⟨0, [], []⟩

def RR : Nat → Type
 | 0 => Rng
 | 1 => Val
 | 2 => Tab
 | 3 => Rdr
 | 4 => Sta
 | _ + 5 => Bool

instance uT : UnivT := ⟨RR⟩

def dflR : (n : Nat) → RR n
 | 0 => Rng.zero
 | 1 => Val.zero
 | 2 => Tab.zero
 | 3 => Rdr.zero
 | 4 => Sta.zero
 | _ + 5 => false

def szR : Nat → Nat
 | 0 => 2
 | 1 => 2
 | 2 => 2
 | 3 => 2
 | 4 => 3
 | _ + 5 => 1

instance uD : UnivD := { uT with dfl := dflR, sz := szR }

def tysR : Nat → List Ty
 | 0 => [.int .i64, .int .i64]
 | 1 => [.bool, .int .i64]
 | 2 => [.int .i64, .slice (.slice (.named 1))]
 | 3 => [.slice (.int .u8), .int .i64]
 | 4 => [.int .i64, .slice (.int .i64), .slice (.int .i64)]
 | _ + 5 => [.bool]

def getR : (n : Nat) → RR n → List TV
 | 0, x => [⟨.int .i64, Rng.Low x⟩, ⟨.int .i64, Rng.High x⟩]
 | 1, x => [⟨.bool, Val.Null x⟩, ⟨.int .i64, Val.N x⟩]
 | 2, x => [⟨.int .i64, Tab.Width x⟩, ⟨.slice (.slice (.named 1)), Tab.Rows x⟩]
 | 3, x => [⟨.slice (.int .u8), Rdr.b x⟩, ⟨.int .i64, Rdr.p x⟩]
 | 4, x => [⟨.int .i64, Sta.Rows x⟩, ⟨.slice (.int .i64), Sta.Distinct x⟩, ⟨.slice (.int .i64), Sta.Nulls x⟩]
 | _ + 5, x => [⟨.bool, x⟩]

def asTV (t : Ty) (d : t.den) (tv : TV) : t.den := if h : tv.1 = t then h ▸ tv.2 else d

def bldR : (n : Nat) → List TV → RR n
 | 0, [a0, a1] => (⟨asTV (.int .i64) (Ty.zero (.int .i64)) a0, asTV (.int .i64) (Ty.zero (.int .i64)) a1⟩ : Rng)
 | 0, _ => Rng.zero
 | 1, [a0, a1] => (⟨asTV (.bool) (Ty.zero (.bool)) a0, asTV (.int .i64) (Ty.zero (.int .i64)) a1⟩ : Val)
 | 1, _ => Val.zero
 | 2, [a0, a1] => (⟨asTV (.int .i64) (Ty.zero (.int .i64)) a0, asTV (.slice (.slice (.named 1))) (Ty.zero (.slice (.slice (.named 1)))) a1⟩ : Tab)
 | 2, _ => Tab.zero
 | 3, [a0, a1] => (⟨asTV (.slice (.int .u8)) (Ty.zero (.slice (.int .u8))) a0, asTV (.int .i64) (Ty.zero (.int .i64)) a1⟩ : Rdr)
 | 3, _ => Rdr.zero
 | 4, [a0, a1, a2] => (⟨asTV (.int .i64) (Ty.zero (.int .i64)) a0, asTV (.slice (.int .i64)) (Ty.zero (.slice (.int .i64))) a1, asTV (.slice (.int .i64)) (Ty.zero (.slice (.int .i64))) a2⟩ : Sta)
 | 4, _ => Sta.zero
 | _ + 5, [a0] => asTV .bool false a0
 | _ + 5, _ => false

theorem get_bldR : ∀ (n : Nat) (l : List TV), l.map Sigma.fst = tysR n → getR n (bldR n l) = l
 | 0, l, h => AllT.get (p := fun l => getR 0 (bldR 0 l) = l) (ts := tysR 0) (fun _ _ => rfl) l h
 | 1, l, h => AllT.get (p := fun l => getR 1 (bldR 1 l) = l) (ts := tysR 1) (fun _ _ => rfl) l h
 | 2, l, h => AllT.get (p := fun l => getR 2 (bldR 2 l) = l) (ts := tysR 2) (fun _ _ => rfl) l h
 | 3, l, h => AllT.get (p := fun l => getR 3 (bldR 3 l) = l) (ts := tysR 3) (fun _ _ => rfl) l h
 | 4, l, h => AllT.get (p := fun l => getR 4 (bldR 4 l) = l) (ts := tysR 4) (fun _ _ _ => rfl) l h
 | n + 5, l, h => AllT.get (p := fun l => getR (n + 5) (bldR (n + 5) l) = l) (ts := tysR (n + 5)) (fun _ => rfl) l h

theorem bld_getR : ∀ (n : Nat) (x : RR n), bldR n (getR n x) = x
 | 0, _ => rfl
 | 1, _ => rfl
 | 2, _ => rfl
 | 3, _ => rfl
 | 4, _ => rfl
 | _ + 5, _ => rfl

theorem get_dflR : ∀ (n : Nat), getR n (dflR n) = (tysR n).map fun t => ⟨t, t.zero⟩
 | 0 => rfl
 | 1 => rfl
 | 2 => rfl
 | 3 => rfl
 | 4 => rfl
 | _ + 5 => rfl

theorem sz_eqR : ∀ n, szR n = ((tysR n).map Ty.size).sum
 | 0 => rfl
 | 1 => rfl
 | 2 => rfl
 | 3 => rfl
 | 4 => rfl
 | _ + 5 => rfl

theorem sz_posR : ∀ n, 1 ≤ szR n
 | 0 => by decide
 | 1 => by decide
 | 2 => by decide
 | 3 => by decide
 | 4 => by decide
 | _ + 5 => Nat.le_refl _

theorem get_tysR : ∀ (n : Nat) (x : RR n), (getR n x).map Sigma.fst = tysR n
 | 0, _ => rfl
 | 1, _ => rfl
 | 2, _ => rfl
 | 3, _ => rfl
 | 4, _ => rfl
 | _ + 5, _ => rfl

def cmpR : Nat → Bool
 | 0 => true
 | 1 => true
 | 2 => false
 | 3 => false
 | 4 => false
 | _ + 5 => false

def mapL : List (Nat × Nat) := [(111, 3)]

instance uv : Univ := { uD with maps := mapL, fvars := [85], cmp := cmpR, tys := tysR, get := getR, bld := bldR, get_tys := get_tysR, get_bld := get_bldR, bld_get := bld_getR, get_dfl := get_dflR, sz_eq := sz_eqR, sz_pos := sz_posR }

theorem noGlob : ∀ (w : World) (bs : List Nat), Laid w bs := fun _ _ => ⟨fun _ hb => (by cases hb), trivial⟩

end Go.Proofs.Ytjcjpeckfikfkaa


namespace Go.Proofs.Ytjcjpeckfikfkaa
open Go Go.Am

def tyL : List (Nat × Ty) := [(3, (.int .i64)), (4, .bool), (5, (.int .u8)), (22, (.slice (.int .u8))), (23, (.slice (.slice (.named 1)))), (26, (.named 2)), (27, (.named 2)), (31, (.slice (.named 1))), (34, (.slice (.slice (.named 1)))), (47, (.named 2)), (48, (.named 2)), (58, (.slice (.int .i64))), (62, (.named 1)), (63, (.named 1)), (66, (.named 0)), (67, (.named 0)), (72, (.named 0)), (75, (.named 4)), (76, (.named 4)), (94, (.slice (.named 1))), (112, (.named 3)), (113, (.named 3)), (122, (.named 1)), (124, (.int .u64)), (125, (.slice (.slice (.slice (.named 1)))))]

theorem tyOK {sp : List (Nat × FnSpec)} : CtxTy Try.prog (mkCtx tyL sp) := by
 refine CtxTy.of ⟨?_, ?_, ?_, ?_, ?_, ?_, ?_, ?_, ?_, ?_, ?_, ?_, ?_, ?_, ?_, ?_, ?_, ?_, ?_, ?_, ?_, ?_, ?_, ?_, ?_, trivial⟩
 · exact .of 8 (by kernel_rfl) (by decide) (by decide) (by decide) Try.underlying3 trivial (fun _ _ h => by cases h) (fun _ h => by cases h) (fun _ h => by cases h) (MapsOK.get (l := mapL) ⟨fun _ => Try.underlying111, trivial⟩)
 · exact .of 1 (by kernel_rfl) (by decide) (by decide) (by decide) Try.underlying4 trivial (fun _ _ h => by cases h) (fun _ h => by cases h) (fun _ h => by cases h) (MapsOK.get (l := mapL) ⟨(fun h => by cases h), trivial⟩)
 · exact .of 1 (by kernel_rfl) (by decide) (by decide) (by decide) Try.underlying5 trivial (fun _ _ h => by cases h) (fun _ h => by cases h) (fun _ h => by cases h) (MapsOK.get (l := mapL) ⟨(fun h => by cases h), trivial⟩)
 · exact .of 24 (by kernel_rfl) (by decide) (by decide) (by decide) ⟨5, Try.underlying22, rfl⟩ trivial (fun _ _ h => by cases h) (fun _ h => by cases h) (fun _ h => by cases h) (MapsOK.get (l := mapL) ⟨(fun h => by cases h), trivial⟩)
 · exact .of 24 (by kernel_rfl) (by decide) (by decide) (by decide) ⟨31, Try.underlying23, rfl⟩ trivial (fun _ _ h => by cases h) (fun _ h => by cases h) (fun _ h => by cases h) (MapsOK.get (l := mapL) ⟨(fun h => by cases h), trivial⟩)
 · exact .of 32 (by kernel_rfl) (by decide) (by decide) (by decide) ⟨_, Try.underlying26, by decide, AllI.get ⟨⟨_, rfl, rfl, rfl⟩, ⟨_, rfl, rfl, rfl⟩, trivial⟩⟩ (fun h => by cases h) (fun _ _ h => by cases h) (fun _ h => by cases h) (fun _ h => by cases h) (MapsOK.get (l := mapL) ⟨(fun h => by cases h), trivial⟩)
 · exact .of 32 (by kernel_rfl) (by decide) (by decide) (by decide) ⟨_, Try.underlying27, by decide, AllI.get ⟨⟨_, rfl, rfl, rfl⟩, ⟨_, rfl, rfl, rfl⟩, trivial⟩⟩ (fun h => by cases h) (fun _ _ h => by cases h) (fun _ h => by cases h) (fun _ h => by cases h) (MapsOK.get (l := mapL) ⟨(fun h => by cases h), trivial⟩)
 · exact .of 24 (by kernel_rfl) (by decide) (by decide) (by decide) ⟨63, Try.underlying31, rfl⟩ trivial (fun _ _ h => by cases h) (fun _ h => by cases h) (fun _ h => by cases h) (MapsOK.get (l := mapL) ⟨(fun h => by cases h), trivial⟩)
 · exact .of 24 (by kernel_rfl) (by decide) (by decide) (by decide) ⟨94, Try.underlying34, rfl⟩ trivial (fun _ _ h => by cases h) (fun _ h => by cases h) (fun _ h => by cases h) (MapsOK.get (l := mapL) ⟨(fun h => by cases h), trivial⟩)
 · exact .of 32 (by kernel_rfl) (by decide) (by decide) (by decide) ⟨_, Try.underlying47, by decide, AllI.get ⟨⟨_, rfl, rfl, rfl⟩, ⟨_, rfl, rfl, rfl⟩, trivial⟩⟩ (fun h => by cases h) (fun _ _ h => by cases h) (fun _ h => by cases h) (fun _ h => by cases h) (MapsOK.get (l := mapL) ⟨(fun h => by cases h), trivial⟩)
 · exact .of 32 (by kernel_rfl) (by decide) (by decide) (by decide) ⟨_, Try.underlying48, by decide, AllI.get ⟨⟨_, rfl, rfl, rfl⟩, ⟨_, rfl, rfl, rfl⟩, trivial⟩⟩ (fun h => by cases h) (fun _ _ h => by cases h) (fun _ h => by cases h) (fun _ h => by cases h) (MapsOK.get (l := mapL) ⟨(fun h => by cases h), trivial⟩)
 · exact .of 24 (by kernel_rfl) (by decide) (by decide) (by decide) ⟨3, Try.underlying58, rfl⟩ trivial (fun _ _ h => by cases h) (fun _ h => by cases h) (fun _ h => by cases h) (MapsOK.get (l := mapL) ⟨(fun h => by cases h), trivial⟩)
 · exact .of 16 (by kernel_rfl) (by decide) (by decide) (by decide) ⟨_, Try.underlying62, by decide, AllI.get ⟨⟨_, rfl, rfl, rfl⟩, ⟨_, rfl, rfl, rfl⟩, trivial⟩⟩ (fun _ => ⟨by kernel_rfl, by kernel_rfl, by kernel_rfl⟩) (fun _ _ h => by cases h) (fun _ h => by cases h) (fun _ h => by cases h) (MapsOK.get (l := mapL) ⟨(fun h => by cases h), trivial⟩)
 · exact .of 16 (by kernel_rfl) (by decide) (by decide) (by decide) ⟨_, Try.underlying63, by decide, AllI.get ⟨⟨_, rfl, rfl, rfl⟩, ⟨_, rfl, rfl, rfl⟩, trivial⟩⟩ (fun _ => ⟨by kernel_rfl, by kernel_rfl, by kernel_rfl⟩) (fun _ _ h => by cases h) (fun _ h => by cases h) (fun _ h => by cases h) (MapsOK.get (l := mapL) ⟨(fun h => by cases h), trivial⟩)
 · exact .of 16 (by kernel_rfl) (by decide) (by decide) (by decide) ⟨_, Try.underlying66, by decide, AllI.get ⟨⟨_, rfl, rfl, rfl⟩, ⟨_, rfl, rfl, rfl⟩, trivial⟩⟩ (fun _ => ⟨by kernel_rfl, by kernel_rfl, by kernel_rfl⟩) (fun _ _ h => by cases h) (fun _ h => by cases h) (fun _ h => by cases h) (MapsOK.get (l := mapL) ⟨(fun h => by cases h), trivial⟩)
 · exact .of 16 (by kernel_rfl) (by decide) (by decide) (by decide) ⟨_, Try.underlying67, by decide, AllI.get ⟨⟨_, rfl, rfl, rfl⟩, ⟨_, rfl, rfl, rfl⟩, trivial⟩⟩ (fun _ => ⟨by kernel_rfl, by kernel_rfl, by kernel_rfl⟩) (fun _ _ h => by cases h) (fun _ h => by cases h) (fun _ h => by cases h) (MapsOK.get (l := mapL) ⟨(fun h => by cases h), trivial⟩)
 · exact .of 16 (by kernel_rfl) (by decide) (by decide) (by decide) ⟨_, Try.underlying72, by decide, AllI.get ⟨⟨_, rfl, rfl, rfl⟩, ⟨_, rfl, rfl, rfl⟩, trivial⟩⟩ (fun _ => ⟨by kernel_rfl, by kernel_rfl, by kernel_rfl⟩) (fun _ _ h => by cases h) (fun _ h => by cases h) (fun _ h => by cases h) (MapsOK.get (l := mapL) ⟨(fun h => by cases h), trivial⟩)
 · exact .of 56 (by kernel_rfl) (by decide) (by decide) (by decide) ⟨_, Try.underlying75, by decide, AllI.get ⟨⟨_, rfl, rfl, rfl⟩, ⟨_, rfl, rfl, rfl⟩, ⟨_, rfl, rfl, rfl⟩, trivial⟩⟩ (fun h => by cases h) (fun _ _ h => by cases h) (fun _ h => by cases h) (fun _ h => by cases h) (MapsOK.get (l := mapL) ⟨(fun h => by cases h), trivial⟩)
 · exact .of 56 (by kernel_rfl) (by decide) (by decide) (by decide) ⟨_, Try.underlying76, by decide, AllI.get ⟨⟨_, rfl, rfl, rfl⟩, ⟨_, rfl, rfl, rfl⟩, ⟨_, rfl, rfl, rfl⟩, trivial⟩⟩ (fun h => by cases h) (fun _ _ h => by cases h) (fun _ h => by cases h) (fun _ h => by cases h) (MapsOK.get (l := mapL) ⟨(fun h => by cases h), trivial⟩)
 · exact .of 24 (by kernel_rfl) (by decide) (by decide) (by decide) ⟨122, Try.underlying94, rfl⟩ trivial (fun _ _ h => by cases h) (fun _ h => by cases h) (fun _ h => by cases h) (MapsOK.get (l := mapL) ⟨(fun h => by cases h), trivial⟩)
 · exact .of 32 (by kernel_rfl) (by decide) (by decide) (by decide) ⟨_, Try.underlying112, by decide, AllI.get ⟨⟨_, rfl, rfl, rfl⟩, ⟨_, rfl, rfl, rfl⟩, trivial⟩⟩ (fun h => by cases h) (fun _ _ h => by cases h) (fun _ h => by cases h) (fun _ h => by cases h) (MapsOK.get (l := mapL) ⟨(fun h => by cases h), trivial⟩)
 · exact .of 32 (by kernel_rfl) (by decide) (by decide) (by decide) ⟨_, Try.underlying113, by decide, AllI.get ⟨⟨_, rfl, rfl, rfl⟩, ⟨_, rfl, rfl, rfl⟩, trivial⟩⟩ (fun h => by cases h) (fun _ _ h => by cases h) (fun _ h => by cases h) (fun _ h => by cases h) (MapsOK.get (l := mapL) ⟨(fun h => by cases h), trivial⟩)
 · exact .of 16 (by kernel_rfl) (by decide) (by decide) (by decide) ⟨_, Try.underlying122, by decide, AllI.get ⟨⟨_, rfl, rfl, rfl⟩, ⟨_, rfl, rfl, rfl⟩, trivial⟩⟩ (fun _ => ⟨by kernel_rfl, by kernel_rfl, by kernel_rfl⟩) (fun _ _ h => by cases h) (fun _ h => by cases h) (fun _ h => by cases h) (MapsOK.get (l := mapL) ⟨(fun h => by cases h), trivial⟩)
 · exact .of 8 (by kernel_rfl) (by decide) (by decide) (by decide) Try.underlying124 trivial (fun _ _ h => by cases h) (fun _ h => by cases h) (fun _ h => by cases h) (MapsOK.get (l := mapL) ⟨(fun h => by cases h), trivial⟩)
 · exact .of 24 (by kernel_rfl) (by decide) (by decide) (by decide) ⟨23, Try.underlying125, rfl⟩ trivial (fun _ _ h => by cases h) (fun _ h => by cases h) (fun _ h => by cases h) (MapsOK.get (l := mapL) ⟨(fun h => by cases h), trivial⟩)

end Go.Proofs.Ytjcjpeckfikfkaa
