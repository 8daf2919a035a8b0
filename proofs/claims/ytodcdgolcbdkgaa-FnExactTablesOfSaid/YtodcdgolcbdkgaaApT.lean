/-
  A part of the proof of this claim (ApT): what functions of the program compute, and plain facts of that. No conditions.
-/
import Derived.Test.YtodcdgolcbdkgaaAnO
import Derived.Test.YtodcdgolcbdkgaaChecked
import Derived.Eval
set_option linter.all false
namespace Go.Proofs.Ytodcdgolcbdkgaa
open Go Go.Am

structure Val where
 Null : Bool
 N : Int
def Val.zero : Val := ⟨false, 0⟩

inductive Xpr where
 | mk (Kind : Int) (Col : Int) (V : Val) (Kids : List Xpr)
def Xpr.Kind : Xpr → Int
 | .mk x _ _ _ => x
def Xpr.Col : Xpr → Int
 | .mk _ x _ _ => x
def Xpr.V : Xpr → Val
 | .mk _ _ x _ => x
def Xpr.Kids : Xpr → List Xpr
 | .mk _ _ _ x => x
theorem Xpr.eta (x : Xpr) : Xpr.mk (Xpr.Kind x) (Xpr.Col x) (Xpr.V x) (Xpr.Kids x) = x := by cases x; rfl
def Xpr.zero : Xpr := ⟨0, 0, Val.zero, []⟩

inductive Pln where
 | mk (Kind : Int) (Table : Int) (Exprs : List Xpr) (Cols : List Int) (Kids : List Pln)
def Pln.Kind : Pln → Int
 | .mk x _ _ _ _ => x
def Pln.Table : Pln → Int
 | .mk _ x _ _ _ => x
def Pln.Exprs : Pln → List Xpr
 | .mk _ _ x _ _ => x
def Pln.Cols : Pln → List Int
 | .mk _ _ _ x _ => x
def Pln.Kids : Pln → List Pln
 | .mk _ _ _ _ x => x
theorem Pln.eta (x : Pln) : Pln.mk (Pln.Kind x) (Pln.Table x) (Pln.Exprs x) (Pln.Cols x) (Pln.Kids x) = x := by cases x; rfl
def Pln.zero : Pln := ⟨0, 0, [], [], []⟩

structure Sta where
 Rows : Int
 Distinct : List Int
 Nulls : List Int
def Sta.zero : Sta := ⟨0, [], []⟩

structure Cel where
 v : Int
def Cel.zero : Cel := ⟨0⟩

def RR : Nat → Type
 | 0 => Val
 | 1 => Xpr
 | 2 => Pln
 | 3 => Sta
 | 4 => Cel
 | _ + 5 => Bool

instance uT : UnivT := ⟨RR⟩

def dflR : (n : Nat) → RR n
 | 0 => Val.zero
 | 1 => Xpr.zero
 | 2 => Pln.zero
 | 3 => Sta.zero
 | 4 => Cel.zero
 | _ + 5 => false

def szR : Nat → Nat
 | 0 => 2
 | 1 => 5
 | 2 => 5
 | 3 => 3
 | 4 => 1
 | _ + 5 => 1

instance uD : UnivD := { uT with dfl := dflR, sz := szR }

def tysR : Nat → List Ty
 | 0 => [.bool, .int .i64]
 | 1 => [.int .i64, .int .i64, .named 0, .slice (.named 1)]
 | 2 => [.int .i64, .int .i64, .slice (.named 1), .slice (.int .i64), .slice (.named 2)]
 | 3 => [.int .i64, .slice (.int .i64), .slice (.int .i64)]
 | 4 => [.int .i64]
 | _ + 5 => [.bool]

def getR : (n : Nat) → RR n → List TV
 | 0, x => [⟨.bool, Val.Null x⟩, ⟨.int .i64, Val.N x⟩]
 | 1, x => [⟨.int .i64, Xpr.Kind x⟩, ⟨.int .i64, Xpr.Col x⟩, ⟨.named 0, Xpr.V x⟩, ⟨.slice (.named 1), Xpr.Kids x⟩]
 | 2, x => [⟨.int .i64, Pln.Kind x⟩, ⟨.int .i64, Pln.Table x⟩, ⟨.slice (.named 1), Pln.Exprs x⟩, ⟨.slice (.int .i64), Pln.Cols x⟩, ⟨.slice (.named 2), Pln.Kids x⟩]
 | 3, x => [⟨.int .i64, Sta.Rows x⟩, ⟨.slice (.int .i64), Sta.Distinct x⟩, ⟨.slice (.int .i64), Sta.Nulls x⟩]
 | 4, x => [⟨.int .i64, Cel.v x⟩]
 | _ + 5, x => [⟨.bool, x⟩]

def asTV (t : Ty) (d : t.den) (tv : TV) : t.den := if h : tv.1 = t then h ▸ tv.2 else d

def bldR : (n : Nat) → List TV → RR n
 | 0, [a0, a1] => (⟨asTV (.bool) (Ty.zero (.bool)) a0, asTV (.int .i64) (Ty.zero (.int .i64)) a1⟩ : Val)
 | 0, _ => Val.zero
 | 1, [a0, a1, a2, a3] => (⟨asTV (.int .i64) (Ty.zero (.int .i64)) a0, asTV (.int .i64) (Ty.zero (.int .i64)) a1, asTV (.named 0) (Ty.zero (.named 0)) a2, asTV (.slice (.named 1)) (Ty.zero (.slice (.named 1))) a3⟩ : Xpr)
 | 1, _ => Xpr.zero
 | 2, [a0, a1, a2, a3, a4] => (⟨asTV (.int .i64) (Ty.zero (.int .i64)) a0, asTV (.int .i64) (Ty.zero (.int .i64)) a1, asTV (.slice (.named 1)) (Ty.zero (.slice (.named 1))) a2, asTV (.slice (.int .i64)) (Ty.zero (.slice (.int .i64))) a3, asTV (.slice (.named 2)) (Ty.zero (.slice (.named 2))) a4⟩ : Pln)
 | 2, _ => Pln.zero
 | 3, [a0, a1, a2] => (⟨asTV (.int .i64) (Ty.zero (.int .i64)) a0, asTV (.slice (.int .i64)) (Ty.zero (.slice (.int .i64))) a1, asTV (.slice (.int .i64)) (Ty.zero (.slice (.int .i64))) a2⟩ : Sta)
 | 3, _ => Sta.zero
 | 4, [a0] => (⟨asTV (.int .i64) (Ty.zero (.int .i64)) a0⟩ : Cel)
 | 4, _ => Cel.zero
 | _ + 5, [a0] => asTV .bool false a0
 | _ + 5, _ => false

theorem get_bldR : ∀ (n : Nat) (l : List TV), l.map Sigma.fst = tysR n → getR n (bldR n l) = l
 | 0, l, h => AllT.get (p := fun l => getR 0 (bldR 0 l) = l) (ts := tysR 0) (fun _ _ => rfl) l h
 | 1, l, h => AllT.get (p := fun l => getR 1 (bldR 1 l) = l) (ts := tysR 1) (fun _ _ _ _ => rfl) l h
 | 2, l, h => AllT.get (p := fun l => getR 2 (bldR 2 l) = l) (ts := tysR 2) (fun _ _ _ _ _ => rfl) l h
 | 3, l, h => AllT.get (p := fun l => getR 3 (bldR 3 l) = l) (ts := tysR 3) (fun _ _ _ => rfl) l h
 | 4, l, h => AllT.get (p := fun l => getR 4 (bldR 4 l) = l) (ts := tysR 4) (fun _ => rfl) l h
 | n + 5, l, h => AllT.get (p := fun l => getR (n + 5) (bldR (n + 5) l) = l) (ts := tysR (n + 5)) (fun _ => rfl) l h

theorem bld_getR : ∀ (n : Nat) (x : RR n), bldR n (getR n x) = x
 | 0, _ => rfl
 | 1, x => by cases x; rfl
 | 2, x => by cases x; rfl
 | 3, _ => rfl
 | 4, _ => rfl
 | _ + 5, _ => rfl

theorem get_dflR : ∀ (n : Nat), getR n (dflR n) = (tysR n).map fun t => ⟨t, t.zero⟩
 | 0 => rfl
 | 1 => rfl
 | 2 => rfl
 | 3 => rfl
 | 4 => rfl
 | _ + 5 => rfl

theorem sz_eqR : ∀ n, szR n = ((tysR n).map Ty.size).sum
 | 0 => rfl
 | 1 => rfl
 | 2 => rfl
 | 3 => rfl
 | 4 => rfl
 | _ + 5 => rfl

theorem sz_posR : ∀ n, 1 ≤ szR n
 | 0 => by decide
 | 1 => by decide
 | 2 => by decide
 | 3 => by decide
 | 4 => by decide
 | _ + 5 => Nat.le_refl _

theorem get_tysR : ∀ (n : Nat) (x : RR n), (getR n x).map Sigma.fst = tysR n
 | 0, _ => rfl
 | 1, _ => rfl
 | 2, _ => rfl
 | 3, _ => rfl
 | 4, _ => rfl
 | _ + 5, _ => rfl

def cmpR : Nat → Bool
 | 0 => true
 | 1 => false
 | 2 => false
 | 3 => false
 | 4 => true
 | _ + 5 => false

def arrL : List (Nat × Nat × Nat) := [(127, 3, 2)]

def ptrL : List (Nat × Nat) := [(134, 74)]

instance uv : Univ := { uD with arrs := arrL, ptrs := ptrL, cmp := cmpR, tys := tysR, get := getR, bld := bldR, get_tys := get_tysR, get_bld := get_bldR, bld_get := bld_getR, get_dfl := get_dflR, sz_eq := sz_eqR, sz_pos := sz_posR }

theorem noGlob : ∀ (w : World) (bs : List Nat), Laid w bs := fun _ _ => ⟨fun _ hb => (by cases hb), trivial⟩

end Go.Proofs.Ytodcdgolcbdkgaa


namespace Go.Proofs.Ytodcdgolcbdkgaa
open Go Go.Am
open List (length)

def tyL : List (Nat × Ty) := [(3, (.int .i64)), (4, .bool), (22, (.slice (.named 1))), (23, (.slice (.int .i64))), (24, (.slice (.named 2))), (26, (.named 2)), (27, (.slice (.named 3))), (31, (.slice (.named 1))), (32, (.slice (.named 2))), (34, (.named 2)), (36, (.slice (.named 3))), (46, (.slice (.slice .bool))), (48, (.slice .bool)), (68, (.named 0)), (70, (.named 1)), (72, (.named 0)), (74, (.named 1)), (87, (.named 3)), (90, (.named 3)), (132, (.slice (.named 0))), (136, (.int .i64))]

theorem tyOK {sp : List (Nat × FnSpec)} : CtxTy Try.prog (mkCtx tyL sp) := by
 refine CtxTy.of ⟨?_, ?_, ?_, ?_, ?_, ?_, ?_, ?_, ?_, ?_, ?_, ?_, ?_, ?_, ?_, ?_, ?_, ?_, ?_, ?_, ?_, trivial⟩
 · exact .of 8 (by kernel_rfl) (by decide) (by decide) (by decide) Try.underlying3 trivial (ArrsOK.get (l := arrL) ⟨fun _ => ArrAt.of (by decide) Try.underlying127 rfl (by kernel_rfl), trivial⟩) (PtrsOK.get (l := ptrL) ⟨(fun h => by cases h), trivial⟩)
 · exact .of 1 (by kernel_rfl) (by decide) (by decide) (by decide) Try.underlying4 trivial (ArrsOK.get (l := arrL) ⟨(fun h => by cases h), trivial⟩) (PtrsOK.get (l := ptrL) ⟨(fun h => by cases h), trivial⟩)
 · exact .of 24 (by kernel_rfl) (by decide) (by decide) (by decide) ⟨70, Try.underlying22, rfl⟩ trivial (ArrsOK.get (l := arrL) ⟨(fun h => by cases h), trivial⟩) (PtrsOK.get (l := ptrL) ⟨(fun h => by cases h), trivial⟩)
 · exact .of 24 (by kernel_rfl) (by decide) (by decide) (by decide) ⟨3, Try.underlying23, rfl⟩ trivial (ArrsOK.get (l := arrL) ⟨(fun h => by cases h), trivial⟩) (PtrsOK.get (l := ptrL) ⟨(fun h => by cases h), trivial⟩)
 · exact .of 24 (by kernel_rfl) (by decide) (by decide) (by decide) ⟨26, Try.underlying24, rfl⟩ trivial (ArrsOK.get (l := arrL) ⟨(fun h => by cases h), trivial⟩) (PtrsOK.get (l := ptrL) ⟨(fun h => by cases h), trivial⟩)
 · exact .of 88 (by kernel_rfl) (by decide) (by decide) (by decide) ⟨_, Try.underlying26, by decide, AllI.get ⟨⟨_, rfl, rfl, rfl⟩, ⟨_, rfl, rfl, rfl⟩, ⟨_, rfl, rfl, rfl⟩, ⟨_, rfl, rfl, rfl⟩, ⟨_, rfl, rfl, rfl⟩, trivial⟩⟩ (fun h => by cases h) (ArrsOK.get (l := arrL) ⟨(fun h => by cases h), trivial⟩) (PtrsOK.get (l := ptrL) ⟨(fun h => by cases h), trivial⟩)
 · exact .of 24 (by kernel_rfl) (by decide) (by decide) (by decide) ⟨87, Try.underlying27, rfl⟩ trivial (ArrsOK.get (l := arrL) ⟨(fun h => by cases h), trivial⟩) (PtrsOK.get (l := ptrL) ⟨(fun h => by cases h), trivial⟩)
 · exact .of 24 (by kernel_rfl) (by decide) (by decide) (by decide) ⟨74, Try.underlying31, rfl⟩ trivial (ArrsOK.get (l := arrL) ⟨(fun h => by cases h), trivial⟩) (PtrsOK.get (l := ptrL) ⟨(fun h => by cases h), trivial⟩)
 · exact .of 24 (by kernel_rfl) (by decide) (by decide) (by decide) ⟨34, Try.underlying32, rfl⟩ trivial (ArrsOK.get (l := arrL) ⟨(fun h => by cases h), trivial⟩) (PtrsOK.get (l := ptrL) ⟨(fun h => by cases h), trivial⟩)
 · exact .of 88 (by kernel_rfl) (by decide) (by decide) (by decide) ⟨_, Try.underlying34, by decide, AllI.get ⟨⟨_, rfl, rfl, rfl⟩, ⟨_, rfl, rfl, rfl⟩, ⟨_, rfl, rfl, rfl⟩, ⟨_, rfl, rfl, rfl⟩, ⟨_, rfl, rfl, rfl⟩, trivial⟩⟩ (fun h => by cases h) (ArrsOK.get (l := arrL) ⟨(fun h => by cases h), trivial⟩) (PtrsOK.get (l := ptrL) ⟨(fun h => by cases h), trivial⟩)
 · exact .of 24 (by kernel_rfl) (by decide) (by decide) (by decide) ⟨90, Try.underlying36, rfl⟩ trivial (ArrsOK.get (l := arrL) ⟨(fun h => by cases h), trivial⟩) (PtrsOK.get (l := ptrL) ⟨(fun h => by cases h), trivial⟩)
 · exact .of 24 (by kernel_rfl) (by decide) (by decide) (by decide) ⟨48, Try.underlying46, rfl⟩ trivial (ArrsOK.get (l := arrL) ⟨(fun h => by cases h), trivial⟩) (PtrsOK.get (l := ptrL) ⟨(fun h => by cases h), trivial⟩)
 · exact .of 24 (by kernel_rfl) (by decide) (by decide) (by decide) ⟨4, Try.underlying48, rfl⟩ trivial (ArrsOK.get (l := arrL) ⟨(fun h => by cases h), trivial⟩) (PtrsOK.get (l := ptrL) ⟨(fun h => by cases h), trivial⟩)
 · exact .of 16 (by kernel_rfl) (by decide) (by decide) (by decide) ⟨_, Try.underlying68, by decide, AllI.get ⟨⟨_, rfl, rfl, rfl⟩, ⟨_, rfl, rfl, rfl⟩, trivial⟩⟩ (fun _ => ⟨by kernel_rfl, by kernel_rfl, by kernel_rfl⟩) (ArrsOK.get (l := arrL) ⟨(fun h => by cases h), trivial⟩) (PtrsOK.get (l := ptrL) ⟨(fun h => by cases h), trivial⟩)
 · exact .of 56 (by kernel_rfl) (by decide) (by decide) (by decide) ⟨_, Try.underlying70, by decide, AllI.get ⟨⟨_, rfl, rfl, rfl⟩, ⟨_, rfl, rfl, rfl⟩, ⟨_, rfl, rfl, rfl⟩, ⟨_, rfl, rfl, rfl⟩, trivial⟩⟩ (fun h => by cases h) (ArrsOK.get (l := arrL) ⟨(fun h => by cases h), trivial⟩) (PtrsOK.get (l := ptrL) ⟨(fun h => by cases h), trivial⟩)
 · exact .of 16 (by kernel_rfl) (by decide) (by decide) (by decide) ⟨_, Try.underlying72, by decide, AllI.get ⟨⟨_, rfl, rfl, rfl⟩, ⟨_, rfl, rfl, rfl⟩, trivial⟩⟩ (fun _ => ⟨by kernel_rfl, by kernel_rfl, by kernel_rfl⟩) (ArrsOK.get (l := arrL) ⟨(fun h => by cases h), trivial⟩) (PtrsOK.get (l := ptrL) ⟨(fun h => by cases h), trivial⟩)
 · exact .of 56 (by kernel_rfl) (by decide) (by decide) (by decide) ⟨_, Try.underlying74, by decide, AllI.get ⟨⟨_, rfl, rfl, rfl⟩, ⟨_, rfl, rfl, rfl⟩, ⟨_, rfl, rfl, rfl⟩, ⟨_, rfl, rfl, rfl⟩, trivial⟩⟩ (fun h => by cases h) (ArrsOK.get (l := arrL) ⟨(fun h => by cases h), trivial⟩) (PtrsOK.get (l := ptrL) ⟨fun _ => ⟨74, Try.underlying134⟩, trivial⟩)
 · exact .of 56 (by kernel_rfl) (by decide) (by decide) (by decide) ⟨_, Try.underlying87, by decide, AllI.get ⟨⟨_, rfl, rfl, rfl⟩, ⟨_, rfl, rfl, rfl⟩, ⟨_, rfl, rfl, rfl⟩, trivial⟩⟩ (fun h => by cases h) (ArrsOK.get (l := arrL) ⟨(fun h => by cases h), trivial⟩) (PtrsOK.get (l := ptrL) ⟨(fun h => by cases h), trivial⟩)
 · exact .of 56 (by kernel_rfl) (by decide) (by decide) (by decide) ⟨_, Try.underlying90, by decide, AllI.get ⟨⟨_, rfl, rfl, rfl⟩, ⟨_, rfl, rfl, rfl⟩, ⟨_, rfl, rfl, rfl⟩, trivial⟩⟩ (fun h => by cases h) (ArrsOK.get (l := arrL) ⟨(fun h => by cases h), trivial⟩) (PtrsOK.get (l := ptrL) ⟨(fun h => by cases h), trivial⟩)
 · exact .of 24 (by kernel_rfl) (by decide) (by decide) (by decide) ⟨72, Try.underlying132, rfl⟩ trivial (ArrsOK.get (l := arrL) ⟨(fun h => by cases h), trivial⟩) (PtrsOK.get (l := ptrL) ⟨(fun h => by cases h), trivial⟩)
 · exact .of 8 (by kernel_rfl) (by decide) (by decide) (by decide) Try.underlying136 trivial (ArrsOK.get (l := arrL) ⟨(fun h => by cases h), trivial⟩) (PtrsOK.get (l := ptrL) ⟨(fun h => by cases h), trivial⟩)

abbrev sI (n : Int) : SV := .int .i64 n
abbrev sB (b : Bool) : SV := .bool b
abbrev sR3 (x : Xpr) : SV := .dref (.named 1) x
abbrev sR4 (x : Pln) : SV := .dref (.named 2) x
abbrev sD7 (x : List Int) : SV := .data (.slice (.int .i64)) x
abbrev sD9 (x : List Xpr) : SV := .data (.slice (.named 1)) x
abbrev sD10 (x : List Pln) : SV := .data (.slice (.named 2)) x
theorem Val.wfl {a : Val} (h : Wf ⟨.named 0, (a : Val)⟩) : (-9223372036854775808 ≤ Val.N a ∧ Val.N a ≤ 9223372036854775807) := (h.field (tv := ⟨(.int .i64), Val.N a⟩) (List.Mem.tail _ (List.Mem.head _))).int_inv

theorem Xpr.wfl {a : Xpr} (h : Wf ⟨.named 1, (a : Xpr)⟩) : (-9223372036854775808 ≤ Xpr.Kind a ∧ Xpr.Kind a ≤ 9223372036854775807) ∧ (-9223372036854775808 ≤ Xpr.Col a ∧ Xpr.Col a ≤ 9223372036854775807) ∧ (length (Xpr.Kids a) : Int) ≤ 9223372036854775807 := ⟨(h.field (tv := ⟨(.int .i64), Xpr.Kind a⟩) (List.Mem.head _)).int_inv, (h.field (tv := ⟨(.int .i64), Xpr.Col a⟩) (List.Mem.tail _ (List.Mem.head _))).int_inv, (h.field (tv := ⟨(.slice (.named 1)), Xpr.Kids a⟩) (List.Mem.tail _ (List.Mem.tail _ (List.Mem.tail _ (List.Mem.head _))))).len⟩

theorem Pln.wfl {a : Pln} (h : Wf ⟨.named 2, (a : Pln)⟩) : (-9223372036854775808 ≤ Pln.Kind a ∧ Pln.Kind a ≤ 9223372036854775807) ∧ (-9223372036854775808 ≤ Pln.Table a ∧ Pln.Table a ≤ 9223372036854775807) ∧ (length (Pln.Exprs a) : Int) ≤ 9223372036854775807 ∧ (length (Pln.Cols a) : Int) ≤ 9223372036854775807 ∧ (length (Pln.Kids a) : Int) ≤ 9223372036854775807 := ⟨(h.field (tv := ⟨(.int .i64), Pln.Kind a⟩) (List.Mem.head _)).int_inv, (h.field (tv := ⟨(.int .i64), Pln.Table a⟩) (List.Mem.tail _ (List.Mem.head _))).int_inv, (h.field (tv := ⟨(.slice (.named 1)), Pln.Exprs a⟩) (List.Mem.tail _ (List.Mem.tail _ (List.Mem.head _)))).len, (h.field (tv := ⟨(.slice (.int .i64)), Pln.Cols a⟩) (List.Mem.tail _ (List.Mem.tail _ (List.Mem.tail _ (List.Mem.head _))))).len, (h.field (tv := ⟨(.slice (.named 2)), Pln.Kids a⟩) (List.Mem.tail _ (List.Mem.tail _ (List.Mem.tail _ (List.Mem.tail _ (List.Mem.head _)))))).len⟩

theorem Sta.wfl {a : Sta} (h : Wf ⟨.named 3, (a : Sta)⟩) : (-9223372036854775808 ≤ Sta.Rows a ∧ Sta.Rows a ≤ 9223372036854775807) ∧ (length (Sta.Distinct a) : Int) ≤ 9223372036854775807 ∧ (length (Sta.Nulls a) : Int) ≤ 9223372036854775807 := ⟨(h.field (tv := ⟨(.int .i64), Sta.Rows a⟩) (List.Mem.head _)).int_inv, (h.field (tv := ⟨(.slice (.int .i64)), Sta.Distinct a⟩) (List.Mem.tail _ (List.Mem.head _))).len, (h.field (tv := ⟨(.slice (.int .i64)), Sta.Nulls a⟩) (List.Mem.tail _ (List.Mem.tail _ (List.Mem.head _)))).len⟩

theorem Cel.wfl {a : Cel} (h : Wf ⟨.named 4, (a : Cel)⟩) : (-9223372036854775808 ≤ Cel.v a ∧ Cel.v a ≤ 9223372036854775807) := (h.field (tv := ⟨(.int .i64), Cel.v a⟩) (List.Mem.head _)).int_inv

end Go.Proofs.Ytodcdgolcbdkgaa
