/-
  A part of the proof of this claim (Au7): what functions of the program compute, and plain facts of that. No conditions.
-/
import Derived.Test.YtbgbekpbbcahpaaAu6
set_option linter.all false
namespace Go.Proofs.Ytbgbekpbbcahpaa
open Go Go.Am
noncomputable section

abbrev k2 (e : Xpr) (a0 a1 : Nat) : Xpr := kd (kd e a0) a1
abbrev k3 (e : Xpr) (a0 a1 a2 : Nat) : Xpr := kd (kd (kd e a0) a1) a2
abbrev k4 (e : Xpr) (a0 a1 a2 a3 : Nat) : Xpr := kd (kd (kd (kd e a0) a1) a2) a3
abbrev k5 (e : Xpr) (a0 a1 a2 a3 a4 : Nat) : Xpr := kd (kd (kd (kd (kd e a0) a1) a2) a3) a4
abbrev k6 (e : Xpr) (a0 a1 a2 a3 a4 a5 : Nat) : Xpr := kd (kd (kd (kd (kd (kd e a0) a1) a2) a3) a4) a5
abbrev k7 (e : Xpr) (a0 a1 a2 a3 a4 a5 a6 : Nat) : Xpr := kd (kd (kd (kd (kd (kd (kd e a0) a1) a2) a3) a4) a5) a6
abbrev k8 (e : Xpr) (a0 a1 a2 a3 a4 a5 a6 a7 : Nat) : Xpr := kd (kd (kd (kd (kd (kd (kd (kd e a0) a1) a2) a3) a4) a5) a6) a7
abbrev bE (e : Xpr) : Nat × Blk := (12, .box 1 [sI (Xpr.Kind e), sI (Xpr.Col e), sB (Val.Null (Xpr.V e)), sI (Val.N (Xpr.V e)), sD11 (Xpr.Kids e)])
abbrev bC (col : Int) : Nat × Blk := (20, .box 1 [sI col])
abbrev f0 (K : Nat) (e : Xpr) (a0 : Nat) (r : List (Nat × SV)) : List (Nat × SV) := (K, .ref 12 1 0) :: (K + 1, cl) :: (K + 17, sL e) :: (K + 18, sN a0) :: r
abbrev f1 (K : Nat) (e : Xpr) (a0 a1 : Nat) (r : List (Nat × SV)) : List (Nat × SV) := (K, sR4 (kd e a0)) :: (K + 1, cl) :: (K + 17, sL (kd e a0)) :: (K + 18, sN a1) :: f0 (K + 1000) e a0 r
abbrev f2 (K : Nat) (e : Xpr) (a0 a1 a2 : Nat) (r : List (Nat × SV)) : List (Nat × SV) := (K, sR4 (k2 e a0 a1)) :: (K + 1, cl) :: (K + 17, sL (k2 e a0 a1)) :: (K + 18, sN a2) :: f1 (K + 1000) e a0 a1 r
abbrev f3 (K : Nat) (e : Xpr) (a0 a1 a2 a3 : Nat) (r : List (Nat × SV)) : List (Nat × SV) := (K, sR4 (k3 e a0 a1 a2)) :: (K + 1, cl) :: (K + 17, sL (k3 e a0 a1 a2)) :: (K + 18, sN a3) :: f2 (K + 1000) e a0 a1 a2 r
abbrev f4 (K : Nat) (e : Xpr) (a0 a1 a2 a3 a4 : Nat) (r : List (Nat × SV)) : List (Nat × SV) := (K, sR4 (k4 e a0 a1 a2 a3)) :: (K + 1, cl) :: (K + 17, sL (k4 e a0 a1 a2 a3)) :: (K + 18, sN a4) :: f3 (K + 1000) e a0 a1 a2 a3 r
abbrev f5 (K : Nat) (e : Xpr) (a0 a1 a2 a3 a4 a5 : Nat) (r : List (Nat × SV)) : List (Nat × SV) := (K, sR4 (k5 e a0 a1 a2 a3 a4)) :: (K + 1, cl) :: (K + 17, sL (k5 e a0 a1 a2 a3 a4)) :: (K + 18, sN a5) :: f4 (K + 1000) e a0 a1 a2 a3 a4 r
abbrev f6 (K : Nat) (e : Xpr) (a0 a1 a2 a3 a4 a5 a6 : Nat) (r : List (Nat × SV)) : List (Nat × SV) := (K, sR4 (k6 e a0 a1 a2 a3 a4 a5)) :: (K + 1, cl) :: (K + 17, sL (k6 e a0 a1 a2 a3 a4 a5)) :: (K + 18, sN a6) :: f5 (K + 1000) e a0 a1 a2 a3 a4 a5 r
abbrev f7 (K : Nat) (e : Xpr) (a0 a1 a2 a3 a4 a5 a6 a7 : Nat) (r : List (Nat × SV)) : List (Nat × SV) := (K, sR4 (k7 e a0 a1 a2 a3 a4 a5 a6)) :: (K + 1, cl) :: (K + 17, sL (k7 e a0 a1 a2 a3 a4 a5 a6)) :: (K + 18, sN a7) :: f6 (K + 1000) e a0 a1 a2 a3 a4 a5 a6 r
abbrev x1 (K : Nat) (r : List Nat) : List Nat := K :: (K + 1) :: (K + 17) :: (K + 18) :: r
abbrev x2 (K : Nat) (r : List Nat) : List Nat := K :: (K + 1) :: (K + 17) :: (K + 18) :: x1 (K + 1000) r
abbrev x3 (K : Nat) (r : List Nat) : List Nat := K :: (K + 1) :: (K + 17) :: (K + 18) :: x2 (K + 1000) r
abbrev x4 (K : Nat) (r : List Nat) : List Nat := K :: (K + 1) :: (K + 17) :: (K + 18) :: x3 (K + 1000) r
abbrev x5 (K : Nat) (r : List Nat) : List Nat := K :: (K + 1) :: (K + 17) :: (K + 18) :: x4 (K + 1000) r
abbrev x6 (K : Nat) (r : List Nat) : List Nat := K :: (K + 1) :: (K + 17) :: (K + 18) :: x5 (K + 1000) r
abbrev x7 (K : Nat) (r : List Nat) : List Nat := K :: (K + 1) :: (K + 17) :: (K + 18) :: x6 (K + 1000) r
abbrev x8 (K : Nat) (r : List Nat) : List Nat := K :: (K + 1) :: (K + 17) :: (K + 18) :: x7 (K + 1000) r
abbrev x9 (K : Nat) (r : List Nat) : List Nat := K :: (K + 1) :: (K + 17) :: (K + 18) :: x8 (K + 1000) r

def iRangeOf_c0 (e : Xpr) (col : Int) : Int × Int × Bool :=
 (bif ((restriction (Xpr.mk (Xpr.Kind e) (Xpr.Col e) (Xpr.V e) (Xpr.Kids e)) col).2) then ((Rng.Low (intersected (Rng.mk (-9999) 9999) ((restriction (Xpr.mk (Xpr.Kind e) (Xpr.Col e) (Xpr.V e) (Xpr.Kids e)) col).1))), (Rng.High (intersected (Rng.mk (-9999) 9999) ((restriction (Xpr.mk (Xpr.Kind e) (Xpr.Col e) (Xpr.V e) (Xpr.Kids e)) col).1))), true) else ((-9999), 9999, false))

def iRangeOf_c1 (e : Xpr) (col : Int) (a0 : Nat) (whole0 : Int) (whole1 : Int) (found : Bool) : Int × Int × Bool :=
 (bif ((restriction (kd e a0) col).2) then ((Rng.Low (intersected (Rng.mk whole0 whole1) ((restriction (kd e a0) col).1))), (Rng.High (intersected (Rng.mk whole0 whole1) ((restriction (kd e a0) col).1))), true) else (whole0, whole1, found))

def iRangeOf_c2 (e : Xpr) (col : Int) (a0 : Nat) (a1 : Nat) (whole01 : Int) (whole11 : Int) (found1 : Bool) : Int × Int × Bool :=
 (bif ((restriction (k2 e a0 a1) col).2) then ((Rng.Low (intersected (Rng.mk whole01 whole11) ((restriction (k2 e a0 a1) col).1))), (Rng.High (intersected (Rng.mk whole01 whole11) ((restriction (k2 e a0 a1) col).1))), true) else (whole01, whole11, found1))

def iRangeOf_c3 (e : Xpr) (col : Int) (a0 : Nat) (a1 : Nat) (a2 : Nat) (whole02 : Int) (whole12 : Int) (found2 : Bool) : Int × Int × Bool :=
 (bif ((restriction (k3 e a0 a1 a2) col).2) then ((Rng.Low (intersected (Rng.mk whole02 whole12) ((restriction (k3 e a0 a1 a2) col).1))), (Rng.High (intersected (Rng.mk whole02 whole12) ((restriction (k3 e a0 a1 a2) col).1))), true) else (whole02, whole12, found2))

def iRangeOf_c4 (e : Xpr) (col : Int) (a0 : Nat) (a1 : Nat) (a2 : Nat) (a3 : Nat) (whole03 : Int) (whole13 : Int) (found3 : Bool) : Int × Int × Bool :=
 (bif ((restriction (k4 e a0 a1 a2 a3) col).2) then ((Rng.Low (intersected (Rng.mk whole03 whole13) ((restriction (k4 e a0 a1 a2 a3) col).1))), (Rng.High (intersected (Rng.mk whole03 whole13) ((restriction (k4 e a0 a1 a2 a3) col).1))), true) else (whole03, whole13, found3))

def iRangeOf_c5 (e : Xpr) (col : Int) (a0 : Nat) (a1 : Nat) (a2 : Nat) (a3 : Nat) (a4 : Nat) (whole04 : Int) (whole14 : Int) (found4 : Bool) : Int × Int × Bool :=
 (bif ((restriction (k5 e a0 a1 a2 a3 a4) col).2) then ((Rng.Low (intersected (Rng.mk whole04 whole14) ((restriction (k5 e a0 a1 a2 a3 a4) col).1))), (Rng.High (intersected (Rng.mk whole04 whole14) ((restriction (k5 e a0 a1 a2 a3 a4) col).1))), true) else (whole04, whole14, found4))

def iRangeOf_c6 (e : Xpr) (col : Int) (a0 : Nat) (a1 : Nat) (a2 : Nat) (a3 : Nat) (a4 : Nat) (a5 : Nat) (whole05 : Int) (whole15 : Int) (found5 : Bool) : Int × Int × Bool :=
 (bif ((restriction (k6 e a0 a1 a2 a3 a4 a5) col).2) then ((Rng.Low (intersected (Rng.mk whole05 whole15) ((restriction (k6 e a0 a1 a2 a3 a4 a5) col).1))), (Rng.High (intersected (Rng.mk whole05 whole15) ((restriction (k6 e a0 a1 a2 a3 a4 a5) col).1))), true) else (whole05, whole15, found5))

def iRangeOf_c7 (e : Xpr) (col : Int) (a0 : Nat) (a1 : Nat) (a2 : Nat) (a3 : Nat) (a4 : Nat) (a5 : Nat) (a6 : Nat) (whole06 : Int) (whole16 : Int) (found6 : Bool) : Int × Int × Bool :=
 (bif ((restriction (k7 e a0 a1 a2 a3 a4 a5 a6) col).2) then ((Rng.Low (intersected (Rng.mk whole06 whole16) ((restriction (k7 e a0 a1 a2 a3 a4 a5 a6) col).1))), (Rng.High (intersected (Rng.mk whole06 whole16) ((restriction (k7 e a0 a1 a2 a3 a4 a5 a6) col).1))), true) else (whole06, whole16, found6))

def iRangeOf_c8 (e : Xpr) (col : Int) (a0 : Nat) (a1 : Nat) (a2 : Nat) (a3 : Nat) (a4 : Nat) (a5 : Nat) (a6 : Nat) (a7 : Nat) (whole07 : Int) (whole17 : Int) (found7 : Bool) : Int × Int × Bool :=
 (bif ((restriction (k8 e a0 a1 a2 a3 a4 a5 a6 a7) col).2) then ((Rng.Low (intersected (Rng.mk whole07 whole17) ((restriction (k8 e a0 a1 a2 a3 a4 a5 a6 a7) col).1))), (Rng.High (intersected (Rng.mk whole07 whole17) ((restriction (k8 e a0 a1 a2 a3 a4 a5 a6 a7) col).1))), true) else (whole07, whole17, found7))

def iRangeOf_l7 (e : Xpr) (col : Int) (a0 : Nat) (a1 : Nat) (a2 : Nat) (a3 : Nat) (a4 : Nat) (a5 : Nat) (a6 : Nat) : Nat → Nat → Int → Int → Bool → Int × Int × Bool
 | 0, a7, whole07, whole17, found7 => (whole07, whole17, found7)
 | k + 1, a7, whole07, whole17, found7 => (bif (decide (((a7 : Nat) : Int) < ((List.length (Xpr.Kids (k7 e a0 a1 a2 a3 a4 a5 a6)) : Nat) : Int))) then (Go.Am.andThen (iRangeOf_c8 e col a0 a1 a2 a3 a4 a5 a6 a7 whole07 whole17 found7) (fun z => (fun (whole08 : Int) (whole18 : Int) (found8 : Bool) => (iRangeOf_l7 e col a0 a1 a2 a3 a4 a5 a6 k (a7 + 1) whole08 whole18 found8)) z.1 z.2.1 z.2.2)) else (whole07, whole17, found7))

def iRangeOf_c9 (e : Xpr) (col : Int) (a0 : Nat) (a1 : Nat) (a2 : Nat) (a3 : Nat) (a4 : Nat) (a5 : Nat) (a6 : Nat) (whole06 : Int) (whole16 : Int) (found6 : Bool) : Int × Int × Bool :=
 (bif ((Xpr.Kind (k7 e a0 a1 a2 a3 a4 a5 a6)) != 8) then (Go.Am.andThen (iRangeOf_c7 e col a0 a1 a2 a3 a4 a5 a6 whole06 whole16 found6) (fun z => (fun (whole07 : Int) (whole17 : Int) (found7 : Bool) => (whole07, whole17, found7)) z.1 z.2.1 z.2.2)) else (Go.Am.andThen (iRangeOf_l7 e col a0 a1 a2 a3 a4 a5 a6 ((List.length (Xpr.Kids (k7 e a0 a1 a2 a3 a4 a5 a6))) - 0 + 1) 0 whole06 whole16 found6) (fun z => (fun (whole07 : Int) (whole17 : Int) (found7 : Bool) => (whole07, whole17, found7)) z.1 z.2.1 z.2.2)))

def iRangeOf_l6 (e : Xpr) (col : Int) (a0 : Nat) (a1 : Nat) (a2 : Nat) (a3 : Nat) (a4 : Nat) (a5 : Nat) : Nat → Nat → Int → Int → Bool → Int × Int × Bool
 | 0, a6, whole06, whole16, found6 => (whole06, whole16, found6)
 | k + 1, a6, whole06, whole16, found6 => (bif (decide (((a6 : Nat) : Int) < ((List.length (Xpr.Kids (k6 e a0 a1 a2 a3 a4 a5)) : Nat) : Int))) then (Go.Am.andThen (iRangeOf_c9 e col a0 a1 a2 a3 a4 a5 a6 whole06 whole16 found6) (fun z => (fun (whole07 : Int) (whole17 : Int) (found7 : Bool) => (iRangeOf_l6 e col a0 a1 a2 a3 a4 a5 k (a6 + 1) whole07 whole17 found7)) z.1 z.2.1 z.2.2)) else (whole06, whole16, found6))

def iRangeOf_c10 (e : Xpr) (col : Int) (a0 : Nat) (a1 : Nat) (a2 : Nat) (a3 : Nat) (a4 : Nat) (a5 : Nat) (whole05 : Int) (whole15 : Int) (found5 : Bool) : Int × Int × Bool :=
 (bif ((Xpr.Kind (k6 e a0 a1 a2 a3 a4 a5)) != 8) then (Go.Am.andThen (iRangeOf_c6 e col a0 a1 a2 a3 a4 a5 whole05 whole15 found5) (fun z => (fun (whole06 : Int) (whole16 : Int) (found6 : Bool) => (whole06, whole16, found6)) z.1 z.2.1 z.2.2)) else (Go.Am.andThen (iRangeOf_l6 e col a0 a1 a2 a3 a4 a5 ((List.length (Xpr.Kids (k6 e a0 a1 a2 a3 a4 a5))) - 0 + 1) 0 whole05 whole15 found5) (fun z => (fun (whole06 : Int) (whole16 : Int) (found6 : Bool) => (whole06, whole16, found6)) z.1 z.2.1 z.2.2)))

def iRangeOf_l5 (e : Xpr) (col : Int) (a0 : Nat) (a1 : Nat) (a2 : Nat) (a3 : Nat) (a4 : Nat) : Nat → Nat → Int → Int → Bool → Int × Int × Bool
 | 0, a5, whole05, whole15, found5 => (whole05, whole15, found5)
 | k + 1, a5, whole05, whole15, found5 => (bif (decide (((a5 : Nat) : Int) < ((List.length (Xpr.Kids (k5 e a0 a1 a2 a3 a4)) : Nat) : Int))) then (Go.Am.andThen (iRangeOf_c10 e col a0 a1 a2 a3 a4 a5 whole05 whole15 found5) (fun z => (fun (whole06 : Int) (whole16 : Int) (found6 : Bool) => (iRangeOf_l5 e col a0 a1 a2 a3 a4 k (a5 + 1) whole06 whole16 found6)) z.1 z.2.1 z.2.2)) else (whole05, whole15, found5))

def iRangeOf_c11 (e : Xpr) (col : Int) (a0 : Nat) (a1 : Nat) (a2 : Nat) (a3 : Nat) (a4 : Nat) (whole04 : Int) (whole14 : Int) (found4 : Bool) : Int × Int × Bool :=
 (bif ((Xpr.Kind (k5 e a0 a1 a2 a3 a4)) != 8) then (Go.Am.andThen (iRangeOf_c5 e col a0 a1 a2 a3 a4 whole04 whole14 found4) (fun z => (fun (whole05 : Int) (whole15 : Int) (found5 : Bool) => (whole05, whole15, found5)) z.1 z.2.1 z.2.2)) else (Go.Am.andThen (iRangeOf_l5 e col a0 a1 a2 a3 a4 ((List.length (Xpr.Kids (k5 e a0 a1 a2 a3 a4))) - 0 + 1) 0 whole04 whole14 found4) (fun z => (fun (whole05 : Int) (whole15 : Int) (found5 : Bool) => (whole05, whole15, found5)) z.1 z.2.1 z.2.2)))

def iRangeOf_l4 (e : Xpr) (col : Int) (a0 : Nat) (a1 : Nat) (a2 : Nat) (a3 : Nat) : Nat → Nat → Int → Int → Bool → Int × Int × Bool
 | 0, a4, whole04, whole14, found4 => (whole04, whole14, found4)
 | k + 1, a4, whole04, whole14, found4 => (bif (decide (((a4 : Nat) : Int) < ((List.length (Xpr.Kids (k4 e a0 a1 a2 a3)) : Nat) : Int))) then (Go.Am.andThen (iRangeOf_c11 e col a0 a1 a2 a3 a4 whole04 whole14 found4) (fun z => (fun (whole05 : Int) (whole15 : Int) (found5 : Bool) => (iRangeOf_l4 e col a0 a1 a2 a3 k (a4 + 1) whole05 whole15 found5)) z.1 z.2.1 z.2.2)) else (whole04, whole14, found4))

def iRangeOf_c12 (e : Xpr) (col : Int) (a0 : Nat) (a1 : Nat) (a2 : Nat) (a3 : Nat) (whole03 : Int) (whole13 : Int) (found3 : Bool) : Int × Int × Bool :=
 (bif ((Xpr.Kind (k4 e a0 a1 a2 a3)) != 8) then (Go.Am.andThen (iRangeOf_c4 e col a0 a1 a2 a3 whole03 whole13 found3) (fun z => (fun (whole04 : Int) (whole14 : Int) (found4 : Bool) => (whole04, whole14, found4)) z.1 z.2.1 z.2.2)) else (Go.Am.andThen (iRangeOf_l4 e col a0 a1 a2 a3 ((List.length (Xpr.Kids (k4 e a0 a1 a2 a3))) - 0 + 1) 0 whole03 whole13 found3) (fun z => (fun (whole04 : Int) (whole14 : Int) (found4 : Bool) => (whole04, whole14, found4)) z.1 z.2.1 z.2.2)))

def iRangeOf_l3 (e : Xpr) (col : Int) (a0 : Nat) (a1 : Nat) (a2 : Nat) : Nat → Nat → Int → Int → Bool → Int × Int × Bool
 | 0, a3, whole03, whole13, found3 => (whole03, whole13, found3)
 | k + 1, a3, whole03, whole13, found3 => (bif (decide (((a3 : Nat) : Int) < ((List.length (Xpr.Kids (k3 e a0 a1 a2)) : Nat) : Int))) then (Go.Am.andThen (iRangeOf_c12 e col a0 a1 a2 a3 whole03 whole13 found3) (fun z => (fun (whole04 : Int) (whole14 : Int) (found4 : Bool) => (iRangeOf_l3 e col a0 a1 a2 k (a3 + 1) whole04 whole14 found4)) z.1 z.2.1 z.2.2)) else (whole03, whole13, found3))

def iRangeOf_c13 (e : Xpr) (col : Int) (a0 : Nat) (a1 : Nat) (a2 : Nat) (whole02 : Int) (whole12 : Int) (found2 : Bool) : Int × Int × Bool :=
 (bif ((Xpr.Kind (k3 e a0 a1 a2)) != 8) then (Go.Am.andThen (iRangeOf_c3 e col a0 a1 a2 whole02 whole12 found2) (fun z => (fun (whole03 : Int) (whole13 : Int) (found3 : Bool) => (whole03, whole13, found3)) z.1 z.2.1 z.2.2)) else (Go.Am.andThen (iRangeOf_l3 e col a0 a1 a2 ((List.length (Xpr.Kids (k3 e a0 a1 a2))) - 0 + 1) 0 whole02 whole12 found2) (fun z => (fun (whole03 : Int) (whole13 : Int) (found3 : Bool) => (whole03, whole13, found3)) z.1 z.2.1 z.2.2)))

def iRangeOf_l2 (e : Xpr) (col : Int) (a0 : Nat) (a1 : Nat) : Nat → Nat → Int → Int → Bool → Int × Int × Bool
 | 0, a2, whole02, whole12, found2 => (whole02, whole12, found2)
 | k + 1, a2, whole02, whole12, found2 => (bif (decide (((a2 : Nat) : Int) < ((List.length (Xpr.Kids (k2 e a0 a1)) : Nat) : Int))) then (Go.Am.andThen (iRangeOf_c13 e col a0 a1 a2 whole02 whole12 found2) (fun z => (fun (whole03 : Int) (whole13 : Int) (found3 : Bool) => (iRangeOf_l2 e col a0 a1 k (a2 + 1) whole03 whole13 found3)) z.1 z.2.1 z.2.2)) else (whole02, whole12, found2))

def iRangeOf_c14 (e : Xpr) (col : Int) (a0 : Nat) (a1 : Nat) (whole01 : Int) (whole11 : Int) (found1 : Bool) : Int × Int × Bool :=
 (bif ((Xpr.Kind (k2 e a0 a1)) != 8) then (Go.Am.andThen (iRangeOf_c2 e col a0 a1 whole01 whole11 found1) (fun z => (fun (whole02 : Int) (whole12 : Int) (found2 : Bool) => (whole02, whole12, found2)) z.1 z.2.1 z.2.2)) else (Go.Am.andThen (iRangeOf_l2 e col a0 a1 ((List.length (Xpr.Kids (k2 e a0 a1))) - 0 + 1) 0 whole01 whole11 found1) (fun z => (fun (whole02 : Int) (whole12 : Int) (found2 : Bool) => (whole02, whole12, found2)) z.1 z.2.1 z.2.2)))

def iRangeOf_l1 (e : Xpr) (col : Int) (a0 : Nat) : Nat → Nat → Int → Int → Bool → Int × Int × Bool
 | 0, a1, whole01, whole11, found1 => (whole01, whole11, found1)
 | k + 1, a1, whole01, whole11, found1 => (bif (decide (((a1 : Nat) : Int) < ((List.length (Xpr.Kids (kd e a0)) : Nat) : Int))) then (Go.Am.andThen (iRangeOf_c14 e col a0 a1 whole01 whole11 found1) (fun z => (fun (whole02 : Int) (whole12 : Int) (found2 : Bool) => (iRangeOf_l1 e col a0 k (a1 + 1) whole02 whole12 found2)) z.1 z.2.1 z.2.2)) else (whole01, whole11, found1))

def iRangeOf_c15 (e : Xpr) (col : Int) (a0 : Nat) (whole0 : Int) (whole1 : Int) (found : Bool) : Int × Int × Bool :=
 (bif ((Xpr.Kind (kd e a0)) != 8) then (Go.Am.andThen (iRangeOf_c1 e col a0 whole0 whole1 found) (fun z => (fun (whole01 : Int) (whole11 : Int) (found1 : Bool) => (whole01, whole11, found1)) z.1 z.2.1 z.2.2)) else (Go.Am.andThen (iRangeOf_l1 e col a0 ((List.length (Xpr.Kids (kd e a0))) - 0 + 1) 0 whole0 whole1 found) (fun z => (fun (whole01 : Int) (whole11 : Int) (found1 : Bool) => (whole01, whole11, found1)) z.1 z.2.1 z.2.2)))

def iRangeOf_l0 (e : Xpr) (col : Int) : Nat → Nat → Int → Int → Bool → Int × Int × Bool
 | 0, a0, whole0, whole1, found => (whole0, whole1, found)
 | k + 1, a0, whole0, whole1, found => (bif (decide (((a0 : Nat) : Int) < ((List.length (Xpr.Kids e) : Nat) : Int))) then (Go.Am.andThen (iRangeOf_c15 e col a0 whole0 whole1 found) (fun z => (fun (whole01 : Int) (whole11 : Int) (found1 : Bool) => (iRangeOf_l0 e col k (a0 + 1) whole01 whole11 found1)) z.1 z.2.1 z.2.2)) else (whole0, whole1, found))

def iRangeOf_c16 (e : Xpr) (col : Int) : Int × Int × Bool :=
 (bif ((Xpr.Kind e) != 8) then (Go.Am.andThen (iRangeOf_c0 e col) (fun z => (fun (whole0 : Int) (whole1 : Int) (found : Bool) => (whole0, whole1, found)) z.1 z.2.1 z.2.2)) else (Go.Am.andThen (iRangeOf_l0 e col ((List.length (Xpr.Kids e)) - 0 + 1) 0 (-9999) 9999 false) (fun z => (fun (whole0 : Int) (whole1 : Int) (found : Bool) => (whole0, whole1, found)) z.1 z.2.1 z.2.2)))

def iRangeOf (e : Xpr) (width : Int) (col : Int) : Rng × Bool := (bif (bif (bif (!(iValidExpr (Xpr.mk (Xpr.Kind e) (Xpr.Col e) (Xpr.V e) (Xpr.Kids e)) width)) then true else (decide (col < 0))) then true else (decide (width ≤ col))) then ((Rng.mk 0 0), false) else (Go.Am.andThen (iRangeOf_c16 e col) (fun z => (fun (whole0 : Int) (whole1 : Int) (found : Bool) => (bif (!found) then ((Rng.mk 0 0), false) else ((Rng.mk whole0 whole1), true))) z.1 z.2.1 z.2.2)))

def iRangeOf_sp : FnSpec := mkSpec [.val (.named 1), .val (.int .i64), .val (.int .i64)] [.val (.named 4), .val .bool] (fun (e : Xpr) (width : Int) (col : Int) => True) (fun (e : Xpr) (width : Int) (col : Int) => [⟨(.named 4), ((iRangeOf e width col).1)⟩, ⟨.bool, ((iRangeOf e width col).2)⟩])

theorem iRangeOf_ok : FnOK Try.prog 8 iRangeOf_sp := by
 have hC : CtxOK Try.prog (mkCtx tyL [(23, iValidExpr_sp), (26, restriction_sp), (27, intersected_sp)]) := CtxOK.cons iValidExpr_ok (CtxOK.cons restriction_ok (CtxOK.cons intersected_ok (CtxOK.nil tyOK)))
 have hC1 := hC.rebase 1000
 have hC2 := hC.rebase 2000
 have hC3 := hC.rebase 3000
 have hC4 := hC.rebase 4000
 have hC5 := hC.rebase 5000
 have hC6 := hC.rebase 6000
 have hC7 := hC.rebase 7000
 have hC8 := hC.rebase 8000
 have hC9 := hC.rebase 9000
 have hC10 := hC.rebase 10000
 refine FnOK.of_body Try.func8 (by kernel_rfl) rfl (C := (mkCtx tyL [(23, iValidExpr_sp), (26, restriction_sp), (27, intersected_sp)])) hC.ty (by kernel_rfl) ?_
 intro (e : Xpr) (width : Int) (col : Int) hwf hpre E
 have hpre : True := hpre
 have hw_e : Wf ⟨(.named 1), (e : Xpr)⟩ := hwf _ (List.Mem.head _)
 obtain ⟨hr_e_Kind, hr_e_Col, hl_e_Kids⟩ := Xpr.wfl hw_e
 have hw_width : Wf ⟨(.int .i64), (width : Int)⟩ := hwf _ (List.Mem.tail _ (List.Mem.head _))
 have hr_width : -9223372036854775808 ≤ width ∧ width ≤ 9223372036854775807 := hw_width.int_inv
 have hw_col : Wf ⟨(.int .i64), (col : Int)⟩ := hwf _ (List.Mem.tail _ (List.Mem.tail _ (List.Mem.head _)))
 have hr_col : -9223372036854775808 ≤ col ∧ col ≤ 9223372036854775807 := hw_col.int_inv
 have e0 : iRangeOf e width col = iRangeOf e width col := rfl
 refine AW.seq (AW.r1 hC [1, 3, 5, 6] [12, 20, 24] ⟨[(1, sI width), (3, .ref 12 1 0), (5, .ref 20 1 0), (6, .ref 24 1 0)], [bE e, bC col, (24, .box 1 [sI 0, sI 0])]⟩ ?_)
 refine AW.seq (AW.seq (AW.r0 hC [3, 5, 6, 22] [12, 20, 24] ⟨[(3, .ref 12 1 0), (5, .ref 20 1 0), (6, .ref 24 1 0), (22, sB (bif (bif (!(iValidExpr (Xpr.mk (Xpr.Kind e) (Xpr.Col e) (Xpr.V e) (Xpr.Kids e)) width)) then true else (decide (col < 0))) then true else (decide (width ≤ col))))], [bE e, bC col, (24, .box 1 [sI 0, sI 0])]⟩ [(True), (((!(iValidExpr (Xpr.mk (Xpr.Kind e) (Xpr.Col e) (Xpr.V e) (Xpr.Kids e)) width)) = false) → (((!(iValidExpr (Xpr.mk (Xpr.Kind e) (Xpr.Col e) (Xpr.V e) (Xpr.Kids e)) width)) = false))), (((!(iValidExpr (Xpr.mk (Xpr.Kind e) (Xpr.Col e) (Xpr.V e) (Xpr.Kids e)) width)) = false) → (((!(iValidExpr (Xpr.mk (Xpr.Kind e) (Xpr.Col e) (Xpr.V e) (Xpr.Kids e)) width)) = false))), (((bif (!(iValidExpr (Xpr.mk (Xpr.Kind e) (Xpr.Col e) (Xpr.V e) (Xpr.Kids e)) width)) then true else (decide (col < 0))) = false) → (((bif (!(iValidExpr (Xpr.mk (Xpr.Kind e) (Xpr.Col e) (Xpr.V e) (Xpr.Kids e)) width)) then true else (decide (col < 0))) = false))), (((bif (!(iValidExpr (Xpr.mk (Xpr.Kind e) (Xpr.Col e) (Xpr.V e) (Xpr.Kids e)) width)) then true else (decide (col < 0))) = false) → (((bif (!(iValidExpr (Xpr.mk (Xpr.Kind e) (Xpr.Col e) (Xpr.V e) (Xpr.Kids e)) width)) then true else (decide (col < 0))) = false))), (((bif (!(iValidExpr (Xpr.mk (Xpr.Kind e) (Xpr.Col e) (Xpr.V e) (Xpr.Kids e)) width)) then true else (decide (col < 0))) = false) → (((bif (!(iValidExpr (Xpr.mk (Xpr.Kind e) (Xpr.Col e) (Xpr.V e) (Xpr.Kids e)) width)) then true else (decide (col < 0))) = false)))] ?_ ?_))
 ·
  refine ⟨?_, ?_, ?_, ?_, ?_, ?_, trivial⟩
  ·
   trivial
  ·
   intro g1
   have g1p0 : (iValidExpr (Xpr.mk (Xpr.Kind e) (Xpr.Col e) (Xpr.V e) (Xpr.Kids e)) width) = true := (Go.Am.not_neg g1)
   assumption
  ·
   intro g2
   have g2p0 : (iValidExpr (Xpr.mk (Xpr.Kind e) (Xpr.Col e) (Xpr.V e) (Xpr.Kids e)) width) = true := (Go.Am.not_neg g2)
   assumption
  ·
   intro g3
   have g3p0 : ((iValidExpr (Xpr.mk (Xpr.Kind e) (Xpr.Col e) (Xpr.V e) (Xpr.Kids e)) width) = true) ∧ (¬ (col < 0)) := (And.imp (fun h => (Go.Am.not_neg h)) (fun h => (of_decide_eq_false h)) (Go.Am.or_neg g3))
   assumption
  ·
   intro g4
   have g4p0 : ((iValidExpr (Xpr.mk (Xpr.Kind e) (Xpr.Col e) (Xpr.V e) (Xpr.Kids e)) width) = true) ∧ (¬ (col < 0)) := (And.imp (fun h => (Go.Am.not_neg h)) (fun h => (of_decide_eq_false h)) (Go.Am.or_neg g4))
   assumption
  ·
   intro g5
   have g5p0 : ((iValidExpr (Xpr.mk (Xpr.Kind e) (Xpr.Col e) (Xpr.V e) (Xpr.Kids e)) width) = true) ∧ (¬ (col < 0)) := (And.imp (fun h => (Go.Am.not_neg h)) (fun h => (of_decide_eq_false h)) (Go.Am.or_neg g5))
   assumption
 refine AW.cd (bif (bif (!(iValidExpr (Xpr.mk (Xpr.Kind e) (Xpr.Col e) (Xpr.V e) (Xpr.Kids e)) width)) then true else (decide (col < 0))) then true else (decide (width ≤ col))) ?_ ?_
 ·
  intro h6
  have h6q : (((iValidExpr (Xpr.mk (Xpr.Kind e) (Xpr.Col e) (Xpr.V e) (Xpr.Kids e)) width) = false) ∨ (col < 0)) ∨ (width ≤ col) := (Or.imp (fun h => (Or.imp (fun h => (Go.Am.not_pos h)) (fun h => (of_decide_eq_true h)) (Go.Am.or_pos h))) (fun h => (of_decide_eq_true h)) (Go.Am.or_pos h6))
  have e7 := e0.trans (Go.Am.bif_t h6)
  refine AW.seq (AW.r1 hC [6, 7] [24] ⟨[(6, .ref 24 1 0), (7, sB false)], [(24, .box 1 [sI 0, sI 0])]⟩ ?_)
  exact AW.ret (AW.retE (β := Rng × Bool) (fun v => [⟨(.named 4), v.1⟩, ⟨.bool, v.2⟩]) (fun v => []) (v := ((Rng.mk 0 0), false)) e7 (by kernel_rfl) rfl rfl)
 ·
  intro h8
  have h8q : (((iValidExpr (Xpr.mk (Xpr.Kind e) (Xpr.Col e) (Xpr.V e) (Xpr.Kids e)) width) = true) ∧ (¬ (col < 0))) ∧ (¬ (width ≤ col)) := (And.imp (fun h => (And.imp (fun h => (Go.Am.not_neg h)) (fun h => (of_decide_eq_false h)) (Go.Am.or_neg h))) (fun h => (of_decide_eq_false h)) (Go.Am.or_neg h8))
  have e9 := e0.trans (Go.Am.bif_f h8)
  refine AW.kp [3, 5, 6] [12, 20, 24] ⟨[(3, .ref 12 1 0), (5, .ref 20 1 0), (6, .ref 24 1 0)], [bE e, bC col, (24, .box 1 [sI 0, sI 0])]⟩ ?_
  refine AW.skip (AW.seq (AW.r1 hC [3, 5, 6, 8] [12, 20, 24, 32] ⟨[(3, .ref 12 1 0), (5, .ref 20 1 0), (6, .ref 24 1 0), (8, .ref 32 1 0)], [bE e, bC col, (24, .box 1 [sI 0, sI 0]), (32, .box 1 [sI (-9999), sI 9999])]⟩ ?_))
  refine AW.seq (AW.r1 hC [3, 5, 6, 8, 9] [12, 20, 24, 32, 36] ⟨[(3, .ref 12 1 0), (5, .ref 20 1 0), (6, .ref 24 1 0), (8, .ref 32 1 0), (9, .ref 36 1 0)], [bE e, bC col, (24, .box 1 [sI 0, sI 0]), (32, .box 1 [sI (-9999), sI 9999]), (36, .box 1 [sB false])]⟩ ?_)
  refine AW.seq ?_
  have hN := ivalid_vl' h8q.1.1
  refine AW.regionO [0, 1] (by rfl) ?_
  refine AWO.run hC false [] [0] [1] [3, 6, 8, 9, 25] [12, 20, 24, 32, 36]
   ⟨[(3, .ref 12 1 0), (6, .ref 24 1 0), (8, .ref 32 1 0), (9, .ref 36 1 0), (25, cl)], [bE e, bC col, (24, .box 1 [sI 0, sI 0]), (32, .box 1 [sI (-9999), sI 9999]), (36, .box 1 [sB false])]⟩
   [] (by rfl) (by kernel_rfl) ?_ ?_
  ·
   exact trivial
  refine AWO.callJ hC.ty [6, 8, 9] [24, 32, 36] (α := Int × Int × Bool) (fun x => ⟨[(6, .ref 24 1 0), (8, .ref 32 1 0), (9, .ref 36 1 0)], [(24, .box 1 [sI 0, sI 0]), (32, .box 1 [sI x.1, sI x.2.1]), (36, .box 1 [sB x.2.2])]⟩) (fun x => (True) ∧ (iRangeOf_c16 e col) = x) (vs := [.ref 12 1 0, cl]) (caps := []) (by rfl) rfl (.inl rfl) (by decide) (by kernel_rfl) (by kernel_rfl) Try.func24 (by kernel_rfl) rfl (by kernel_rfl) ?_ ?_
  ·
   intro o1
   have e26304 : (iRangeOf_c16 e col) = (iRangeOf_c16 e col) := rfl
   refine AW.kp [0, 1, 1006, 1008, 1009] [12, 20, 24, 32, 36] ⟨[(0, .ref 12 1 0), (1, cl), (1006, .ref 24 1 0), (1008, .ref 32 1 0), (1009, .ref 36 1 0)], [bE e, bC col, (24, .box 1 [sI 0, sI 0]), (32, .box 1 [sI (-9999), sI 9999]), (36, .box 1 [sB false])]⟩ ?_
   refine AW.seq (AW.seq (AW.r1 hC1 [0, 1, 9, 1006, 1008, 1009] [12, 20, 24, 32, 36] ⟨[(0, .ref 12 1 0), (1, cl), (9, sB ((Xpr.Kind e) != 8)), (1006, .ref 24 1 0), (1008, .ref 32 1 0), (1009, .ref 36 1 0)], [bE e, bC col, (24, .box 1 [sI 0, sI 0]), (32, .box 1 [sI (-9999), sI 9999]), (36, .box 1 [sB false])]⟩ ?_))
   refine AW.cd ((Xpr.Kind e) != 8) ?_ ?_
   ·
    intro h26305
    have h26305q := (Go.Am.bne_pos h26305)
    have e26306 := e26304.trans (Go.Am.bif_t h26305)
    refine AW.seq (AW.regionO [0, 1, 2] (by rfl) ?_)
    refine AWO.run hC1 false [] [0, 1] [2] [10, 11, 1006, 1008, 1009] [12, 20, 24, 32, 36]
     ⟨[(10, cl), (11, .ref 12 1 0), (1006, .ref 24 1 0), (1008, .ref 32 1 0), (1009, .ref 36 1 0)], [bE e, bC col, (24, .box 1 [sI 0, sI 0]), (32, .box 1 [sI (-9999), sI 9999]), (36, .box 1 [sB false])]⟩
     [] (by rfl) (by kernel_rfl) ?_ ?_
    ·
     exact trivial
    refine AWO.callJ hC1.ty [1006, 1008, 1009] [24, 32, 36] (α := Int × Int × Bool) (fun x => ⟨[(1006, .ref 24 1 0), (1008, .ref 32 1 0), (1009, .ref 36 1 0)], [(24, .box 1 [sI 0, sI 0]), (32, .box 1 [sI x.1, sI x.2.1]), (36, .box 1 [sB x.2.2])]⟩) (fun x => (True) ∧ (iRangeOf_c0 e col) = x) (vs := [.ref 12 1 0]) (caps := [.ref 20 1 0, .ref 32 1 0, .ref 36 1 0]) (by rfl) rfl (.inl rfl) (by decide) (by kernel_rfl) (by kernel_rfl) Try.func25 (by kernel_rfl) rfl (by kernel_rfl) ?_ ?_
    ·
     intro o2
     have e26307 : (iRangeOf_c0 e col) = (iRangeOf_c0 e col) := rfl
     refine AW.kp [0, 1, 2, 3, 2006, 2008, 2009] [12, 20, 24, 32, 36] ⟨[(0, .ref 12 1 0), (1, .ref 20 1 0), (2, .ref 32 1 0), (3, .ref 36 1 0), (2006, .ref 24 1 0), (2008, .ref 32 1 0), (2009, .ref 36 1 0)], [bE e, bC col, (24, .box 1 [sI 0, sI 0]), (32, .box 1 [sI (-9999), sI 9999]), (36, .box 1 [sB false])]⟩ ?_
     refine AW.seq (AW.r0 hC2 [2, 3, 5, 6, 2006, 2008, 2009] [24, 32, 36, 8020] ⟨[(2, .ref 32 1 0), (3, .ref 36 1 0), (5, .ref 8020 1 0), (6, sB ((restriction (Xpr.mk (Xpr.Kind e) (Xpr.Col e) (Xpr.V e) (Xpr.Kids e)) col).2)), (2006, .ref 24 1 0), (2008, .ref 32 1 0), (2009, .ref 36 1 0)], [(24, .box 1 [sI 0, sI 0]), (32, .box 1 [sI (-9999), sI 9999]), (36, .box 1 [sB false]), (8020, .box 1 [sI (Rng.Low ((restriction (Xpr.mk (Xpr.Kind e) (Xpr.Col e) (Xpr.V e) (Xpr.Kids e)) col).1)), sI (Rng.High ((restriction (Xpr.mk (Xpr.Kind e) (Xpr.Col e) (Xpr.V e) (Xpr.Kids e)) col).1))])]⟩ [(∃ w, VL w (Xpr.mk (Xpr.Kind e) (Xpr.Col e) (Xpr.V e) (Xpr.Kids e)))] ?_ ?_)
     ·
      refine ⟨?_, trivial⟩
      ·
       rw [Xpr.eta]; exact ⟨width, ⟨_, by omega, hN⟩⟩
     refine AW.seq (AW.r1 hC2 [2, 3, 5, 13, 2006, 2008, 2009] [24, 32, 36, 8020] ⟨[(2, .ref 32 1 0), (3, .ref 36 1 0), (5, .ref 8020 1 0), (13, sB ((restriction (Xpr.mk (Xpr.Kind e) (Xpr.Col e) (Xpr.V e) (Xpr.Kids e)) col).2)), (2006, .ref 24 1 0), (2008, .ref 32 1 0), (2009, .ref 36 1 0)], [(24, .box 1 [sI 0, sI 0]), (32, .box 1 [sI (-9999), sI 9999]), (36, .box 1 [sB false]), (8020, .box 1 [sI (Rng.Low ((restriction (Xpr.mk (Xpr.Kind e) (Xpr.Col e) (Xpr.V e) (Xpr.Kids e)) col).1)), sI (Rng.High ((restriction (Xpr.mk (Xpr.Kind e) (Xpr.Col e) (Xpr.V e) (Xpr.Kids e)) col).1))])]⟩ ?_)
     refine AW.cd ((restriction (Xpr.mk (Xpr.Kind e) (Xpr.Col e) (Xpr.V e) (Xpr.Kids e)) col).2) ?_ ?_
     ·
      intro h26308
      have h26308q : ((restriction (Xpr.mk (Xpr.Kind e) (Xpr.Col e) (Xpr.V e) (Xpr.Kids e)) col).2) = true := h26308
      have e26309 := e26307.trans (Go.Am.bif_t h26308)
      refine AW.seq (AW.r0 hC2 [3, 2006, 2008, 2009] [24, 32, 36] ⟨[(3, .ref 36 1 0), (2006, .ref 24 1 0), (2008, .ref 32 1 0), (2009, .ref 36 1 0)], [(24, .box 1 [sI 0, sI 0]), (32, .box 1 [sI (Rng.Low (intersected (Rng.mk (-9999) 9999) ((restriction (Xpr.mk (Xpr.Kind e) (Xpr.Col e) (Xpr.V e) (Xpr.Kids e)) col).1))), sI (Rng.High (intersected (Rng.mk (-9999) 9999) ((restriction (Xpr.mk (Xpr.Kind e) (Xpr.Col e) (Xpr.V e) (Xpr.Kids e)) col).1)))]), (36, .box 1 [sB false])]⟩ [(True)] ?_ ?_)
      ·
       refine ⟨?_, trivial⟩
       ·
        trivial
      refine AW.r1 hC2 [2006, 2008, 2009] [24, 32, 36] ⟨[(2006, .ref 24 1 0), (2008, .ref 32 1 0), (2009, .ref 36 1 0)], [(24, .box 1 [sI 0, sI 0]), (32, .box 1 [sI (Rng.Low (intersected (Rng.mk (-9999) 9999) ((restriction (Xpr.mk (Xpr.Kind e) (Xpr.Col e) (Xpr.V e) (Xpr.Kids e)) col).1))), sI (Rng.High (intersected (Rng.mk (-9999) 9999) ((restriction (Xpr.mk (Xpr.Kind e) (Xpr.Col e) (Xpr.V e) (Xpr.Kids e)) col).1)))]), (36, .box 1 [sB true])]⟩ ?_
      refine ⟨((Rng.Low (intersected (Rng.mk (-9999) 9999) ((restriction (Xpr.mk (Xpr.Kind e) (Xpr.Col e) (Xpr.V e) (Xpr.Kids e)) col).1))), (Rng.High (intersected (Rng.mk (-9999) 9999) ((restriction (Xpr.mk (Xpr.Kind e) (Xpr.Col e) (Xpr.V e) (Xpr.Kids e)) col).1))), true), [], by kernel_rfl, by kernel_rfl, ?_, e26309⟩
      show True
      exact trivial
     ·
      intro h26310
      have h26310q : ((restriction (Xpr.mk (Xpr.Kind e) (Xpr.Col e) (Xpr.V e) (Xpr.Kids e)) col).2) = false := h26310
      have e26311 := e26307.trans (Go.Am.bif_f h26310)
      refine AW.kp [2006, 2008, 2009] [24, 32, 36] ⟨[(2006, .ref 24 1 0), (2008, .ref 32 1 0), (2009, .ref 36 1 0)], [(24, .box 1 [sI 0, sI 0]), (32, .box 1 [sI (-9999), sI 9999]), (36, .box 1 [sB false])]⟩ ?_
      refine AW.skip ?_
      refine ⟨((-9999), 9999, false), [], by kernel_rfl, by kernel_rfl, ?_, e26311⟩
      show True
      exact trivial
    ·
     intro x hR
     obtain ⟨whole0, whole1, found⟩ := x
     obtain ⟨hK0, e26312⟩ := hR
     replace hK0 : True := hK0
     have e26313 := e26306.trans (Go.Am.then_eq e26312)
     refine AWO.run hC1 false [] [] [] [1006, 1008, 1009] [24, 32, 36]
      ⟨[(1006, .ref 24 1 0), (1008, .ref 32 1 0), (1009, .ref 36 1 0)], [(24, .box 1 [sI 0, sI 0]), (32, .box 1 [sI whole0, sI whole1]), (36, .box 1 [sB found])]⟩
      [] (by rfl) (by kernel_rfl) ?_ ?_
     ·
      exact trivial
     refine AWO.nil ?_
     refine AW.ret ?_
     refine ⟨(whole0, whole1, found), [], by kernel_rfl, by kernel_rfl, ?_, e26313⟩
     show True
     exact trivial
   ·
    intro h26314
    have h26314q := (Go.Am.bne_neg h26314)
    have e26315 := e26304.trans (Go.Am.bif_f h26314)
    refine AW.kp [0, 1, 1006, 1008, 1009] [12, 20, 24, 32, 36] ⟨[(0, .ref 12 1 0), (1, cl), (1006, .ref 24 1 0), (1008, .ref 32 1 0), (1009, .ref 36 1 0)], [bE e, bC col, (24, .box 1 [sI 0, sI 0]), (32, .box 1 [sI (-9999), sI 9999]), (36, .box 1 [sB false])]⟩ ?_
    refine AW.skip (AW.seq (AW.r1 hC1 [0, 1, 17, 18, 1006, 1008, 1009] [12, 20, 24, 32, 36] ⟨[(0, .ref 12 1 0), (1, cl), (17, sL e), (18, sI 0), (1006, .ref 24 1 0), (1008, .ref 32 1 0), (1009, .ref 36 1 0)], [bE e, bC col, (24, .box 1 [sI 0, sI 0]), (32, .box 1 [sI (-9999), sI 9999]), (36, .box 1 [sB false])]⟩ ?_))
    refine AW.cutQ (α := Int × Int × Bool) (fun x => ⟨[(1006, .ref 24 1 0), (1008, .ref 32 1 0), (1009, .ref 36 1 0)], [(24, .box 1 [sI 0, sI 0]), (32, .box 1 [sI x.1, sI x.2.1]), (36, .box 1 [sB x.2.2])]⟩) (fun x => (True) ∧ (iRangeOf_l0 e col ((List.length (Xpr.Kids e)) - 0 + 1) 0 (-9999) 9999 false) = x) ?_ ?_
    ·
     skip
     refine AW.block (AW.loop (α := Nat × Int × Int × Bool) (fun x => ⟨[(0, .ref 12 1 0), (1, cl), (17, sL e), (18, sI ((x.1 : Nat) : Int)), (1006, .ref 24 1 0), (1008, .ref 32 1 0), (1009, .ref 36 1 0)], [bE e, bC col, (24, .box 1 [sI 0, sI 0]), (32, .box 1 [sI x.2.1, sI x.2.2.1]), (36, .box 1 [sB x.2.2.2])]⟩) (fun x => (True) ∧ ∃ k, (List.length (Xpr.Kids e)) - x.1 < k ∧ (iRangeOf_l0 e col ((List.length (Xpr.Kids e)) - 0 + 1) 0 (-9999) 9999 false) = iRangeOf_l0 e col k x.1 x.2.1 x.2.2.1 x.2.2.2) (fun x => (List.length (Xpr.Kids e)) - x.1) (0, (-9999), 9999, false) (by kernel_rfl) ⟨?_, _, Nat.lt_succ_self _, rfl⟩ ?_)
     ·
      show True
      exact trivial
     ·
      intro x hR
      obtain ⟨a0, whole0, whole1, found⟩ := x
      obtain ⟨hI0, k26318, hk26316, e26317⟩ := hR
      replace hI0 : True := hI0
      replace hk26316 : (List.length (Xpr.Kids e)) - a0 < k26318 := hk26316
      obtain ⟨k26318q, rfl⟩ : ∃ k, k26318 = k + 1 := ⟨k26318 - 1, by omega⟩
      have hK := hN.kids2
      refine AW.seq (AW.r1 hC1 [0, 1, 17, 18, 19, 1006, 1008, 1009] [12, 20, 24, 32, 36] ⟨[(0, .ref 12 1 0), (1, cl), (17, sL e), (18, sN a0), (19, sB (decide (((a0 : Nat) : Int) < ((List.length (Xpr.Kids e) : Nat) : Int)))), (1006, .ref 24 1 0), (1008, .ref 32 1 0), (1009, .ref 36 1 0)], [bE e, bC col, (24, .box 1 [sI 0, sI 0]), (32, .box 1 [sI whole0, sI whole1]), (36, .box 1 [sB found])]⟩ ?_)
      refine AW.seq (AW.cd (decide (((a0 : Nat) : Int) < ((List.length (Xpr.Kids e) : Nat) : Int))) ?_ ?_)
      ·
       intro h26319
       have h26319q := (of_decide_eq_true h26319)
       have e26320 := e26317.trans (Go.Am.bif_t h26319)
       refine AW.kp [0, 1, 17, 18, 1006, 1008, 1009] [12, 20, 24, 32, 36] ⟨[(0, .ref 12 1 0), (1, cl), (17, sL e), (18, sN a0), (1006, .ref 24 1 0), (1008, .ref 32 1 0), (1009, .ref 36 1 0)], [bE e, bC col, (24, .box 1 [sI 0, sI 0]), (32, .box 1 [sI whole0, sI whole1]), (36, .box 1 [sB found])]⟩ ?_
       refine AW.skip (AW.seq (AW.block (AW.seq (AW.r1 hC1 [0, 1, 4, 17, 18, 1006, 1008, 1009] [12, 20, 24, 32, 36] ⟨[(0, .ref 12 1 0), (1, cl), (4, sN a0), (17, sL e), (18, sN a0), (1006, .ref 24 1 0), (1008, .ref 32 1 0), (1009, .ref 36 1 0)], [bE e, bC col, (24, .box 1 [sI 0, sI 0]), (32, .box 1 [sI whole0, sI whole1]), (36, .box 1 [sB found])]⟩ ?_))))
       have hN : VE width 7 (kd e a0) := hN.kd (Int.ofNat_lt.1 h26319q)
       refine AW.regionO [0, 1, 2, 3, 4, 5, 6, 7] (by rfl) ?_
       refine AWO.run hC1 false [] [0, 1, 2, 3, 4, 5, 6] [7] [0, 1, 17, 18, 26, 27, 1006, 1008, 1009] [12, 20, 24, 32, 36]
        ⟨[(0, .ref 12 1 0), (1, cl), (17, sL e), (18, sN a0), (26, sR4 (kd e a0)), (27, cl), (1006, .ref 24 1 0), (1008, .ref 32 1 0), (1009, .ref 36 1 0)], [bE e, bC col, (24, .box 1 [sI 0, sI 0]), (32, .box 1 [sI whole0, sI whole1]), (36, .box 1 [sB found])]⟩
        [IX ((a0 : Nat) : Int) ((List.length (Xpr.Kids e) : Nat) : Int)] (by rfl) (by kernel_rfl) ?_ ?_
       ·
        refine ⟨?_, trivial⟩
        ·
         refine IX.of ?_
         omega
       refine AWO.callJ hC1.ty [0, 1, 17, 18, 1006, 1008, 1009] [12, 20, 24, 32, 36] (α := Int × Int × Bool) (fun x => ⟨[(0, .ref 12 1 0), (1, cl), (17, sL e), (18, sN a0), (1006, .ref 24 1 0), (1008, .ref 32 1 0), (1009, .ref 36 1 0)], [bE e, bC col, (24, .box 1 [sI 0, sI 0]), (32, .box 1 [sI x.1, sI x.2.1]), (36, .box 1 [sB x.2.2])]⟩) (fun x => (True) ∧ (iRangeOf_c15 e col a0 whole0 whole1 found) = x) (vs := [sR4 (kd e a0), cl]) (caps := []) (by rfl) rfl (.inl rfl) (by decide) (by kernel_rfl) (by kernel_rfl) Try.func24 (by kernel_rfl) rfl (by kernel_rfl) ?_ ?_
       ·
        intro o2
        have e26321 : (iRangeOf_c15 e col a0 whole0 whole1 found) = (iRangeOf_c15 e col a0 whole0 whole1 found) := rfl
        refine AW.kp [0, 1, 1000, 1001, 1017, 1018, 2006, 2008, 2009] [12, 20, 24, 32, 36] ⟨[(0, sR4 (kd e a0)), (1, cl), (1000, .ref 12 1 0), (1001, cl), (1017, sL e), (1018, sN a0), (2006, .ref 24 1 0), (2008, .ref 32 1 0), (2009, .ref 36 1 0)], [bE e, bC col, (24, .box 1 [sI 0, sI 0]), (32, .box 1 [sI whole0, sI whole1]), (36, .box 1 [sB found])]⟩ ?_
        refine AW.seq (AW.seq (AW.r1 hC2 [0, 1, 9, 1000, 1001, 1017, 1018, 2006, 2008, 2009] [12, 20, 24, 32, 36] ⟨[(0, sR4 (kd e a0)), (1, cl), (9, sB ((Xpr.Kind (kd e a0)) != 8)), (1000, .ref 12 1 0), (1001, cl), (1017, sL e), (1018, sN a0), (2006, .ref 24 1 0), (2008, .ref 32 1 0), (2009, .ref 36 1 0)], [bE e, bC col, (24, .box 1 [sI 0, sI 0]), (32, .box 1 [sI whole0, sI whole1]), (36, .box 1 [sB found])]⟩ ?_))
        refine AW.cd ((Xpr.Kind (kd e a0)) != 8) ?_ ?_
        ·
         intro h26322
         have h26322q := (Go.Am.bne_pos h26322)
         have e26323 := e26321.trans (Go.Am.bif_t h26322)
         refine AW.seq (AW.regionO [0, 1, 2] (by rfl) ?_)
         refine AWO.run hC2 false [] [0, 1] [2] [10, 11, 1000, 1001, 1017, 1018, 2006, 2008, 2009] [12, 20, 24, 32, 36]
          ⟨[(10, cl), (11, sR4 (kd e a0)), (1000, .ref 12 1 0), (1001, cl), (1017, sL e), (1018, sN a0), (2006, .ref 24 1 0), (2008, .ref 32 1 0), (2009, .ref 36 1 0)], [bE e, bC col, (24, .box 1 [sI 0, sI 0]), (32, .box 1 [sI whole0, sI whole1]), (36, .box 1 [sB found])]⟩
          [] (by rfl) (by kernel_rfl) ?_ ?_
         ·
          exact trivial
         refine AWO.callJ hC2.ty [1000, 1001, 1017, 1018, 2006, 2008, 2009] [12, 20, 24, 32, 36] (α := Int × Int × Bool) (fun x => ⟨[(1000, .ref 12 1 0), (1001, cl), (1017, sL e), (1018, sN a0), (2006, .ref 24 1 0), (2008, .ref 32 1 0), (2009, .ref 36 1 0)], [bE e, bC col, (24, .box 1 [sI 0, sI 0]), (32, .box 1 [sI x.1, sI x.2.1]), (36, .box 1 [sB x.2.2])]⟩) (fun x => (True) ∧ (iRangeOf_c1 e col a0 whole0 whole1 found) = x) (vs := [sR4 (kd e a0)]) (caps := [.ref 20 1 0, .ref 32 1 0, .ref 36 1 0]) (by rfl) rfl (.inl rfl) (by decide) (by kernel_rfl) (by kernel_rfl) Try.func25 (by kernel_rfl) rfl (by kernel_rfl) ?_ ?_
         ·
          intro o3
          have e26324 : (iRangeOf_c1 e col a0 whole0 whole1 found) = (iRangeOf_c1 e col a0 whole0 whole1 found) := rfl
          refine AW.kp [0, 1, 2, 3, 2000, 2001, 2017, 2018, 3006, 3008, 3009] [12, 20, 24, 32, 36] ⟨[(0, sR4 (kd e a0)), (1, .ref 20 1 0), (2, .ref 32 1 0), (3, .ref 36 1 0), (2000, .ref 12 1 0), (2001, cl), (2017, sL e), (2018, sN a0), (3006, .ref 24 1 0), (3008, .ref 32 1 0), (3009, .ref 36 1 0)], [bE e, bC col, (24, .box 1 [sI 0, sI 0]), (32, .box 1 [sI whole0, sI whole1]), (36, .box 1 [sB found])]⟩ ?_
          refine AW.seq (AW.r0 hC3 [2, 3, 5, 6, 2000, 2001, 2017, 2018, 3006, 3008, 3009] [12, 20, 24, 32, 36, 12020] ⟨[(2, .ref 32 1 0), (3, .ref 36 1 0), (5, .ref 12020 1 0), (6, sB ((restriction (kd e a0) col).2)), (2000, .ref 12 1 0), (2001, cl), (2017, sL e), (2018, sN a0), (3006, .ref 24 1 0), (3008, .ref 32 1 0), (3009, .ref 36 1 0)], [bE e, bC col, (24, .box 1 [sI 0, sI 0]), (32, .box 1 [sI whole0, sI whole1]), (36, .box 1 [sB found]), (12020, .box 1 [sI (Rng.Low ((restriction (kd e a0) col).1)), sI (Rng.High ((restriction (kd e a0) col).1))])]⟩ [(∃ w, VL w (kd e a0))] ?_ ?_)
          ·
           refine ⟨?_, trivial⟩
           ·
            exact ⟨width, ⟨_, by omega, hN⟩⟩
          refine AW.seq (AW.r1 hC3 [2, 3, 5, 13, 2000, 2001, 2017, 2018, 3006, 3008, 3009] [12, 20, 24, 32, 36, 12020] ⟨[(2, .ref 32 1 0), (3, .ref 36 1 0), (5, .ref 12020 1 0), (13, sB ((restriction (kd e a0) col).2)), (2000, .ref 12 1 0), (2001, cl), (2017, sL e), (2018, sN a0), (3006, .ref 24 1 0), (3008, .ref 32 1 0), (3009, .ref 36 1 0)], [bE e, bC col, (24, .box 1 [sI 0, sI 0]), (32, .box 1 [sI whole0, sI whole1]), (36, .box 1 [sB found]), (12020, .box 1 [sI (Rng.Low ((restriction (kd e a0) col).1)), sI (Rng.High ((restriction (kd e a0) col).1))])]⟩ ?_)
          refine AW.cd ((restriction (kd e a0) col).2) ?_ ?_
          ·
           intro h26325
           have h26325q : ((restriction (kd e a0) col).2) = true := h26325
           have e26326 := e26324.trans (Go.Am.bif_t h26325)
           refine AW.seq (AW.r0 hC3 [3, 2000, 2001, 2017, 2018, 3006, 3008, 3009] [12, 20, 24, 32, 36] ⟨[(3, .ref 36 1 0), (2000, .ref 12 1 0), (2001, cl), (2017, sL e), (2018, sN a0), (3006, .ref 24 1 0), (3008, .ref 32 1 0), (3009, .ref 36 1 0)], [bE e, bC col, (24, .box 1 [sI 0, sI 0]), (32, .box 1 [sI (Rng.Low (intersected (Rng.mk whole0 whole1) ((restriction (kd e a0) col).1))), sI (Rng.High (intersected (Rng.mk whole0 whole1) ((restriction (kd e a0) col).1)))]), (36, .box 1 [sB found])]⟩ [(True)] ?_ ?_)
           ·
            refine ⟨?_, trivial⟩
            ·
             trivial
           refine AW.r1 hC3 [2000, 2001, 2017, 2018, 3006, 3008, 3009] [12, 20, 24, 32, 36] ⟨[(2000, .ref 12 1 0), (2001, cl), (2017, sL e), (2018, sN a0), (3006, .ref 24 1 0), (3008, .ref 32 1 0), (3009, .ref 36 1 0)], [bE e, bC col, (24, .box 1 [sI 0, sI 0]), (32, .box 1 [sI (Rng.Low (intersected (Rng.mk whole0 whole1) ((restriction (kd e a0) col).1))), sI (Rng.High (intersected (Rng.mk whole0 whole1) ((restriction (kd e a0) col).1)))]), (36, .box 1 [sB true])]⟩ ?_
           refine ⟨((Rng.Low (intersected (Rng.mk whole0 whole1) ((restriction (kd e a0) col).1))), (Rng.High (intersected (Rng.mk whole0 whole1) ((restriction (kd e a0) col).1))), true), [], by kernel_rfl, by kernel_rfl, ?_, e26326⟩
           show True
           exact trivial
          ·
           intro h26327
           have h26327q : ((restriction (kd e a0) col).2) = false := h26327
           have e26328 := e26324.trans (Go.Am.bif_f h26327)
           refine AW.kp [2000, 2001, 2017, 2018, 3006, 3008, 3009] [12, 20, 24, 32, 36] ⟨[(2000, .ref 12 1 0), (2001, cl), (2017, sL e), (2018, sN a0), (3006, .ref 24 1 0), (3008, .ref 32 1 0), (3009, .ref 36 1 0)], [bE e, bC col, (24, .box 1 [sI 0, sI 0]), (32, .box 1 [sI whole0, sI whole1]), (36, .box 1 [sB found])]⟩ ?_
           refine AW.skip ?_
           refine ⟨(whole0, whole1, found), [], by kernel_rfl, by kernel_rfl, ?_, e26328⟩
           show True
           exact trivial
         ·
          intro x hR
          obtain ⟨whole01, whole11, found1⟩ := x
          obtain ⟨hK1, e26329⟩ := hR
          replace hK1 : True := hK1
          have e26330 := e26323.trans (Go.Am.then_eq e26329)
          refine AWO.run hC2 false [] [] [] [1000, 1001, 1017, 1018, 2006, 2008, 2009] [12, 20, 24, 32, 36]
           ⟨[(1000, .ref 12 1 0), (1001, cl), (1017, sL e), (1018, sN a0), (2006, .ref 24 1 0), (2008, .ref 32 1 0), (2009, .ref 36 1 0)], [bE e, bC col, (24, .box 1 [sI 0, sI 0]), (32, .box 1 [sI whole01, sI whole11]), (36, .box 1 [sB found1])]⟩
           [] (by rfl) (by kernel_rfl) ?_ ?_
          ·
           exact trivial
          refine AWO.nil ?_
          refine AW.ret ?_
          refine ⟨(whole01, whole11, found1), [], by kernel_rfl, by kernel_rfl, ?_, e26330⟩
          show True
          exact trivial
        ·
         intro h26331
         have h26331q := (Go.Am.bne_neg h26331)
         have e26332 := e26321.trans (Go.Am.bif_f h26331)
         refine AW.kp [0, 1, 1000, 1001, 1017, 1018, 2006, 2008, 2009] [12, 20, 24, 32, 36] ⟨[(0, sR4 (kd e a0)), (1, cl), (1000, .ref 12 1 0), (1001, cl), (1017, sL e), (1018, sN a0), (2006, .ref 24 1 0), (2008, .ref 32 1 0), (2009, .ref 36 1 0)], [bE e, bC col, (24, .box 1 [sI 0, sI 0]), (32, .box 1 [sI whole0, sI whole1]), (36, .box 1 [sB found])]⟩ ?_
         refine AW.skip (AW.seq ?_)
         refine AW.reg hC2  false [] (x2 0 [2006, 2008, 2009]) [12, 20, 24, 32, 36]
          ⟨[(0, sR4 (kd e a0)), (1, cl), (17, sL (kd e a0)), (18, sI 0), (1000, .ref 12 1 0), (1001, cl), (1017, sL e), (1018, sN a0), (2006, .ref 24 1 0), (2008, .ref 32 1 0), (2009, .ref 36 1 0)], [bE e, bC col, (24, .box 1 [sI 0, sI 0]), (32, .box 1 [sI whole0, sI whole1]), (36, .box 1 [sB found])]⟩
          [] (by kernel_rfl) ?_ ?_
         ·
          exact trivial
         refine AW.cutQ (α := Int × Int × Bool) (fun x => ⟨[(1000, .ref 12 1 0), (1001, cl), (1017, sL e), (1018, sN a0), (2006, .ref 24 1 0), (2008, .ref 32 1 0), (2009, .ref 36 1 0)], [bE e, bC col, (24, .box 1 [sI 0, sI 0]), (32, .box 1 [sI x.1, sI x.2.1]), (36, .box 1 [sB x.2.2])]⟩) (fun x => (True) ∧ (iRangeOf_l1 e col a0 ((List.length (Xpr.Kids (kd e a0))) - 0 + 1) 0 whole0 whole1 found) = x) ?_ ?_
         ·
          skip
          refine AW.block (AW.loop (α := Nat × Int × Int × Bool) (fun x => ⟨[(0, sR4 (kd e a0)), (1, cl), (17, sL (kd e a0)), (18, sI ((x.1 : Nat) : Int)), (1000, .ref 12 1 0), (1001, cl), (1017, sL e), (1018, sN a0), (2006, .ref 24 1 0), (2008, .ref 32 1 0), (2009, .ref 36 1 0)], [bE e, bC col, (24, .box 1 [sI 0, sI 0]), (32, .box 1 [sI x.2.1, sI x.2.2.1]), (36, .box 1 [sB x.2.2.2])]⟩) (fun x => (True) ∧ ∃ k, (List.length (Xpr.Kids (kd e a0))) - x.1 < k ∧ (iRangeOf_l1 e col a0 ((List.length (Xpr.Kids (kd e a0))) - 0 + 1) 0 whole0 whole1 found) = iRangeOf_l1 e col a0 k x.1 x.2.1 x.2.2.1 x.2.2.2) (fun x => (List.length (Xpr.Kids (kd e a0))) - x.1) (0, whole0, whole1, found) (by kernel_rfl) ⟨?_, _, Nat.lt_succ_self _, rfl⟩ ?_)
          ·
           show True
           exact trivial
          ·
           intro x hR
           obtain ⟨a1, whole01, whole11, found1⟩ := x
           obtain ⟨hI1, k26335, hk26333, e26334⟩ := hR
           replace hI1 : True := hI1
           replace hk26333 : (List.length (Xpr.Kids (kd e a0))) - a1 < k26335 := hk26333
           obtain ⟨k26335q, rfl⟩ : ∃ k, k26335 = k + 1 := ⟨k26335 - 1, by omega⟩
           have hK := hN.kids2
           refine AW.seq (AW.r1 hC2 [0, 1, 17, 18, 19, 1000, 1001, 1017, 1018, 2006, 2008, 2009] [12, 20, 24, 32, 36] ⟨[(0, sR4 (kd e a0)), (1, cl), (17, sL (kd e a0)), (18, sN a1), (19, sB (decide (((a1 : Nat) : Int) < ((List.length (Xpr.Kids (kd e a0)) : Nat) : Int)))), (1000, .ref 12 1 0), (1001, cl), (1017, sL e), (1018, sN a0), (2006, .ref 24 1 0), (2008, .ref 32 1 0), (2009, .ref 36 1 0)], [bE e, bC col, (24, .box 1 [sI 0, sI 0]), (32, .box 1 [sI whole01, sI whole11]), (36, .box 1 [sB found1])]⟩ ?_)
           refine AW.seq (AW.cd (decide (((a1 : Nat) : Int) < ((List.length (Xpr.Kids (kd e a0)) : Nat) : Int))) ?_ ?_)
           ·
            intro h26336
            have h26336q := (of_decide_eq_true h26336)
            have e26337 := e26334.trans (Go.Am.bif_t h26336)
            refine AW.keep (x2 0 [2006, 2008, 2009]) [12, 20, 24, 32, 36] ⟨(f1 0 e a0 a1 [(2006, .ref 24 1 0), (2008, .ref 32 1 0), (2009, .ref 36 1 0)]), [bE e, bC col, (24, .box 1 [sI 0, sI 0]), (32, .box 1 [sI whole01, sI whole11]), (36, .box 1 [sB found1])]⟩ (by kernel_rfl) ?_
            refine AW.skip (AW.seq (AW.block (AW.seq (AW.r1 hC2 [0, 1, 4, 17, 18, 1000, 1001, 1017, 1018, 2006, 2008, 2009] [12, 20, 24, 32, 36] ⟨[(0, sR4 (kd e a0)), (1, cl), (4, sN a1), (17, sL (kd e a0)), (18, sN a1), (1000, .ref 12 1 0), (1001, cl), (1017, sL e), (1018, sN a0), (2006, .ref 24 1 0), (2008, .ref 32 1 0), (2009, .ref 36 1 0)], [bE e, bC col, (24, .box 1 [sI 0, sI 0]), (32, .box 1 [sI whole01, sI whole11]), (36, .box 1 [sB found1])]⟩ ?_))))
            have hN : VE width 6 (k2 e a0 a1) := hN.kd (Int.ofNat_lt.1 h26336q)
            refine AW.regionO [0, 1, 2, 3, 4, 5, 6, 7] (by rfl) ?_
            refine AWO.run hC2 false [] [0, 1, 2, 3, 4, 5, 6] [7] [0, 1, 17, 18, 26, 27, 1000, 1001, 1017, 1018, 2006, 2008, 2009] [12, 20, 24, 32, 36]
             ⟨[(0, sR4 (kd e a0)), (1, cl), (17, sL (kd e a0)), (18, sN a1), (26, sR4 (k2 e a0 a1)), (27, cl), (1000, .ref 12 1 0), (1001, cl), (1017, sL e), (1018, sN a0), (2006, .ref 24 1 0), (2008, .ref 32 1 0), (2009, .ref 36 1 0)], [bE e, bC col, (24, .box 1 [sI 0, sI 0]), (32, .box 1 [sI whole01, sI whole11]), (36, .box 1 [sB found1])]⟩
             [IX ((a1 : Nat) : Int) ((List.length (Xpr.Kids (kd e a0)) : Nat) : Int)] (by rfl) (by kernel_rfl) ?_ ?_
            ·
             refine ⟨?_, trivial⟩
             ·
              refine IX.of ?_
              omega
            refine AWO.callJ hC2.ty (x2 0 [2006, 2008, 2009]) [12, 20, 24, 32, 36] (α := Int × Int × Bool) (fun x => ⟨(f1 0 e a0 a1 [(2006, .ref 24 1 0), (2008, .ref 32 1 0), (2009, .ref 36 1 0)]), [bE e, bC col, (24, .box 1 [sI 0, sI 0]), (32, .box 1 [sI x.1, sI x.2.1]), (36, .box 1 [sB x.2.2])]⟩) (fun x => (True) ∧ (iRangeOf_c14 e col a0 a1 whole01 whole11 found1) = x) (vs := [sR4 (k2 e a0 a1), cl]) (caps := []) (by rfl) rfl (.inl rfl) (by decide) (by kernel_rfl) (by kernel_rfl) Try.func24 (by kernel_rfl) rfl (by kernel_rfl) ?_ ?_
            ·
             intro o3
             have e26338 : (iRangeOf_c14 e col a0 a1 whole01 whole11 found1) = (iRangeOf_c14 e col a0 a1 whole01 whole11 found1) := rfl
             refine AW.keep (0 :: 1 :: x2 1000 [3006, 3008, 3009]) [12, 20, 24, 32, 36] ⟨((0, sR4 (k2 e a0 a1)) :: (1, cl) :: f1 1000 e a0 a1 [(3006, .ref 24 1 0), (3008, .ref 32 1 0), (3009, .ref 36 1 0)]), [bE e, bC col, (24, .box 1 [sI 0, sI 0]), (32, .box 1 [sI whole01, sI whole11]), (36, .box 1 [sB found1])]⟩ (by kernel_rfl) ?_
             refine AW.seq (AW.seq ?_)
             refine AW.reg hC3  false [] (0 :: 1 :: 9 :: x2 1000 [3006, 3008, 3009]) [12, 20, 24, 32, 36]
              ⟨((0, sR4 (k2 e a0 a1)) :: (1, cl) :: (9, sB ((Xpr.Kind (k2 e a0 a1)) != 8)) :: f1 1000 e a0 a1 [(3006, .ref 24 1 0), (3008, .ref 32 1 0), (3009, .ref 36 1 0)]), [bE e, bC col, (24, .box 1 [sI 0, sI 0]), (32, .box 1 [sI whole01, sI whole11]), (36, .box 1 [sB found1])]⟩
              [] (by kernel_rfl) ?_ ?_
             ·
              exact trivial
             refine AW.cd ((Xpr.Kind (k2 e a0 a1)) != 8) ?_ ?_
             ·
              intro h26339
              have h26339q := (Go.Am.bne_pos h26339)
              have e26340 := e26338.trans (Go.Am.bif_t h26339)
              refine AW.seq (AW.regionO [0, 1, 2] (by rfl) ?_)
              refine AWO.run hC3 false [] [0, 1] [2] (10 :: 11 :: x2 1000 [3006, 3008, 3009]) [12, 20, 24, 32, 36]
               ⟨((10, cl) :: (11, sR4 (k2 e a0 a1)) :: f1 1000 e a0 a1 [(3006, .ref 24 1 0), (3008, .ref 32 1 0), (3009, .ref 36 1 0)]), [bE e, bC col, (24, .box 1 [sI 0, sI 0]), (32, .box 1 [sI whole01, sI whole11]), (36, .box 1 [sB found1])]⟩
               [] (by rfl) (by kernel_rfl) ?_ ?_
              ·
               exact trivial
              refine AWO.callJ hC3.ty (x2 1000 [3006, 3008, 3009]) [12, 20, 24, 32, 36] (α := Int × Int × Bool) (fun x => ⟨(f1 1000 e a0 a1 [(3006, .ref 24 1 0), (3008, .ref 32 1 0), (3009, .ref 36 1 0)]), [bE e, bC col, (24, .box 1 [sI 0, sI 0]), (32, .box 1 [sI x.1, sI x.2.1]), (36, .box 1 [sB x.2.2])]⟩) (fun x => (True) ∧ (iRangeOf_c2 e col a0 a1 whole01 whole11 found1) = x) (vs := [sR4 (k2 e a0 a1)]) (caps := [.ref 20 1 0, .ref 32 1 0, .ref 36 1 0]) (by rfl) rfl (.inl rfl) (by decide) (by kernel_rfl) (by kernel_rfl) Try.func25 (by kernel_rfl) rfl (by kernel_rfl) ?_ ?_
              ·
               intro o4
               have e26341 : (iRangeOf_c2 e col a0 a1 whole01 whole11 found1) = (iRangeOf_c2 e col a0 a1 whole01 whole11 found1) := rfl
               refine AW.keep (0 :: 1 :: 2 :: 3 :: x2 2000 [4006, 4008, 4009]) [12, 20, 24, 32, 36] ⟨((0, sR4 (k2 e a0 a1)) :: (1, .ref 20 1 0) :: (2, .ref 32 1 0) :: (3, .ref 36 1 0) :: f1 2000 e a0 a1 [(4006, .ref 24 1 0), (4008, .ref 32 1 0), (4009, .ref 36 1 0)]), [bE e, bC col, (24, .box 1 [sI 0, sI 0]), (32, .box 1 [sI whole01, sI whole11]), (36, .box 1 [sB found1])]⟩ (by kernel_rfl) ?_
               refine AW.seq ?_
               refine AW.reg hC4  false [] (2 :: 3 :: 5 :: 6 :: x2 2000 [4006, 4008, 4009]) [12, 20, 24, 32, 36, 16020]
                ⟨((2, .ref 32 1 0) :: (3, .ref 36 1 0) :: (5, .ref 16020 1 0) :: (6, sB ((restriction (k2 e a0 a1) col).2)) :: f1 2000 e a0 a1 [(4006, .ref 24 1 0), (4008, .ref 32 1 0), (4009, .ref 36 1 0)]), [bE e, bC col, (24, .box 1 [sI 0, sI 0]), (32, .box 1 [sI whole01, sI whole11]), (36, .box 1 [sB found1]), (16020, .box 1 [sI (Rng.Low ((restriction (k2 e a0 a1) col).1)), sI (Rng.High ((restriction (k2 e a0 a1) col).1))])]⟩
                [(∃ w, VL w (k2 e a0 a1))] (by kernel_rfl) ?_ ?_
               ·
                refine ⟨?_, trivial⟩
                ·
                 exact ⟨width, ⟨_, by omega, hN⟩⟩
               refine AW.seq ?_
               refine AW.reg hC4  false [] (2 :: 3 :: 5 :: 13 :: x2 2000 [4006, 4008, 4009]) [12, 20, 24, 32, 36, 16020]
                ⟨((2, .ref 32 1 0) :: (3, .ref 36 1 0) :: (5, .ref 16020 1 0) :: (13, sB ((restriction (k2 e a0 a1) col).2)) :: f1 2000 e a0 a1 [(4006, .ref 24 1 0), (4008, .ref 32 1 0), (4009, .ref 36 1 0)]), [bE e, bC col, (24, .box 1 [sI 0, sI 0]), (32, .box 1 [sI whole01, sI whole11]), (36, .box 1 [sB found1]), (16020, .box 1 [sI (Rng.Low ((restriction (k2 e a0 a1) col).1)), sI (Rng.High ((restriction (k2 e a0 a1) col).1))])]⟩
                [] (by kernel_rfl) ?_ ?_
               ·
                exact trivial
               refine AW.cd ((restriction (k2 e a0 a1) col).2) ?_ ?_
               ·
                intro h26342
                have h26342q : ((restriction (k2 e a0 a1) col).2) = true := h26342
                have e26343 := e26341.trans (Go.Am.bif_t h26342)
                refine AW.seq ?_
                refine AW.reg hC4  false [] (3 :: x2 2000 [4006, 4008, 4009]) [12, 20, 24, 32, 36]
                 ⟨((3, .ref 36 1 0) :: f1 2000 e a0 a1 [(4006, .ref 24 1 0), (4008, .ref 32 1 0), (4009, .ref 36 1 0)]), [bE e, bC col, (24, .box 1 [sI 0, sI 0]), (32, .box 1 [sI (Rng.Low (intersected (Rng.mk whole01 whole11) ((restriction (k2 e a0 a1) col).1))), sI (Rng.High (intersected (Rng.mk whole01 whole11) ((restriction (k2 e a0 a1) col).1)))]), (36, .box 1 [sB found1])]⟩
                 [(True)] (by kernel_rfl) ?_ ?_
                ·
                 refine ⟨?_, trivial⟩
                 ·
                  trivial
                refine AW.reg hC4  false [] (x2 2000 [4006, 4008, 4009]) [12, 20, 24, 32, 36]
                 ⟨(f1 2000 e a0 a1 [(4006, .ref 24 1 0), (4008, .ref 32 1 0), (4009, .ref 36 1 0)]), [bE e, bC col, (24, .box 1 [sI 0, sI 0]), (32, .box 1 [sI (Rng.Low (intersected (Rng.mk whole01 whole11) ((restriction (k2 e a0 a1) col).1))), sI (Rng.High (intersected (Rng.mk whole01 whole11) ((restriction (k2 e a0 a1) col).1)))]), (36, .box 1 [sB true])]⟩
                 [] (by kernel_rfl) ?_ ?_
                ·
                 exact trivial
                refine ⟨((Rng.Low (intersected (Rng.mk whole01 whole11) ((restriction (k2 e a0 a1) col).1))), (Rng.High (intersected (Rng.mk whole01 whole11) ((restriction (k2 e a0 a1) col).1))), true), [], by kernel_rfl, by kernel_rfl, ?_, e26343⟩
                show True
                exact trivial
               ·
                intro h26344
                have h26344q : ((restriction (k2 e a0 a1) col).2) = false := h26344
                have e26345 := e26341.trans (Go.Am.bif_f h26344)
                refine AW.keep (x2 2000 [4006, 4008, 4009]) [12, 20, 24, 32, 36] ⟨(f1 2000 e a0 a1 [(4006, .ref 24 1 0), (4008, .ref 32 1 0), (4009, .ref 36 1 0)]), [bE e, bC col, (24, .box 1 [sI 0, sI 0]), (32, .box 1 [sI whole01, sI whole11]), (36, .box 1 [sB found1])]⟩ (by kernel_rfl) ?_
                refine AW.skip ?_
                refine ⟨(whole01, whole11, found1), [], by kernel_rfl, by kernel_rfl, ?_, e26345⟩
                show True
                exact trivial
              ·
               intro x hR
               obtain ⟨whole02, whole12, found2⟩ := x
               obtain ⟨hK2, e26346⟩ := hR
               replace hK2 : True := hK2
               have e26347 := e26340.trans (Go.Am.then_eq e26346)
               refine AWO.run hC3 false [] [] [] (x2 1000 [3006, 3008, 3009]) [12, 20, 24, 32, 36]
                ⟨(f1 1000 e a0 a1 [(3006, .ref 24 1 0), (3008, .ref 32 1 0), (3009, .ref 36 1 0)]), [bE e, bC col, (24, .box 1 [sI 0, sI 0]), (32, .box 1 [sI whole02, sI whole12]), (36, .box 1 [sB found2])]⟩
                [] (by rfl) (by kernel_rfl) ?_ ?_
               ·
                exact trivial
               refine AWO.nil ?_
               refine AW.ret ?_
               refine ⟨(whole02, whole12, found2), [], by kernel_rfl, by kernel_rfl, ?_, e26347⟩
               show True
               exact trivial
             ·
              intro h26348
              have h26348q := (Go.Am.bne_neg h26348)
              have e26349 := e26338.trans (Go.Am.bif_f h26348)
              refine AW.keep (0 :: 1 :: x2 1000 [3006, 3008, 3009]) [12, 20, 24, 32, 36] ⟨((0, sR4 (k2 e a0 a1)) :: (1, cl) :: f1 1000 e a0 a1 [(3006, .ref 24 1 0), (3008, .ref 32 1 0), (3009, .ref 36 1 0)]), [bE e, bC col, (24, .box 1 [sI 0, sI 0]), (32, .box 1 [sI whole01, sI whole11]), (36, .box 1 [sB found1])]⟩ (by kernel_rfl) ?_
              refine AW.skip (AW.seq ?_)
              refine AW.reg hC3  false [] (x3 0 [3006, 3008, 3009]) [12, 20, 24, 32, 36]
               ⟨((0, sR4 (k2 e a0 a1)) :: (1, cl) :: (17, sL (k2 e a0 a1)) :: (18, sI 0) :: f1 1000 e a0 a1 [(3006, .ref 24 1 0), (3008, .ref 32 1 0), (3009, .ref 36 1 0)]), [bE e, bC col, (24, .box 1 [sI 0, sI 0]), (32, .box 1 [sI whole01, sI whole11]), (36, .box 1 [sB found1])]⟩
               [] (by kernel_rfl) ?_ ?_
              ·
               exact trivial
              refine AW.cutQ (α := Int × Int × Bool) (fun x => ⟨(f1 1000 e a0 a1 [(3006, .ref 24 1 0), (3008, .ref 32 1 0), (3009, .ref 36 1 0)]), [bE e, bC col, (24, .box 1 [sI 0, sI 0]), (32, .box 1 [sI x.1, sI x.2.1]), (36, .box 1 [sB x.2.2])]⟩) (fun x => (True) ∧ (iRangeOf_l2 e col a0 a1 ((List.length (Xpr.Kids (k2 e a0 a1))) - 0 + 1) 0 whole01 whole11 found1) = x) ?_ ?_
              ·
               skip
               refine AW.block (AW.loop (α := Nat × Int × Int × Bool) (fun x => ⟨((0, sR4 (k2 e a0 a1)) :: (1, cl) :: (17, sL (k2 e a0 a1)) :: (18, sI ((x.1 : Nat) : Int)) :: f1 1000 e a0 a1 [(3006, .ref 24 1 0), (3008, .ref 32 1 0), (3009, .ref 36 1 0)]), [bE e, bC col, (24, .box 1 [sI 0, sI 0]), (32, .box 1 [sI x.2.1, sI x.2.2.1]), (36, .box 1 [sB x.2.2.2])]⟩) (fun x => (True) ∧ ∃ k, (List.length (Xpr.Kids (k2 e a0 a1))) - x.1 < k ∧ (iRangeOf_l2 e col a0 a1 ((List.length (Xpr.Kids (k2 e a0 a1))) - 0 + 1) 0 whole01 whole11 found1) = iRangeOf_l2 e col a0 a1 k x.1 x.2.1 x.2.2.1 x.2.2.2) (fun x => (List.length (Xpr.Kids (k2 e a0 a1))) - x.1) (0, whole01, whole11, found1) (by kernel_rfl) ⟨?_, _, Nat.lt_succ_self _, rfl⟩ ?_)
               ·
                show True
                exact trivial
               ·
                intro x hR
                obtain ⟨a2, whole02, whole12, found2⟩ := x
                obtain ⟨hI2, k26352, hk26350, e26351⟩ := hR
                replace hI2 : True := hI2
                replace hk26350 : (List.length (Xpr.Kids (k2 e a0 a1))) - a2 < k26352 := hk26350
                obtain ⟨k26352q, rfl⟩ : ∃ k, k26352 = k + 1 := ⟨k26352 - 1, by omega⟩
                have hK := hN.kids2
                refine AW.seq ?_
                refine AW.reg hC3  false [] (0 :: 1 :: 17 :: 18 :: 19 :: x2 1000 [3006, 3008, 3009]) [12, 20, 24, 32, 36]
                 ⟨((0, sR4 (k2 e a0 a1)) :: (1, cl) :: (17, sL (k2 e a0 a1)) :: (18, sN a2) :: (19, sB (decide (((a2 : Nat) : Int) < ((List.length (Xpr.Kids (k2 e a0 a1)) : Nat) : Int)))) :: f1 1000 e a0 a1 [(3006, .ref 24 1 0), (3008, .ref 32 1 0), (3009, .ref 36 1 0)]), [bE e, bC col, (24, .box 1 [sI 0, sI 0]), (32, .box 1 [sI whole02, sI whole12]), (36, .box 1 [sB found2])]⟩
                 [] (by kernel_rfl) ?_ ?_
                ·
                 exact trivial
                refine AW.seq (AW.cd (decide (((a2 : Nat) : Int) < ((List.length (Xpr.Kids (k2 e a0 a1)) : Nat) : Int))) ?_ ?_)
                ·
                 intro h26353
                 have h26353q := (of_decide_eq_true h26353)
                 have e26354 := e26351.trans (Go.Am.bif_t h26353)
                 refine AW.keep (x3 0 [3006, 3008, 3009]) [12, 20, 24, 32, 36] ⟨(f2 0 e a0 a1 a2 [(3006, .ref 24 1 0), (3008, .ref 32 1 0), (3009, .ref 36 1 0)]), [bE e, bC col, (24, .box 1 [sI 0, sI 0]), (32, .box 1 [sI whole02, sI whole12]), (36, .box 1 [sB found2])]⟩ (by kernel_rfl) ?_
                 refine AW.skip (AW.seq (AW.block (AW.seq ?_)))
                 refine AW.reg hC3  false [] (0 :: 1 :: 4 :: 17 :: 18 :: x2 1000 [3006, 3008, 3009]) [12, 20, 24, 32, 36]
                  ⟨((0, sR4 (k2 e a0 a1)) :: (1, cl) :: (4, sN a2) :: (17, sL (k2 e a0 a1)) :: (18, sN a2) :: f1 1000 e a0 a1 [(3006, .ref 24 1 0), (3008, .ref 32 1 0), (3009, .ref 36 1 0)]), [bE e, bC col, (24, .box 1 [sI 0, sI 0]), (32, .box 1 [sI whole02, sI whole12]), (36, .box 1 [sB found2])]⟩
                  [] (by kernel_rfl) ?_ ?_
                 ·
                  exact trivial
                 have hN : VE width 5 (k3 e a0 a1 a2) := hN.kd (Int.ofNat_lt.1 h26353q)
                 refine AW.regionO [0, 1, 2, 3, 4, 5, 6, 7] (by rfl) ?_
                 refine AWO.run hC3 false [] [0, 1, 2, 3, 4, 5, 6] [7] (0 :: 1 :: 17 :: 18 :: 26 :: 27 :: x2 1000 [3006, 3008, 3009]) [12, 20, 24, 32, 36]
                  ⟨((0, sR4 (k2 e a0 a1)) :: (1, cl) :: (17, sL (k2 e a0 a1)) :: (18, sN a2) :: (26, sR4 (k3 e a0 a1 a2)) :: (27, cl) :: f1 1000 e a0 a1 [(3006, .ref 24 1 0), (3008, .ref 32 1 0), (3009, .ref 36 1 0)]), [bE e, bC col, (24, .box 1 [sI 0, sI 0]), (32, .box 1 [sI whole02, sI whole12]), (36, .box 1 [sB found2])]⟩
                  [IX ((a2 : Nat) : Int) ((List.length (Xpr.Kids (k2 e a0 a1)) : Nat) : Int)] (by rfl) (by kernel_rfl) ?_ ?_
                 ·
                  refine ⟨?_, trivial⟩
                  ·
                   refine IX.of ?_
                   omega
                 refine AWO.callJ hC3.ty (x3 0 [3006, 3008, 3009]) [12, 20, 24, 32, 36] (α := Int × Int × Bool) (fun x => ⟨(f2 0 e a0 a1 a2 [(3006, .ref 24 1 0), (3008, .ref 32 1 0), (3009, .ref 36 1 0)]), [bE e, bC col, (24, .box 1 [sI 0, sI 0]), (32, .box 1 [sI x.1, sI x.2.1]), (36, .box 1 [sB x.2.2])]⟩) (fun x => (True) ∧ (iRangeOf_c13 e col a0 a1 a2 whole02 whole12 found2) = x) (vs := [sR4 (k3 e a0 a1 a2), cl]) (caps := []) (by rfl) rfl (.inl rfl) (by decide) (by kernel_rfl) (by kernel_rfl) Try.func24 (by kernel_rfl) rfl (by kernel_rfl) ?_ ?_
                 ·
                  intro o4
                  have e26355 : (iRangeOf_c13 e col a0 a1 a2 whole02 whole12 found2) = (iRangeOf_c13 e col a0 a1 a2 whole02 whole12 found2) := rfl
                  refine AW.keep (0 :: 1 :: x3 1000 [4006, 4008, 4009]) [12, 20, 24, 32, 36] ⟨((0, sR4 (k3 e a0 a1 a2)) :: (1, cl) :: f2 1000 e a0 a1 a2 [(4006, .ref 24 1 0), (4008, .ref 32 1 0), (4009, .ref 36 1 0)]), [bE e, bC col, (24, .box 1 [sI 0, sI 0]), (32, .box 1 [sI whole02, sI whole12]), (36, .box 1 [sB found2])]⟩ (by kernel_rfl) ?_
                  refine AW.seq (AW.seq ?_)
                  refine AW.reg hC4  false [] (0 :: 1 :: 9 :: x3 1000 [4006, 4008, 4009]) [12, 20, 24, 32, 36]
                   ⟨((0, sR4 (k3 e a0 a1 a2)) :: (1, cl) :: (9, sB ((Xpr.Kind (k3 e a0 a1 a2)) != 8)) :: f2 1000 e a0 a1 a2 [(4006, .ref 24 1 0), (4008, .ref 32 1 0), (4009, .ref 36 1 0)]), [bE e, bC col, (24, .box 1 [sI 0, sI 0]), (32, .box 1 [sI whole02, sI whole12]), (36, .box 1 [sB found2])]⟩
                   [] (by kernel_rfl) ?_ ?_
                  ·
                   exact trivial
                  refine AW.cd ((Xpr.Kind (k3 e a0 a1 a2)) != 8) ?_ ?_
                  ·
                   intro h26356
                   have h26356q := (Go.Am.bne_pos h26356)
                   have e26357 := e26355.trans (Go.Am.bif_t h26356)
                   refine AW.seq (AW.regionO [0, 1, 2] (by rfl) ?_)
                   refine AWO.run hC4 false [] [0, 1] [2] (10 :: 11 :: x3 1000 [4006, 4008, 4009]) [12, 20, 24, 32, 36]
                    ⟨((10, cl) :: (11, sR4 (k3 e a0 a1 a2)) :: f2 1000 e a0 a1 a2 [(4006, .ref 24 1 0), (4008, .ref 32 1 0), (4009, .ref 36 1 0)]), [bE e, bC col, (24, .box 1 [sI 0, sI 0]), (32, .box 1 [sI whole02, sI whole12]), (36, .box 1 [sB found2])]⟩
                    [] (by rfl) (by kernel_rfl) ?_ ?_
                   ·
                    exact trivial
                   refine AWO.callJ hC4.ty (x3 1000 [4006, 4008, 4009]) [12, 20, 24, 32, 36] (α := Int × Int × Bool) (fun x => ⟨(f2 1000 e a0 a1 a2 [(4006, .ref 24 1 0), (4008, .ref 32 1 0), (4009, .ref 36 1 0)]), [bE e, bC col, (24, .box 1 [sI 0, sI 0]), (32, .box 1 [sI x.1, sI x.2.1]), (36, .box 1 [sB x.2.2])]⟩) (fun x => (True) ∧ (iRangeOf_c3 e col a0 a1 a2 whole02 whole12 found2) = x) (vs := [sR4 (k3 e a0 a1 a2)]) (caps := [.ref 20 1 0, .ref 32 1 0, .ref 36 1 0]) (by rfl) rfl (.inl rfl) (by decide) (by kernel_rfl) (by kernel_rfl) Try.func25 (by kernel_rfl) rfl (by kernel_rfl) ?_ ?_
                   ·
                    intro o5
                    have e26358 : (iRangeOf_c3 e col a0 a1 a2 whole02 whole12 found2) = (iRangeOf_c3 e col a0 a1 a2 whole02 whole12 found2) := rfl
                    refine AW.keep (0 :: 1 :: 2 :: 3 :: x3 2000 [5006, 5008, 5009]) [12, 20, 24, 32, 36] ⟨((0, sR4 (k3 e a0 a1 a2)) :: (1, .ref 20 1 0) :: (2, .ref 32 1 0) :: (3, .ref 36 1 0) :: f2 2000 e a0 a1 a2 [(5006, .ref 24 1 0), (5008, .ref 32 1 0), (5009, .ref 36 1 0)]), [bE e, bC col, (24, .box 1 [sI 0, sI 0]), (32, .box 1 [sI whole02, sI whole12]), (36, .box 1 [sB found2])]⟩ (by kernel_rfl) ?_
                    refine AW.seq ?_
                    refine AW.reg hC5  false [] (2 :: 3 :: 5 :: 6 :: x3 2000 [5006, 5008, 5009]) [12, 20, 24, 32, 36, 20020]
                     ⟨((2, .ref 32 1 0) :: (3, .ref 36 1 0) :: (5, .ref 20020 1 0) :: (6, sB ((restriction (k3 e a0 a1 a2) col).2)) :: f2 2000 e a0 a1 a2 [(5006, .ref 24 1 0), (5008, .ref 32 1 0), (5009, .ref 36 1 0)]), [bE e, bC col, (24, .box 1 [sI 0, sI 0]), (32, .box 1 [sI whole02, sI whole12]), (36, .box 1 [sB found2]), (20020, .box 1 [sI (Rng.Low ((restriction (k3 e a0 a1 a2) col).1)), sI (Rng.High ((restriction (k3 e a0 a1 a2) col).1))])]⟩
                     [(∃ w, VL w (k3 e a0 a1 a2))] (by kernel_rfl) ?_ ?_
                    ·
                     refine ⟨?_, trivial⟩
                     ·
                      exact ⟨width, ⟨_, by omega, hN⟩⟩
                    refine AW.seq ?_
                    refine AW.reg hC5  false [] (2 :: 3 :: 5 :: 13 :: x3 2000 [5006, 5008, 5009]) [12, 20, 24, 32, 36, 20020]
                     ⟨((2, .ref 32 1 0) :: (3, .ref 36 1 0) :: (5, .ref 20020 1 0) :: (13, sB ((restriction (k3 e a0 a1 a2) col).2)) :: f2 2000 e a0 a1 a2 [(5006, .ref 24 1 0), (5008, .ref 32 1 0), (5009, .ref 36 1 0)]), [bE e, bC col, (24, .box 1 [sI 0, sI 0]), (32, .box 1 [sI whole02, sI whole12]), (36, .box 1 [sB found2]), (20020, .box 1 [sI (Rng.Low ((restriction (k3 e a0 a1 a2) col).1)), sI (Rng.High ((restriction (k3 e a0 a1 a2) col).1))])]⟩
                     [] (by kernel_rfl) ?_ ?_
                    ·
                     exact trivial
                    refine AW.cd ((restriction (k3 e a0 a1 a2) col).2) ?_ ?_
                    ·
                     intro h26359
                     have h26359q : ((restriction (k3 e a0 a1 a2) col).2) = true := h26359
                     have e26360 := e26358.trans (Go.Am.bif_t h26359)
                     refine AW.seq ?_
                     refine AW.reg hC5  false [] (3 :: x3 2000 [5006, 5008, 5009]) [12, 20, 24, 32, 36]
                      ⟨((3, .ref 36 1 0) :: f2 2000 e a0 a1 a2 [(5006, .ref 24 1 0), (5008, .ref 32 1 0), (5009, .ref 36 1 0)]), [bE e, bC col, (24, .box 1 [sI 0, sI 0]), (32, .box 1 [sI (Rng.Low (intersected (Rng.mk whole02 whole12) ((restriction (k3 e a0 a1 a2) col).1))), sI (Rng.High (intersected (Rng.mk whole02 whole12) ((restriction (k3 e a0 a1 a2) col).1)))]), (36, .box 1 [sB found2])]⟩
                      [(True)] (by kernel_rfl) ?_ ?_
                     ·
                      refine ⟨?_, trivial⟩
                      ·
                       trivial
                     refine AW.reg hC5  false [] (x3 2000 [5006, 5008, 5009]) [12, 20, 24, 32, 36]
                      ⟨(f2 2000 e a0 a1 a2 [(5006, .ref 24 1 0), (5008, .ref 32 1 0), (5009, .ref 36 1 0)]), [bE e, bC col, (24, .box 1 [sI 0, sI 0]), (32, .box 1 [sI (Rng.Low (intersected (Rng.mk whole02 whole12) ((restriction (k3 e a0 a1 a2) col).1))), sI (Rng.High (intersected (Rng.mk whole02 whole12) ((restriction (k3 e a0 a1 a2) col).1)))]), (36, .box 1 [sB true])]⟩
                      [] (by kernel_rfl) ?_ ?_
                     ·
                      exact trivial
                     refine ⟨((Rng.Low (intersected (Rng.mk whole02 whole12) ((restriction (k3 e a0 a1 a2) col).1))), (Rng.High (intersected (Rng.mk whole02 whole12) ((restriction (k3 e a0 a1 a2) col).1))), true), [], by kernel_rfl, by kernel_rfl, ?_, e26360⟩
                     show True
                     exact trivial
                    ·
                     intro h26361
                     have h26361q : ((restriction (k3 e a0 a1 a2) col).2) = false := h26361
                     have e26362 := e26358.trans (Go.Am.bif_f h26361)
                     refine AW.keep (x3 2000 [5006, 5008, 5009]) [12, 20, 24, 32, 36] ⟨(f2 2000 e a0 a1 a2 [(5006, .ref 24 1 0), (5008, .ref 32 1 0), (5009, .ref 36 1 0)]), [bE e, bC col, (24, .box 1 [sI 0, sI 0]), (32, .box 1 [sI whole02, sI whole12]), (36, .box 1 [sB found2])]⟩ (by kernel_rfl) ?_
                     refine AW.skip ?_
                     refine ⟨(whole02, whole12, found2), [], by kernel_rfl, by kernel_rfl, ?_, e26362⟩
                     show True
                     exact trivial
                   ·
                    intro x hR
                    obtain ⟨whole03, whole13, found3⟩ := x
                    obtain ⟨hK3, e26363⟩ := hR
                    replace hK3 : True := hK3
                    have e26364 := e26357.trans (Go.Am.then_eq e26363)
                    refine AWO.run hC4 false [] [] [] (x3 1000 [4006, 4008, 4009]) [12, 20, 24, 32, 36]
                     ⟨(f2 1000 e a0 a1 a2 [(4006, .ref 24 1 0), (4008, .ref 32 1 0), (4009, .ref 36 1 0)]), [bE e, bC col, (24, .box 1 [sI 0, sI 0]), (32, .box 1 [sI whole03, sI whole13]), (36, .box 1 [sB found3])]⟩
                     [] (by rfl) (by kernel_rfl) ?_ ?_
                    ·
                     exact trivial
                    refine AWO.nil ?_
                    refine AW.ret ?_
                    refine ⟨(whole03, whole13, found3), [], by kernel_rfl, by kernel_rfl, ?_, e26364⟩
                    show True
                    exact trivial
                  ·
                   intro h26365
                   have h26365q := (Go.Am.bne_neg h26365)
                   have e26366 := e26355.trans (Go.Am.bif_f h26365)
                   refine AW.keep (0 :: 1 :: x3 1000 [4006, 4008, 4009]) [12, 20, 24, 32, 36] ⟨((0, sR4 (k3 e a0 a1 a2)) :: (1, cl) :: f2 1000 e a0 a1 a2 [(4006, .ref 24 1 0), (4008, .ref 32 1 0), (4009, .ref 36 1 0)]), [bE e, bC col, (24, .box 1 [sI 0, sI 0]), (32, .box 1 [sI whole02, sI whole12]), (36, .box 1 [sB found2])]⟩ (by kernel_rfl) ?_
                   refine AW.skip (AW.seq ?_)
                   refine AW.reg hC4  false [] (x4 0 [4006, 4008, 4009]) [12, 20, 24, 32, 36]
                    ⟨((0, sR4 (k3 e a0 a1 a2)) :: (1, cl) :: (17, sL (k3 e a0 a1 a2)) :: (18, sI 0) :: f2 1000 e a0 a1 a2 [(4006, .ref 24 1 0), (4008, .ref 32 1 0), (4009, .ref 36 1 0)]), [bE e, bC col, (24, .box 1 [sI 0, sI 0]), (32, .box 1 [sI whole02, sI whole12]), (36, .box 1 [sB found2])]⟩
                    [] (by kernel_rfl) ?_ ?_
                   ·
                    exact trivial
                   refine AW.cutQ (α := Int × Int × Bool) (fun x => ⟨(f2 1000 e a0 a1 a2 [(4006, .ref 24 1 0), (4008, .ref 32 1 0), (4009, .ref 36 1 0)]), [bE e, bC col, (24, .box 1 [sI 0, sI 0]), (32, .box 1 [sI x.1, sI x.2.1]), (36, .box 1 [sB x.2.2])]⟩) (fun x => (True) ∧ (iRangeOf_l3 e col a0 a1 a2 ((List.length (Xpr.Kids (k3 e a0 a1 a2))) - 0 + 1) 0 whole02 whole12 found2) = x) ?_ ?_
                   ·
                    skip
                    refine AW.block (AW.loop (α := Nat × Int × Int × Bool) (fun x => ⟨((0, sR4 (k3 e a0 a1 a2)) :: (1, cl) :: (17, sL (k3 e a0 a1 a2)) :: (18, sI ((x.1 : Nat) : Int)) :: f2 1000 e a0 a1 a2 [(4006, .ref 24 1 0), (4008, .ref 32 1 0), (4009, .ref 36 1 0)]), [bE e, bC col, (24, .box 1 [sI 0, sI 0]), (32, .box 1 [sI x.2.1, sI x.2.2.1]), (36, .box 1 [sB x.2.2.2])]⟩) (fun x => (True) ∧ ∃ k, (List.length (Xpr.Kids (k3 e a0 a1 a2))) - x.1 < k ∧ (iRangeOf_l3 e col a0 a1 a2 ((List.length (Xpr.Kids (k3 e a0 a1 a2))) - 0 + 1) 0 whole02 whole12 found2) = iRangeOf_l3 e col a0 a1 a2 k x.1 x.2.1 x.2.2.1 x.2.2.2) (fun x => (List.length (Xpr.Kids (k3 e a0 a1 a2))) - x.1) (0, whole02, whole12, found2) (by kernel_rfl) ⟨?_, _, Nat.lt_succ_self _, rfl⟩ ?_)
                    ·
                     show True
                     exact trivial
                    ·
                     intro x hR
                     obtain ⟨a3, whole03, whole13, found3⟩ := x
                     obtain ⟨hI3, k26369, hk26367, e26368⟩ := hR
                     replace hI3 : True := hI3
                     replace hk26367 : (List.length (Xpr.Kids (k3 e a0 a1 a2))) - a3 < k26369 := hk26367
                     obtain ⟨k26369q, rfl⟩ : ∃ k, k26369 = k + 1 := ⟨k26369 - 1, by omega⟩
                     have hK := hN.kids2
                     refine AW.seq ?_
                     refine AW.reg hC4  false [] (0 :: 1 :: 17 :: 18 :: 19 :: x3 1000 [4006, 4008, 4009]) [12, 20, 24, 32, 36]
                      ⟨((0, sR4 (k3 e a0 a1 a2)) :: (1, cl) :: (17, sL (k3 e a0 a1 a2)) :: (18, sN a3) :: (19, sB (decide (((a3 : Nat) : Int) < ((List.length (Xpr.Kids (k3 e a0 a1 a2)) : Nat) : Int)))) :: f2 1000 e a0 a1 a2 [(4006, .ref 24 1 0), (4008, .ref 32 1 0), (4009, .ref 36 1 0)]), [bE e, bC col, (24, .box 1 [sI 0, sI 0]), (32, .box 1 [sI whole03, sI whole13]), (36, .box 1 [sB found3])]⟩
                      [] (by kernel_rfl) ?_ ?_
                     ·
                      exact trivial
                     refine AW.seq (AW.cd (decide (((a3 : Nat) : Int) < ((List.length (Xpr.Kids (k3 e a0 a1 a2)) : Nat) : Int))) ?_ ?_)
                     ·
                      intro h26370
                      have h26370q := (of_decide_eq_true h26370)
                      have e26371 := e26368.trans (Go.Am.bif_t h26370)
                      refine AW.keep (x4 0 [4006, 4008, 4009]) [12, 20, 24, 32, 36] ⟨(f3 0 e a0 a1 a2 a3 [(4006, .ref 24 1 0), (4008, .ref 32 1 0), (4009, .ref 36 1 0)]), [bE e, bC col, (24, .box 1 [sI 0, sI 0]), (32, .box 1 [sI whole03, sI whole13]), (36, .box 1 [sB found3])]⟩ (by kernel_rfl) ?_
                      refine AW.skip (AW.seq (AW.block (AW.seq ?_)))
                      refine AW.reg hC4  false [] (0 :: 1 :: 4 :: 17 :: 18 :: x3 1000 [4006, 4008, 4009]) [12, 20, 24, 32, 36]
                       ⟨((0, sR4 (k3 e a0 a1 a2)) :: (1, cl) :: (4, sN a3) :: (17, sL (k3 e a0 a1 a2)) :: (18, sN a3) :: f2 1000 e a0 a1 a2 [(4006, .ref 24 1 0), (4008, .ref 32 1 0), (4009, .ref 36 1 0)]), [bE e, bC col, (24, .box 1 [sI 0, sI 0]), (32, .box 1 [sI whole03, sI whole13]), (36, .box 1 [sB found3])]⟩
                       [] (by kernel_rfl) ?_ ?_
                      ·
                       exact trivial
                      have hN : VE width 4 (k4 e a0 a1 a2 a3) := hN.kd (Int.ofNat_lt.1 h26370q)
                      refine AW.regionO [0, 1, 2, 3, 4, 5, 6, 7] (by rfl) ?_
                      refine AWO.run hC4 false [] [0, 1, 2, 3, 4, 5, 6] [7] (0 :: 1 :: 17 :: 18 :: 26 :: 27 :: x3 1000 [4006, 4008, 4009]) [12, 20, 24, 32, 36]
                       ⟨((0, sR4 (k3 e a0 a1 a2)) :: (1, cl) :: (17, sL (k3 e a0 a1 a2)) :: (18, sN a3) :: (26, sR4 (k4 e a0 a1 a2 a3)) :: (27, cl) :: f2 1000 e a0 a1 a2 [(4006, .ref 24 1 0), (4008, .ref 32 1 0), (4009, .ref 36 1 0)]), [bE e, bC col, (24, .box 1 [sI 0, sI 0]), (32, .box 1 [sI whole03, sI whole13]), (36, .box 1 [sB found3])]⟩
                       [IX ((a3 : Nat) : Int) ((List.length (Xpr.Kids (k3 e a0 a1 a2)) : Nat) : Int)] (by rfl) (by kernel_rfl) ?_ ?_
                      ·
                       refine ⟨?_, trivial⟩
                       ·
                        refine IX.of ?_
                        omega
                      refine AWO.callJ hC4.ty (x4 0 [4006, 4008, 4009]) [12, 20, 24, 32, 36] (α := Int × Int × Bool) (fun x => ⟨(f3 0 e a0 a1 a2 a3 [(4006, .ref 24 1 0), (4008, .ref 32 1 0), (4009, .ref 36 1 0)]), [bE e, bC col, (24, .box 1 [sI 0, sI 0]), (32, .box 1 [sI x.1, sI x.2.1]), (36, .box 1 [sB x.2.2])]⟩) (fun x => (True) ∧ (iRangeOf_c12 e col a0 a1 a2 a3 whole03 whole13 found3) = x) (vs := [sR4 (k4 e a0 a1 a2 a3), cl]) (caps := []) (by rfl) rfl (.inl rfl) (by decide) (by kernel_rfl) (by kernel_rfl) Try.func24 (by kernel_rfl) rfl (by kernel_rfl) ?_ ?_
                      ·
                       intro o5
                       have e26372 : (iRangeOf_c12 e col a0 a1 a2 a3 whole03 whole13 found3) = (iRangeOf_c12 e col a0 a1 a2 a3 whole03 whole13 found3) := rfl
                       refine AW.keep (0 :: 1 :: x4 1000 [5006, 5008, 5009]) [12, 20, 24, 32, 36] ⟨((0, sR4 (k4 e a0 a1 a2 a3)) :: (1, cl) :: f3 1000 e a0 a1 a2 a3 [(5006, .ref 24 1 0), (5008, .ref 32 1 0), (5009, .ref 36 1 0)]), [bE e, bC col, (24, .box 1 [sI 0, sI 0]), (32, .box 1 [sI whole03, sI whole13]), (36, .box 1 [sB found3])]⟩ (by kernel_rfl) ?_
                       refine AW.seq (AW.seq ?_)
                       refine AW.reg hC5  false [] (0 :: 1 :: 9 :: x4 1000 [5006, 5008, 5009]) [12, 20, 24, 32, 36]
                        ⟨((0, sR4 (k4 e a0 a1 a2 a3)) :: (1, cl) :: (9, sB ((Xpr.Kind (k4 e a0 a1 a2 a3)) != 8)) :: f3 1000 e a0 a1 a2 a3 [(5006, .ref 24 1 0), (5008, .ref 32 1 0), (5009, .ref 36 1 0)]), [bE e, bC col, (24, .box 1 [sI 0, sI 0]), (32, .box 1 [sI whole03, sI whole13]), (36, .box 1 [sB found3])]⟩
                        [] (by kernel_rfl) ?_ ?_
                       ·
                        exact trivial
                       refine AW.cd ((Xpr.Kind (k4 e a0 a1 a2 a3)) != 8) ?_ ?_
                       ·
                        intro h26373
                        have h26373q := (Go.Am.bne_pos h26373)
                        have e26374 := e26372.trans (Go.Am.bif_t h26373)
                        refine AW.seq (AW.regionO [0, 1, 2] (by rfl) ?_)
                        refine AWO.run hC5 false [] [0, 1] [2] (10 :: 11 :: x4 1000 [5006, 5008, 5009]) [12, 20, 24, 32, 36]
                         ⟨((10, cl) :: (11, sR4 (k4 e a0 a1 a2 a3)) :: f3 1000 e a0 a1 a2 a3 [(5006, .ref 24 1 0), (5008, .ref 32 1 0), (5009, .ref 36 1 0)]), [bE e, bC col, (24, .box 1 [sI 0, sI 0]), (32, .box 1 [sI whole03, sI whole13]), (36, .box 1 [sB found3])]⟩
                         [] (by rfl) (by kernel_rfl) ?_ ?_
                        ·
                         exact trivial
                        refine AWO.callJ hC5.ty (x4 1000 [5006, 5008, 5009]) [12, 20, 24, 32, 36] (α := Int × Int × Bool) (fun x => ⟨(f3 1000 e a0 a1 a2 a3 [(5006, .ref 24 1 0), (5008, .ref 32 1 0), (5009, .ref 36 1 0)]), [bE e, bC col, (24, .box 1 [sI 0, sI 0]), (32, .box 1 [sI x.1, sI x.2.1]), (36, .box 1 [sB x.2.2])]⟩) (fun x => (True) ∧ (iRangeOf_c4 e col a0 a1 a2 a3 whole03 whole13 found3) = x) (vs := [sR4 (k4 e a0 a1 a2 a3)]) (caps := [.ref 20 1 0, .ref 32 1 0, .ref 36 1 0]) (by rfl) rfl (.inl rfl) (by decide) (by kernel_rfl) (by kernel_rfl) Try.func25 (by kernel_rfl) rfl (by kernel_rfl) ?_ ?_
                        ·
                         intro o6
                         have e26375 : (iRangeOf_c4 e col a0 a1 a2 a3 whole03 whole13 found3) = (iRangeOf_c4 e col a0 a1 a2 a3 whole03 whole13 found3) := rfl
                         refine AW.keep (0 :: 1 :: 2 :: 3 :: x4 2000 [6006, 6008, 6009]) [12, 20, 24, 32, 36] ⟨((0, sR4 (k4 e a0 a1 a2 a3)) :: (1, .ref 20 1 0) :: (2, .ref 32 1 0) :: (3, .ref 36 1 0) :: f3 2000 e a0 a1 a2 a3 [(6006, .ref 24 1 0), (6008, .ref 32 1 0), (6009, .ref 36 1 0)]), [bE e, bC col, (24, .box 1 [sI 0, sI 0]), (32, .box 1 [sI whole03, sI whole13]), (36, .box 1 [sB found3])]⟩ (by kernel_rfl) ?_
                         refine AW.seq ?_
                         refine AW.reg hC6  false [] (2 :: 3 :: 5 :: 6 :: x4 2000 [6006, 6008, 6009]) [12, 20, 24, 32, 36, 24020]
                          ⟨((2, .ref 32 1 0) :: (3, .ref 36 1 0) :: (5, .ref 24020 1 0) :: (6, sB ((restriction (k4 e a0 a1 a2 a3) col).2)) :: f3 2000 e a0 a1 a2 a3 [(6006, .ref 24 1 0), (6008, .ref 32 1 0), (6009, .ref 36 1 0)]), [bE e, bC col, (24, .box 1 [sI 0, sI 0]), (32, .box 1 [sI whole03, sI whole13]), (36, .box 1 [sB found3]), (24020, .box 1 [sI (Rng.Low ((restriction (k4 e a0 a1 a2 a3) col).1)), sI (Rng.High ((restriction (k4 e a0 a1 a2 a3) col).1))])]⟩
                          [(∃ w, VL w (k4 e a0 a1 a2 a3))] (by kernel_rfl) ?_ ?_
                         ·
                          refine ⟨?_, trivial⟩
                          ·
                           exact ⟨width, ⟨_, by omega, hN⟩⟩
                         refine AW.seq ?_
                         refine AW.reg hC6  false [] (2 :: 3 :: 5 :: 13 :: x4 2000 [6006, 6008, 6009]) [12, 20, 24, 32, 36, 24020]
                          ⟨((2, .ref 32 1 0) :: (3, .ref 36 1 0) :: (5, .ref 24020 1 0) :: (13, sB ((restriction (k4 e a0 a1 a2 a3) col).2)) :: f3 2000 e a0 a1 a2 a3 [(6006, .ref 24 1 0), (6008, .ref 32 1 0), (6009, .ref 36 1 0)]), [bE e, bC col, (24, .box 1 [sI 0, sI 0]), (32, .box 1 [sI whole03, sI whole13]), (36, .box 1 [sB found3]), (24020, .box 1 [sI (Rng.Low ((restriction (k4 e a0 a1 a2 a3) col).1)), sI (Rng.High ((restriction (k4 e a0 a1 a2 a3) col).1))])]⟩
                          [] (by kernel_rfl) ?_ ?_
                         ·
                          exact trivial
                         refine AW.cd ((restriction (k4 e a0 a1 a2 a3) col).2) ?_ ?_
                         ·
                          intro h26376
                          have h26376q : ((restriction (k4 e a0 a1 a2 a3) col).2) = true := h26376
                          have e26377 := e26375.trans (Go.Am.bif_t h26376)
                          refine AW.seq ?_
                          refine AW.reg hC6  false [] (3 :: x4 2000 [6006, 6008, 6009]) [12, 20, 24, 32, 36]
                           ⟨((3, .ref 36 1 0) :: f3 2000 e a0 a1 a2 a3 [(6006, .ref 24 1 0), (6008, .ref 32 1 0), (6009, .ref 36 1 0)]), [bE e, bC col, (24, .box 1 [sI 0, sI 0]), (32, .box 1 [sI (Rng.Low (intersected (Rng.mk whole03 whole13) ((restriction (k4 e a0 a1 a2 a3) col).1))), sI (Rng.High (intersected (Rng.mk whole03 whole13) ((restriction (k4 e a0 a1 a2 a3) col).1)))]), (36, .box 1 [sB found3])]⟩
                           [(True)] (by kernel_rfl) ?_ ?_
                          ·
                           refine ⟨?_, trivial⟩
                           ·
                            trivial
                          refine AW.reg hC6  false [] (x4 2000 [6006, 6008, 6009]) [12, 20, 24, 32, 36]
                           ⟨(f3 2000 e a0 a1 a2 a3 [(6006, .ref 24 1 0), (6008, .ref 32 1 0), (6009, .ref 36 1 0)]), [bE e, bC col, (24, .box 1 [sI 0, sI 0]), (32, .box 1 [sI (Rng.Low (intersected (Rng.mk whole03 whole13) ((restriction (k4 e a0 a1 a2 a3) col).1))), sI (Rng.High (intersected (Rng.mk whole03 whole13) ((restriction (k4 e a0 a1 a2 a3) col).1)))]), (36, .box 1 [sB true])]⟩
                           [] (by kernel_rfl) ?_ ?_
                          ·
                           exact trivial
                          refine ⟨((Rng.Low (intersected (Rng.mk whole03 whole13) ((restriction (k4 e a0 a1 a2 a3) col).1))), (Rng.High (intersected (Rng.mk whole03 whole13) ((restriction (k4 e a0 a1 a2 a3) col).1))), true), [], by kernel_rfl, by kernel_rfl, ?_, e26377⟩
                          show True
                          exact trivial
                         ·
                          intro h26378
                          have h26378q : ((restriction (k4 e a0 a1 a2 a3) col).2) = false := h26378
                          have e26379 := e26375.trans (Go.Am.bif_f h26378)
                          refine AW.keep (x4 2000 [6006, 6008, 6009]) [12, 20, 24, 32, 36] ⟨(f3 2000 e a0 a1 a2 a3 [(6006, .ref 24 1 0), (6008, .ref 32 1 0), (6009, .ref 36 1 0)]), [bE e, bC col, (24, .box 1 [sI 0, sI 0]), (32, .box 1 [sI whole03, sI whole13]), (36, .box 1 [sB found3])]⟩ (by kernel_rfl) ?_
                          refine AW.skip ?_
                          refine ⟨(whole03, whole13, found3), [], by kernel_rfl, by kernel_rfl, ?_, e26379⟩
                          show True
                          exact trivial
                        ·
                         intro x hR
                         obtain ⟨whole04, whole14, found4⟩ := x
                         obtain ⟨hK4, e26380⟩ := hR
                         replace hK4 : True := hK4
                         have e26381 := e26374.trans (Go.Am.then_eq e26380)
                         refine AWO.run hC5 false [] [] [] (x4 1000 [5006, 5008, 5009]) [12, 20, 24, 32, 36]
                          ⟨(f3 1000 e a0 a1 a2 a3 [(5006, .ref 24 1 0), (5008, .ref 32 1 0), (5009, .ref 36 1 0)]), [bE e, bC col, (24, .box 1 [sI 0, sI 0]), (32, .box 1 [sI whole04, sI whole14]), (36, .box 1 [sB found4])]⟩
                          [] (by rfl) (by kernel_rfl) ?_ ?_
                         ·
                          exact trivial
                         refine AWO.nil ?_
                         refine AW.ret ?_
                         refine ⟨(whole04, whole14, found4), [], by kernel_rfl, by kernel_rfl, ?_, e26381⟩
                         show True
                         exact trivial
                       ·
                        intro h26382
                        have h26382q := (Go.Am.bne_neg h26382)
                        have e26383 := e26372.trans (Go.Am.bif_f h26382)
                        refine AW.keep (0 :: 1 :: x4 1000 [5006, 5008, 5009]) [12, 20, 24, 32, 36] ⟨((0, sR4 (k4 e a0 a1 a2 a3)) :: (1, cl) :: f3 1000 e a0 a1 a2 a3 [(5006, .ref 24 1 0), (5008, .ref 32 1 0), (5009, .ref 36 1 0)]), [bE e, bC col, (24, .box 1 [sI 0, sI 0]), (32, .box 1 [sI whole03, sI whole13]), (36, .box 1 [sB found3])]⟩ (by kernel_rfl) ?_
                        refine AW.skip (AW.seq ?_)
                        refine AW.reg hC5  false [] (x5 0 [5006, 5008, 5009]) [12, 20, 24, 32, 36]
                         ⟨((0, sR4 (k4 e a0 a1 a2 a3)) :: (1, cl) :: (17, sL (k4 e a0 a1 a2 a3)) :: (18, sI 0) :: f3 1000 e a0 a1 a2 a3 [(5006, .ref 24 1 0), (5008, .ref 32 1 0), (5009, .ref 36 1 0)]), [bE e, bC col, (24, .box 1 [sI 0, sI 0]), (32, .box 1 [sI whole03, sI whole13]), (36, .box 1 [sB found3])]⟩
                         [] (by kernel_rfl) ?_ ?_
                        ·
                         exact trivial
                        refine AW.cutQ (α := Int × Int × Bool) (fun x => ⟨(f3 1000 e a0 a1 a2 a3 [(5006, .ref 24 1 0), (5008, .ref 32 1 0), (5009, .ref 36 1 0)]), [bE e, bC col, (24, .box 1 [sI 0, sI 0]), (32, .box 1 [sI x.1, sI x.2.1]), (36, .box 1 [sB x.2.2])]⟩) (fun x => (True) ∧ (iRangeOf_l4 e col a0 a1 a2 a3 ((List.length (Xpr.Kids (k4 e a0 a1 a2 a3))) - 0 + 1) 0 whole03 whole13 found3) = x) ?_ ?_
                        ·
                         skip
                         refine AW.block (AW.loop (α := Nat × Int × Int × Bool) (fun x => ⟨((0, sR4 (k4 e a0 a1 a2 a3)) :: (1, cl) :: (17, sL (k4 e a0 a1 a2 a3)) :: (18, sI ((x.1 : Nat) : Int)) :: f3 1000 e a0 a1 a2 a3 [(5006, .ref 24 1 0), (5008, .ref 32 1 0), (5009, .ref 36 1 0)]), [bE e, bC col, (24, .box 1 [sI 0, sI 0]), (32, .box 1 [sI x.2.1, sI x.2.2.1]), (36, .box 1 [sB x.2.2.2])]⟩) (fun x => (True) ∧ ∃ k, (List.length (Xpr.Kids (k4 e a0 a1 a2 a3))) - x.1 < k ∧ (iRangeOf_l4 e col a0 a1 a2 a3 ((List.length (Xpr.Kids (k4 e a0 a1 a2 a3))) - 0 + 1) 0 whole03 whole13 found3) = iRangeOf_l4 e col a0 a1 a2 a3 k x.1 x.2.1 x.2.2.1 x.2.2.2) (fun x => (List.length (Xpr.Kids (k4 e a0 a1 a2 a3))) - x.1) (0, whole03, whole13, found3) (by kernel_rfl) ⟨?_, _, Nat.lt_succ_self _, rfl⟩ ?_)
                         ·
                          show True
                          exact trivial
                         ·
                          intro x hR
                          obtain ⟨a4, whole04, whole14, found4⟩ := x
                          obtain ⟨hI4, k26386, hk26384, e26385⟩ := hR
                          replace hI4 : True := hI4
                          replace hk26384 : (List.length (Xpr.Kids (k4 e a0 a1 a2 a3))) - a4 < k26386 := hk26384
                          obtain ⟨k26386q, rfl⟩ : ∃ k, k26386 = k + 1 := ⟨k26386 - 1, by omega⟩
                          have hK := hN.kids2
                          refine AW.seq ?_
                          refine AW.reg hC5  false [] (0 :: 1 :: 17 :: 18 :: 19 :: x4 1000 [5006, 5008, 5009]) [12, 20, 24, 32, 36]
                           ⟨((0, sR4 (k4 e a0 a1 a2 a3)) :: (1, cl) :: (17, sL (k4 e a0 a1 a2 a3)) :: (18, sN a4) :: (19, sB (decide (((a4 : Nat) : Int) < ((List.length (Xpr.Kids (k4 e a0 a1 a2 a3)) : Nat) : Int)))) :: f3 1000 e a0 a1 a2 a3 [(5006, .ref 24 1 0), (5008, .ref 32 1 0), (5009, .ref 36 1 0)]), [bE e, bC col, (24, .box 1 [sI 0, sI 0]), (32, .box 1 [sI whole04, sI whole14]), (36, .box 1 [sB found4])]⟩
                           [] (by kernel_rfl) ?_ ?_
                          ·
                           exact trivial
                          refine AW.seq (AW.cd (decide (((a4 : Nat) : Int) < ((List.length (Xpr.Kids (k4 e a0 a1 a2 a3)) : Nat) : Int))) ?_ ?_)
                          ·
                           intro h26387
                           have h26387q := (of_decide_eq_true h26387)
                           have e26388 := e26385.trans (Go.Am.bif_t h26387)
                           refine AW.keep (x5 0 [5006, 5008, 5009]) [12, 20, 24, 32, 36] ⟨(f4 0 e a0 a1 a2 a3 a4 [(5006, .ref 24 1 0), (5008, .ref 32 1 0), (5009, .ref 36 1 0)]), [bE e, bC col, (24, .box 1 [sI 0, sI 0]), (32, .box 1 [sI whole04, sI whole14]), (36, .box 1 [sB found4])]⟩ (by kernel_rfl) ?_
                           refine AW.skip (AW.seq (AW.block (AW.seq ?_)))
                           refine AW.reg hC5  false [] (0 :: 1 :: 4 :: 17 :: 18 :: x4 1000 [5006, 5008, 5009]) [12, 20, 24, 32, 36]
                            ⟨((0, sR4 (k4 e a0 a1 a2 a3)) :: (1, cl) :: (4, sN a4) :: (17, sL (k4 e a0 a1 a2 a3)) :: (18, sN a4) :: f3 1000 e a0 a1 a2 a3 [(5006, .ref 24 1 0), (5008, .ref 32 1 0), (5009, .ref 36 1 0)]), [bE e, bC col, (24, .box 1 [sI 0, sI 0]), (32, .box 1 [sI whole04, sI whole14]), (36, .box 1 [sB found4])]⟩
                            [] (by kernel_rfl) ?_ ?_
                           ·
                            exact trivial
                           have hN : VE width 3 (k5 e a0 a1 a2 a3 a4) := hN.kd (Int.ofNat_lt.1 h26387q)
                           refine AW.regionO [0, 1, 2, 3, 4, 5, 6, 7] (by rfl) ?_
                           refine AWO.run hC5 false [] [0, 1, 2, 3, 4, 5, 6] [7] (0 :: 1 :: 17 :: 18 :: 26 :: 27 :: x4 1000 [5006, 5008, 5009]) [12, 20, 24, 32, 36]
                            ⟨((0, sR4 (k4 e a0 a1 a2 a3)) :: (1, cl) :: (17, sL (k4 e a0 a1 a2 a3)) :: (18, sN a4) :: (26, sR4 (k5 e a0 a1 a2 a3 a4)) :: (27, cl) :: f3 1000 e a0 a1 a2 a3 [(5006, .ref 24 1 0), (5008, .ref 32 1 0), (5009, .ref 36 1 0)]), [bE e, bC col, (24, .box 1 [sI 0, sI 0]), (32, .box 1 [sI whole04, sI whole14]), (36, .box 1 [sB found4])]⟩
                            [IX ((a4 : Nat) : Int) ((List.length (Xpr.Kids (k4 e a0 a1 a2 a3)) : Nat) : Int)] (by rfl) (by kernel_rfl) ?_ ?_
                           ·
                            refine ⟨?_, trivial⟩
                            ·
                             refine IX.of ?_
                             omega
                           refine AWO.callJ hC5.ty (x5 0 [5006, 5008, 5009]) [12, 20, 24, 32, 36] (α := Int × Int × Bool) (fun x => ⟨(f4 0 e a0 a1 a2 a3 a4 [(5006, .ref 24 1 0), (5008, .ref 32 1 0), (5009, .ref 36 1 0)]), [bE e, bC col, (24, .box 1 [sI 0, sI 0]), (32, .box 1 [sI x.1, sI x.2.1]), (36, .box 1 [sB x.2.2])]⟩) (fun x => (True) ∧ (iRangeOf_c11 e col a0 a1 a2 a3 a4 whole04 whole14 found4) = x) (vs := [sR4 (k5 e a0 a1 a2 a3 a4), cl]) (caps := []) (by rfl) rfl (.inl rfl) (by decide) (by kernel_rfl) (by kernel_rfl) Try.func24 (by kernel_rfl) rfl (by kernel_rfl) ?_ ?_
                           ·
                            intro o6
                            have e26389 : (iRangeOf_c11 e col a0 a1 a2 a3 a4 whole04 whole14 found4) = (iRangeOf_c11 e col a0 a1 a2 a3 a4 whole04 whole14 found4) := rfl
                            refine AW.keep (0 :: 1 :: x5 1000 [6006, 6008, 6009]) [12, 20, 24, 32, 36] ⟨((0, sR4 (k5 e a0 a1 a2 a3 a4)) :: (1, cl) :: f4 1000 e a0 a1 a2 a3 a4 [(6006, .ref 24 1 0), (6008, .ref 32 1 0), (6009, .ref 36 1 0)]), [bE e, bC col, (24, .box 1 [sI 0, sI 0]), (32, .box 1 [sI whole04, sI whole14]), (36, .box 1 [sB found4])]⟩ (by kernel_rfl) ?_
                            refine AW.seq (AW.seq ?_)
                            refine AW.reg hC6  false [] (0 :: 1 :: 9 :: x5 1000 [6006, 6008, 6009]) [12, 20, 24, 32, 36]
                             ⟨((0, sR4 (k5 e a0 a1 a2 a3 a4)) :: (1, cl) :: (9, sB ((Xpr.Kind (k5 e a0 a1 a2 a3 a4)) != 8)) :: f4 1000 e a0 a1 a2 a3 a4 [(6006, .ref 24 1 0), (6008, .ref 32 1 0), (6009, .ref 36 1 0)]), [bE e, bC col, (24, .box 1 [sI 0, sI 0]), (32, .box 1 [sI whole04, sI whole14]), (36, .box 1 [sB found4])]⟩
                             [] (by kernel_rfl) ?_ ?_
                            ·
                             exact trivial
                            refine AW.cd ((Xpr.Kind (k5 e a0 a1 a2 a3 a4)) != 8) ?_ ?_
                            ·
                             intro h26390
                             have h26390q := (Go.Am.bne_pos h26390)
                             have e26391 := e26389.trans (Go.Am.bif_t h26390)
                             refine AW.seq (AW.regionO [0, 1, 2] (by rfl) ?_)
                             refine AWO.run hC6 false [] [0, 1] [2] (10 :: 11 :: x5 1000 [6006, 6008, 6009]) [12, 20, 24, 32, 36]
                              ⟨((10, cl) :: (11, sR4 (k5 e a0 a1 a2 a3 a4)) :: f4 1000 e a0 a1 a2 a3 a4 [(6006, .ref 24 1 0), (6008, .ref 32 1 0), (6009, .ref 36 1 0)]), [bE e, bC col, (24, .box 1 [sI 0, sI 0]), (32, .box 1 [sI whole04, sI whole14]), (36, .box 1 [sB found4])]⟩
                              [] (by rfl) (by kernel_rfl) ?_ ?_
                             ·
                              exact trivial
                             refine AWO.callJ hC6.ty (x5 1000 [6006, 6008, 6009]) [12, 20, 24, 32, 36] (α := Int × Int × Bool) (fun x => ⟨(f4 1000 e a0 a1 a2 a3 a4 [(6006, .ref 24 1 0), (6008, .ref 32 1 0), (6009, .ref 36 1 0)]), [bE e, bC col, (24, .box 1 [sI 0, sI 0]), (32, .box 1 [sI x.1, sI x.2.1]), (36, .box 1 [sB x.2.2])]⟩) (fun x => (True) ∧ (iRangeOf_c5 e col a0 a1 a2 a3 a4 whole04 whole14 found4) = x) (vs := [sR4 (k5 e a0 a1 a2 a3 a4)]) (caps := [.ref 20 1 0, .ref 32 1 0, .ref 36 1 0]) (by rfl) rfl (.inl rfl) (by decide) (by kernel_rfl) (by kernel_rfl) Try.func25 (by kernel_rfl) rfl (by kernel_rfl) ?_ ?_
                             ·
                              intro o7
                              have e26392 : (iRangeOf_c5 e col a0 a1 a2 a3 a4 whole04 whole14 found4) = (iRangeOf_c5 e col a0 a1 a2 a3 a4 whole04 whole14 found4) := rfl
                              refine AW.keep (0 :: 1 :: 2 :: 3 :: x5 2000 [7006, 7008, 7009]) [12, 20, 24, 32, 36] ⟨((0, sR4 (k5 e a0 a1 a2 a3 a4)) :: (1, .ref 20 1 0) :: (2, .ref 32 1 0) :: (3, .ref 36 1 0) :: f4 2000 e a0 a1 a2 a3 a4 [(7006, .ref 24 1 0), (7008, .ref 32 1 0), (7009, .ref 36 1 0)]), [bE e, bC col, (24, .box 1 [sI 0, sI 0]), (32, .box 1 [sI whole04, sI whole14]), (36, .box 1 [sB found4])]⟩ (by kernel_rfl) ?_
                              refine AW.seq ?_
                              refine AW.reg hC7  false [] (2 :: 3 :: 5 :: 6 :: x5 2000 [7006, 7008, 7009]) [12, 20, 24, 32, 36, 28020]
                               ⟨((2, .ref 32 1 0) :: (3, .ref 36 1 0) :: (5, .ref 28020 1 0) :: (6, sB ((restriction (k5 e a0 a1 a2 a3 a4) col).2)) :: f4 2000 e a0 a1 a2 a3 a4 [(7006, .ref 24 1 0), (7008, .ref 32 1 0), (7009, .ref 36 1 0)]), [bE e, bC col, (24, .box 1 [sI 0, sI 0]), (32, .box 1 [sI whole04, sI whole14]), (36, .box 1 [sB found4]), (28020, .box 1 [sI (Rng.Low ((restriction (k5 e a0 a1 a2 a3 a4) col).1)), sI (Rng.High ((restriction (k5 e a0 a1 a2 a3 a4) col).1))])]⟩
                               [(∃ w, VL w (k5 e a0 a1 a2 a3 a4))] (by kernel_rfl) ?_ ?_
                              ·
                               refine ⟨?_, trivial⟩
                               ·
                                exact ⟨width, ⟨_, by omega, hN⟩⟩
                              refine AW.seq ?_
                              refine AW.reg hC7  false [] (2 :: 3 :: 5 :: 13 :: x5 2000 [7006, 7008, 7009]) [12, 20, 24, 32, 36, 28020]
                               ⟨((2, .ref 32 1 0) :: (3, .ref 36 1 0) :: (5, .ref 28020 1 0) :: (13, sB ((restriction (k5 e a0 a1 a2 a3 a4) col).2)) :: f4 2000 e a0 a1 a2 a3 a4 [(7006, .ref 24 1 0), (7008, .ref 32 1 0), (7009, .ref 36 1 0)]), [bE e, bC col, (24, .box 1 [sI 0, sI 0]), (32, .box 1 [sI whole04, sI whole14]), (36, .box 1 [sB found4]), (28020, .box 1 [sI (Rng.Low ((restriction (k5 e a0 a1 a2 a3 a4) col).1)), sI (Rng.High ((restriction (k5 e a0 a1 a2 a3 a4) col).1))])]⟩
                               [] (by kernel_rfl) ?_ ?_
                              ·
                               exact trivial
                              refine AW.cd ((restriction (k5 e a0 a1 a2 a3 a4) col).2) ?_ ?_
                              ·
                               intro h26393
                               have h26393q : ((restriction (k5 e a0 a1 a2 a3 a4) col).2) = true := h26393
                               have e26394 := e26392.trans (Go.Am.bif_t h26393)
                               refine AW.seq ?_
                               refine AW.reg hC7  false [] (3 :: x5 2000 [7006, 7008, 7009]) [12, 20, 24, 32, 36]
                                ⟨((3, .ref 36 1 0) :: f4 2000 e a0 a1 a2 a3 a4 [(7006, .ref 24 1 0), (7008, .ref 32 1 0), (7009, .ref 36 1 0)]), [bE e, bC col, (24, .box 1 [sI 0, sI 0]), (32, .box 1 [sI (Rng.Low (intersected (Rng.mk whole04 whole14) ((restriction (k5 e a0 a1 a2 a3 a4) col).1))), sI (Rng.High (intersected (Rng.mk whole04 whole14) ((restriction (k5 e a0 a1 a2 a3 a4) col).1)))]), (36, .box 1 [sB found4])]⟩
                                [(True)] (by kernel_rfl) ?_ ?_
                               ·
                                refine ⟨?_, trivial⟩
                                ·
                                 trivial
                               refine AW.reg hC7  false [] (x5 2000 [7006, 7008, 7009]) [12, 20, 24, 32, 36]
                                ⟨(f4 2000 e a0 a1 a2 a3 a4 [(7006, .ref 24 1 0), (7008, .ref 32 1 0), (7009, .ref 36 1 0)]), [bE e, bC col, (24, .box 1 [sI 0, sI 0]), (32, .box 1 [sI (Rng.Low (intersected (Rng.mk whole04 whole14) ((restriction (k5 e a0 a1 a2 a3 a4) col).1))), sI (Rng.High (intersected (Rng.mk whole04 whole14) ((restriction (k5 e a0 a1 a2 a3 a4) col).1)))]), (36, .box 1 [sB true])]⟩
                                [] (by kernel_rfl) ?_ ?_
                               ·
                                exact trivial
                               refine ⟨((Rng.Low (intersected (Rng.mk whole04 whole14) ((restriction (k5 e a0 a1 a2 a3 a4) col).1))), (Rng.High (intersected (Rng.mk whole04 whole14) ((restriction (k5 e a0 a1 a2 a3 a4) col).1))), true), [], by kernel_rfl, by kernel_rfl, ?_, e26394⟩
                               show True
                               exact trivial
                              ·
                               intro h26395
                               have h26395q : ((restriction (k5 e a0 a1 a2 a3 a4) col).2) = false := h26395
                               have e26396 := e26392.trans (Go.Am.bif_f h26395)
                               refine AW.keep (x5 2000 [7006, 7008, 7009]) [12, 20, 24, 32, 36] ⟨(f4 2000 e a0 a1 a2 a3 a4 [(7006, .ref 24 1 0), (7008, .ref 32 1 0), (7009, .ref 36 1 0)]), [bE e, bC col, (24, .box 1 [sI 0, sI 0]), (32, .box 1 [sI whole04, sI whole14]), (36, .box 1 [sB found4])]⟩ (by kernel_rfl) ?_
                               refine AW.skip ?_
                               refine ⟨(whole04, whole14, found4), [], by kernel_rfl, by kernel_rfl, ?_, e26396⟩
                               show True
                               exact trivial
                             ·
                              intro x hR
                              obtain ⟨whole05, whole15, found5⟩ := x
                              obtain ⟨hK5, e26397⟩ := hR
                              replace hK5 : True := hK5
                              have e26398 := e26391.trans (Go.Am.then_eq e26397)
                              refine AWO.run hC6 false [] [] [] (x5 1000 [6006, 6008, 6009]) [12, 20, 24, 32, 36]
                               ⟨(f4 1000 e a0 a1 a2 a3 a4 [(6006, .ref 24 1 0), (6008, .ref 32 1 0), (6009, .ref 36 1 0)]), [bE e, bC col, (24, .box 1 [sI 0, sI 0]), (32, .box 1 [sI whole05, sI whole15]), (36, .box 1 [sB found5])]⟩
                               [] (by rfl) (by kernel_rfl) ?_ ?_
                              ·
                               exact trivial
                              refine AWO.nil ?_
                              refine AW.ret ?_
                              refine ⟨(whole05, whole15, found5), [], by kernel_rfl, by kernel_rfl, ?_, e26398⟩
                              show True
                              exact trivial
                            ·
                             intro h26399
                             have h26399q := (Go.Am.bne_neg h26399)
                             have e26400 := e26389.trans (Go.Am.bif_f h26399)
                             refine AW.keep (0 :: 1 :: x5 1000 [6006, 6008, 6009]) [12, 20, 24, 32, 36] ⟨((0, sR4 (k5 e a0 a1 a2 a3 a4)) :: (1, cl) :: f4 1000 e a0 a1 a2 a3 a4 [(6006, .ref 24 1 0), (6008, .ref 32 1 0), (6009, .ref 36 1 0)]), [bE e, bC col, (24, .box 1 [sI 0, sI 0]), (32, .box 1 [sI whole04, sI whole14]), (36, .box 1 [sB found4])]⟩ (by kernel_rfl) ?_
                             refine AW.skip (AW.seq ?_)
                             refine AW.reg hC6  false [] (x6 0 [6006, 6008, 6009]) [12, 20, 24, 32, 36]
                              ⟨((0, sR4 (k5 e a0 a1 a2 a3 a4)) :: (1, cl) :: (17, sL (k5 e a0 a1 a2 a3 a4)) :: (18, sI 0) :: f4 1000 e a0 a1 a2 a3 a4 [(6006, .ref 24 1 0), (6008, .ref 32 1 0), (6009, .ref 36 1 0)]), [bE e, bC col, (24, .box 1 [sI 0, sI 0]), (32, .box 1 [sI whole04, sI whole14]), (36, .box 1 [sB found4])]⟩
                              [] (by kernel_rfl) ?_ ?_
                             ·
                              exact trivial
                             refine AW.cutQ (α := Int × Int × Bool) (fun x => ⟨(f4 1000 e a0 a1 a2 a3 a4 [(6006, .ref 24 1 0), (6008, .ref 32 1 0), (6009, .ref 36 1 0)]), [bE e, bC col, (24, .box 1 [sI 0, sI 0]), (32, .box 1 [sI x.1, sI x.2.1]), (36, .box 1 [sB x.2.2])]⟩) (fun x => (True) ∧ (iRangeOf_l5 e col a0 a1 a2 a3 a4 ((List.length (Xpr.Kids (k5 e a0 a1 a2 a3 a4))) - 0 + 1) 0 whole04 whole14 found4) = x) ?_ ?_
                             ·
                              skip
                              refine AW.block (AW.loop (α := Nat × Int × Int × Bool) (fun x => ⟨((0, sR4 (k5 e a0 a1 a2 a3 a4)) :: (1, cl) :: (17, sL (k5 e a0 a1 a2 a3 a4)) :: (18, sI ((x.1 : Nat) : Int)) :: f4 1000 e a0 a1 a2 a3 a4 [(6006, .ref 24 1 0), (6008, .ref 32 1 0), (6009, .ref 36 1 0)]), [bE e, bC col, (24, .box 1 [sI 0, sI 0]), (32, .box 1 [sI x.2.1, sI x.2.2.1]), (36, .box 1 [sB x.2.2.2])]⟩) (fun x => (True) ∧ ∃ k, (List.length (Xpr.Kids (k5 e a0 a1 a2 a3 a4))) - x.1 < k ∧ (iRangeOf_l5 e col a0 a1 a2 a3 a4 ((List.length (Xpr.Kids (k5 e a0 a1 a2 a3 a4))) - 0 + 1) 0 whole04 whole14 found4) = iRangeOf_l5 e col a0 a1 a2 a3 a4 k x.1 x.2.1 x.2.2.1 x.2.2.2) (fun x => (List.length (Xpr.Kids (k5 e a0 a1 a2 a3 a4))) - x.1) (0, whole04, whole14, found4) (by kernel_rfl) ⟨?_, _, Nat.lt_succ_self _, rfl⟩ ?_)
                              ·
                               show True
                               exact trivial
                              ·
                               intro x hR
                               obtain ⟨a5, whole05, whole15, found5⟩ := x
                               obtain ⟨hI5, k26403, hk26401, e26402⟩ := hR
                               replace hI5 : True := hI5
                               replace hk26401 : (List.length (Xpr.Kids (k5 e a0 a1 a2 a3 a4))) - a5 < k26403 := hk26401
                               obtain ⟨k26403q, rfl⟩ : ∃ k, k26403 = k + 1 := ⟨k26403 - 1, by omega⟩
                               have hK := hN.kids2
                               refine AW.seq ?_
                               refine AW.reg hC6  false [] (0 :: 1 :: 17 :: 18 :: 19 :: x5 1000 [6006, 6008, 6009]) [12, 20, 24, 32, 36]
                                ⟨((0, sR4 (k5 e a0 a1 a2 a3 a4)) :: (1, cl) :: (17, sL (k5 e a0 a1 a2 a3 a4)) :: (18, sN a5) :: (19, sB (decide (((a5 : Nat) : Int) < ((List.length (Xpr.Kids (k5 e a0 a1 a2 a3 a4)) : Nat) : Int)))) :: f4 1000 e a0 a1 a2 a3 a4 [(6006, .ref 24 1 0), (6008, .ref 32 1 0), (6009, .ref 36 1 0)]), [bE e, bC col, (24, .box 1 [sI 0, sI 0]), (32, .box 1 [sI whole05, sI whole15]), (36, .box 1 [sB found5])]⟩
                                [] (by kernel_rfl) ?_ ?_
                               ·
                                exact trivial
                               refine AW.seq (AW.cd (decide (((a5 : Nat) : Int) < ((List.length (Xpr.Kids (k5 e a0 a1 a2 a3 a4)) : Nat) : Int))) ?_ ?_)
                               ·
                                intro h26404
                                have h26404q := (of_decide_eq_true h26404)
                                have e26405 := e26402.trans (Go.Am.bif_t h26404)
                                refine AW.keep (x6 0 [6006, 6008, 6009]) [12, 20, 24, 32, 36] ⟨(f5 0 e a0 a1 a2 a3 a4 a5 [(6006, .ref 24 1 0), (6008, .ref 32 1 0), (6009, .ref 36 1 0)]), [bE e, bC col, (24, .box 1 [sI 0, sI 0]), (32, .box 1 [sI whole05, sI whole15]), (36, .box 1 [sB found5])]⟩ (by kernel_rfl) ?_
                                refine AW.skip (AW.seq (AW.block (AW.seq ?_)))
                                refine AW.reg hC6  false [] (0 :: 1 :: 4 :: 17 :: 18 :: x5 1000 [6006, 6008, 6009]) [12, 20, 24, 32, 36]
                                 ⟨((0, sR4 (k5 e a0 a1 a2 a3 a4)) :: (1, cl) :: (4, sN a5) :: (17, sL (k5 e a0 a1 a2 a3 a4)) :: (18, sN a5) :: f4 1000 e a0 a1 a2 a3 a4 [(6006, .ref 24 1 0), (6008, .ref 32 1 0), (6009, .ref 36 1 0)]), [bE e, bC col, (24, .box 1 [sI 0, sI 0]), (32, .box 1 [sI whole05, sI whole15]), (36, .box 1 [sB found5])]⟩
                                 [] (by kernel_rfl) ?_ ?_
                                ·
                                 exact trivial
                                have hN : VE width 2 (k6 e a0 a1 a2 a3 a4 a5) := hN.kd (Int.ofNat_lt.1 h26404q)
                                refine AW.regionO [0, 1, 2, 3, 4, 5, 6, 7] (by rfl) ?_
                                refine AWO.run hC6 false [] [0, 1, 2, 3, 4, 5, 6] [7] (0 :: 1 :: 17 :: 18 :: 26 :: 27 :: x5 1000 [6006, 6008, 6009]) [12, 20, 24, 32, 36]
                                 ⟨((0, sR4 (k5 e a0 a1 a2 a3 a4)) :: (1, cl) :: (17, sL (k5 e a0 a1 a2 a3 a4)) :: (18, sN a5) :: (26, sR4 (k6 e a0 a1 a2 a3 a4 a5)) :: (27, cl) :: f4 1000 e a0 a1 a2 a3 a4 [(6006, .ref 24 1 0), (6008, .ref 32 1 0), (6009, .ref 36 1 0)]), [bE e, bC col, (24, .box 1 [sI 0, sI 0]), (32, .box 1 [sI whole05, sI whole15]), (36, .box 1 [sB found5])]⟩
                                 [IX ((a5 : Nat) : Int) ((List.length (Xpr.Kids (k5 e a0 a1 a2 a3 a4)) : Nat) : Int)] (by rfl) (by kernel_rfl) ?_ ?_
                                ·
                                 refine ⟨?_, trivial⟩
                                 ·
                                  refine IX.of ?_
                                  omega
                                refine AWO.callJ hC6.ty (x6 0 [6006, 6008, 6009]) [12, 20, 24, 32, 36] (α := Int × Int × Bool) (fun x => ⟨(f5 0 e a0 a1 a2 a3 a4 a5 [(6006, .ref 24 1 0), (6008, .ref 32 1 0), (6009, .ref 36 1 0)]), [bE e, bC col, (24, .box 1 [sI 0, sI 0]), (32, .box 1 [sI x.1, sI x.2.1]), (36, .box 1 [sB x.2.2])]⟩) (fun x => (True) ∧ (iRangeOf_c10 e col a0 a1 a2 a3 a4 a5 whole05 whole15 found5) = x) (vs := [sR4 (k6 e a0 a1 a2 a3 a4 a5), cl]) (caps := []) (by rfl) rfl (.inl rfl) (by decide) (by kernel_rfl) (by kernel_rfl) Try.func24 (by kernel_rfl) rfl (by kernel_rfl) ?_ ?_
                                ·
                                 intro o7
                                 have e26406 : (iRangeOf_c10 e col a0 a1 a2 a3 a4 a5 whole05 whole15 found5) = (iRangeOf_c10 e col a0 a1 a2 a3 a4 a5 whole05 whole15 found5) := rfl
                                 refine AW.keep (0 :: 1 :: x6 1000 [7006, 7008, 7009]) [12, 20, 24, 32, 36] ⟨((0, sR4 (k6 e a0 a1 a2 a3 a4 a5)) :: (1, cl) :: f5 1000 e a0 a1 a2 a3 a4 a5 [(7006, .ref 24 1 0), (7008, .ref 32 1 0), (7009, .ref 36 1 0)]), [bE e, bC col, (24, .box 1 [sI 0, sI 0]), (32, .box 1 [sI whole05, sI whole15]), (36, .box 1 [sB found5])]⟩ (by kernel_rfl) ?_
                                 refine AW.seq (AW.seq ?_)
                                 refine AW.reg hC7  false [] (0 :: 1 :: 9 :: x6 1000 [7006, 7008, 7009]) [12, 20, 24, 32, 36]
                                  ⟨((0, sR4 (k6 e a0 a1 a2 a3 a4 a5)) :: (1, cl) :: (9, sB ((Xpr.Kind (k6 e a0 a1 a2 a3 a4 a5)) != 8)) :: f5 1000 e a0 a1 a2 a3 a4 a5 [(7006, .ref 24 1 0), (7008, .ref 32 1 0), (7009, .ref 36 1 0)]), [bE e, bC col, (24, .box 1 [sI 0, sI 0]), (32, .box 1 [sI whole05, sI whole15]), (36, .box 1 [sB found5])]⟩
                                  [] (by kernel_rfl) ?_ ?_
                                 ·
                                  exact trivial
                                 refine AW.cd ((Xpr.Kind (k6 e a0 a1 a2 a3 a4 a5)) != 8) ?_ ?_
                                 ·
                                  intro h26407
                                  have h26407q := (Go.Am.bne_pos h26407)
                                  have e26408 := e26406.trans (Go.Am.bif_t h26407)
                                  refine AW.seq (AW.regionO [0, 1, 2] (by rfl) ?_)
                                  refine AWO.run hC7 false [] [0, 1] [2] (10 :: 11 :: x6 1000 [7006, 7008, 7009]) [12, 20, 24, 32, 36]
                                   ⟨((10, cl) :: (11, sR4 (k6 e a0 a1 a2 a3 a4 a5)) :: f5 1000 e a0 a1 a2 a3 a4 a5 [(7006, .ref 24 1 0), (7008, .ref 32 1 0), (7009, .ref 36 1 0)]), [bE e, bC col, (24, .box 1 [sI 0, sI 0]), (32, .box 1 [sI whole05, sI whole15]), (36, .box 1 [sB found5])]⟩
                                   [] (by rfl) (by kernel_rfl) ?_ ?_
                                  ·
                                   exact trivial
                                  refine AWO.callJ hC7.ty (x6 1000 [7006, 7008, 7009]) [12, 20, 24, 32, 36] (α := Int × Int × Bool) (fun x => ⟨(f5 1000 e a0 a1 a2 a3 a4 a5 [(7006, .ref 24 1 0), (7008, .ref 32 1 0), (7009, .ref 36 1 0)]), [bE e, bC col, (24, .box 1 [sI 0, sI 0]), (32, .box 1 [sI x.1, sI x.2.1]), (36, .box 1 [sB x.2.2])]⟩) (fun x => (True) ∧ (iRangeOf_c6 e col a0 a1 a2 a3 a4 a5 whole05 whole15 found5) = x) (vs := [sR4 (k6 e a0 a1 a2 a3 a4 a5)]) (caps := [.ref 20 1 0, .ref 32 1 0, .ref 36 1 0]) (by rfl) rfl (.inl rfl) (by decide) (by kernel_rfl) (by kernel_rfl) Try.func25 (by kernel_rfl) rfl (by kernel_rfl) ?_ ?_
                                  ·
                                   intro o8
                                   have e26409 : (iRangeOf_c6 e col a0 a1 a2 a3 a4 a5 whole05 whole15 found5) = (iRangeOf_c6 e col a0 a1 a2 a3 a4 a5 whole05 whole15 found5) := rfl
                                   refine AW.keep (0 :: 1 :: 2 :: 3 :: x6 2000 [8006, 8008, 8009]) [12, 20, 24, 32, 36] ⟨((0, sR4 (k6 e a0 a1 a2 a3 a4 a5)) :: (1, .ref 20 1 0) :: (2, .ref 32 1 0) :: (3, .ref 36 1 0) :: f5 2000 e a0 a1 a2 a3 a4 a5 [(8006, .ref 24 1 0), (8008, .ref 32 1 0), (8009, .ref 36 1 0)]), [bE e, bC col, (24, .box 1 [sI 0, sI 0]), (32, .box 1 [sI whole05, sI whole15]), (36, .box 1 [sB found5])]⟩ (by kernel_rfl) ?_
                                   refine AW.seq ?_
                                   refine AW.reg hC8  false [] (2 :: 3 :: 5 :: 6 :: x6 2000 [8006, 8008, 8009]) [12, 20, 24, 32, 36, 32020]
                                    ⟨((2, .ref 32 1 0) :: (3, .ref 36 1 0) :: (5, .ref 32020 1 0) :: (6, sB ((restriction (k6 e a0 a1 a2 a3 a4 a5) col).2)) :: f5 2000 e a0 a1 a2 a3 a4 a5 [(8006, .ref 24 1 0), (8008, .ref 32 1 0), (8009, .ref 36 1 0)]), [bE e, bC col, (24, .box 1 [sI 0, sI 0]), (32, .box 1 [sI whole05, sI whole15]), (36, .box 1 [sB found5]), (32020, .box 1 [sI (Rng.Low ((restriction (k6 e a0 a1 a2 a3 a4 a5) col).1)), sI (Rng.High ((restriction (k6 e a0 a1 a2 a3 a4 a5) col).1))])]⟩
                                    [(∃ w, VL w (k6 e a0 a1 a2 a3 a4 a5))] (by kernel_rfl) ?_ ?_
                                   ·
                                    refine ⟨?_, trivial⟩
                                    ·
                                     exact ⟨width, ⟨_, by omega, hN⟩⟩
                                   refine AW.seq ?_
                                   refine AW.reg hC8  false [] (2 :: 3 :: 5 :: 13 :: x6 2000 [8006, 8008, 8009]) [12, 20, 24, 32, 36, 32020]
                                    ⟨((2, .ref 32 1 0) :: (3, .ref 36 1 0) :: (5, .ref 32020 1 0) :: (13, sB ((restriction (k6 e a0 a1 a2 a3 a4 a5) col).2)) :: f5 2000 e a0 a1 a2 a3 a4 a5 [(8006, .ref 24 1 0), (8008, .ref 32 1 0), (8009, .ref 36 1 0)]), [bE e, bC col, (24, .box 1 [sI 0, sI 0]), (32, .box 1 [sI whole05, sI whole15]), (36, .box 1 [sB found5]), (32020, .box 1 [sI (Rng.Low ((restriction (k6 e a0 a1 a2 a3 a4 a5) col).1)), sI (Rng.High ((restriction (k6 e a0 a1 a2 a3 a4 a5) col).1))])]⟩
                                    [] (by kernel_rfl) ?_ ?_
                                   ·
                                    exact trivial
                                   refine AW.cd ((restriction (k6 e a0 a1 a2 a3 a4 a5) col).2) ?_ ?_
                                   ·
                                    intro h26410
                                    have h26410q : ((restriction (k6 e a0 a1 a2 a3 a4 a5) col).2) = true := h26410
                                    have e26411 := e26409.trans (Go.Am.bif_t h26410)
                                    refine AW.seq ?_
                                    refine AW.reg hC8  false [] (3 :: x6 2000 [8006, 8008, 8009]) [12, 20, 24, 32, 36]
                                     ⟨((3, .ref 36 1 0) :: f5 2000 e a0 a1 a2 a3 a4 a5 [(8006, .ref 24 1 0), (8008, .ref 32 1 0), (8009, .ref 36 1 0)]), [bE e, bC col, (24, .box 1 [sI 0, sI 0]), (32, .box 1 [sI (Rng.Low (intersected (Rng.mk whole05 whole15) ((restriction (k6 e a0 a1 a2 a3 a4 a5) col).1))), sI (Rng.High (intersected (Rng.mk whole05 whole15) ((restriction (k6 e a0 a1 a2 a3 a4 a5) col).1)))]), (36, .box 1 [sB found5])]⟩
                                     [(True)] (by kernel_rfl) ?_ ?_
                                    ·
                                     refine ⟨?_, trivial⟩
                                     ·
                                      trivial
                                    refine AW.reg hC8  false [] (x6 2000 [8006, 8008, 8009]) [12, 20, 24, 32, 36]
                                     ⟨(f5 2000 e a0 a1 a2 a3 a4 a5 [(8006, .ref 24 1 0), (8008, .ref 32 1 0), (8009, .ref 36 1 0)]), [bE e, bC col, (24, .box 1 [sI 0, sI 0]), (32, .box 1 [sI (Rng.Low (intersected (Rng.mk whole05 whole15) ((restriction (k6 e a0 a1 a2 a3 a4 a5) col).1))), sI (Rng.High (intersected (Rng.mk whole05 whole15) ((restriction (k6 e a0 a1 a2 a3 a4 a5) col).1)))]), (36, .box 1 [sB true])]⟩
                                     [] (by kernel_rfl) ?_ ?_
                                    ·
                                     exact trivial
                                    refine ⟨((Rng.Low (intersected (Rng.mk whole05 whole15) ((restriction (k6 e a0 a1 a2 a3 a4 a5) col).1))), (Rng.High (intersected (Rng.mk whole05 whole15) ((restriction (k6 e a0 a1 a2 a3 a4 a5) col).1))), true), [], by kernel_rfl, by kernel_rfl, ?_, e26411⟩
                                    show True
                                    exact trivial
                                   ·
                                    intro h26412
                                    have h26412q : ((restriction (k6 e a0 a1 a2 a3 a4 a5) col).2) = false := h26412
                                    have e26413 := e26409.trans (Go.Am.bif_f h26412)
                                    refine AW.keep (x6 2000 [8006, 8008, 8009]) [12, 20, 24, 32, 36] ⟨(f5 2000 e a0 a1 a2 a3 a4 a5 [(8006, .ref 24 1 0), (8008, .ref 32 1 0), (8009, .ref 36 1 0)]), [bE e, bC col, (24, .box 1 [sI 0, sI 0]), (32, .box 1 [sI whole05, sI whole15]), (36, .box 1 [sB found5])]⟩ (by kernel_rfl) ?_
                                    refine AW.skip ?_
                                    refine ⟨(whole05, whole15, found5), [], by kernel_rfl, by kernel_rfl, ?_, e26413⟩
                                    show True
                                    exact trivial
                                  ·
                                   intro x hR
                                   obtain ⟨whole06, whole16, found6⟩ := x
                                   obtain ⟨hK6, e26414⟩ := hR
                                   replace hK6 : True := hK6
                                   have e26415 := e26408.trans (Go.Am.then_eq e26414)
                                   refine AWO.run hC7 false [] [] [] (x6 1000 [7006, 7008, 7009]) [12, 20, 24, 32, 36]
                                    ⟨(f5 1000 e a0 a1 a2 a3 a4 a5 [(7006, .ref 24 1 0), (7008, .ref 32 1 0), (7009, .ref 36 1 0)]), [bE e, bC col, (24, .box 1 [sI 0, sI 0]), (32, .box 1 [sI whole06, sI whole16]), (36, .box 1 [sB found6])]⟩
                                    [] (by rfl) (by kernel_rfl) ?_ ?_
                                   ·
                                    exact trivial
                                   refine AWO.nil ?_
                                   refine AW.ret ?_
                                   refine ⟨(whole06, whole16, found6), [], by kernel_rfl, by kernel_rfl, ?_, e26415⟩
                                   show True
                                   exact trivial
                                 ·
                                  intro h26416
                                  have h26416q := (Go.Am.bne_neg h26416)
                                  have e26417 := e26406.trans (Go.Am.bif_f h26416)
                                  refine AW.keep (0 :: 1 :: x6 1000 [7006, 7008, 7009]) [12, 20, 24, 32, 36] ⟨((0, sR4 (k6 e a0 a1 a2 a3 a4 a5)) :: (1, cl) :: f5 1000 e a0 a1 a2 a3 a4 a5 [(7006, .ref 24 1 0), (7008, .ref 32 1 0), (7009, .ref 36 1 0)]), [bE e, bC col, (24, .box 1 [sI 0, sI 0]), (32, .box 1 [sI whole05, sI whole15]), (36, .box 1 [sB found5])]⟩ (by kernel_rfl) ?_
                                  refine AW.skip (AW.seq ?_)
                                  refine AW.reg hC7  false [] (x7 0 [7006, 7008, 7009]) [12, 20, 24, 32, 36]
                                   ⟨((0, sR4 (k6 e a0 a1 a2 a3 a4 a5)) :: (1, cl) :: (17, sL (k6 e a0 a1 a2 a3 a4 a5)) :: (18, sI 0) :: f5 1000 e a0 a1 a2 a3 a4 a5 [(7006, .ref 24 1 0), (7008, .ref 32 1 0), (7009, .ref 36 1 0)]), [bE e, bC col, (24, .box 1 [sI 0, sI 0]), (32, .box 1 [sI whole05, sI whole15]), (36, .box 1 [sB found5])]⟩
                                   [] (by kernel_rfl) ?_ ?_
                                  ·
                                   exact trivial
                                  refine AW.cutQ (α := Int × Int × Bool) (fun x => ⟨(f5 1000 e a0 a1 a2 a3 a4 a5 [(7006, .ref 24 1 0), (7008, .ref 32 1 0), (7009, .ref 36 1 0)]), [bE e, bC col, (24, .box 1 [sI 0, sI 0]), (32, .box 1 [sI x.1, sI x.2.1]), (36, .box 1 [sB x.2.2])]⟩) (fun x => (True) ∧ (iRangeOf_l6 e col a0 a1 a2 a3 a4 a5 ((List.length (Xpr.Kids (k6 e a0 a1 a2 a3 a4 a5))) - 0 + 1) 0 whole05 whole15 found5) = x) ?_ ?_
                                  ·
                                   skip
                                   refine AW.block (AW.loop (α := Nat × Int × Int × Bool) (fun x => ⟨((0, sR4 (k6 e a0 a1 a2 a3 a4 a5)) :: (1, cl) :: (17, sL (k6 e a0 a1 a2 a3 a4 a5)) :: (18, sI ((x.1 : Nat) : Int)) :: f5 1000 e a0 a1 a2 a3 a4 a5 [(7006, .ref 24 1 0), (7008, .ref 32 1 0), (7009, .ref 36 1 0)]), [bE e, bC col, (24, .box 1 [sI 0, sI 0]), (32, .box 1 [sI x.2.1, sI x.2.2.1]), (36, .box 1 [sB x.2.2.2])]⟩) (fun x => (True) ∧ ∃ k, (List.length (Xpr.Kids (k6 e a0 a1 a2 a3 a4 a5))) - x.1 < k ∧ (iRangeOf_l6 e col a0 a1 a2 a3 a4 a5 ((List.length (Xpr.Kids (k6 e a0 a1 a2 a3 a4 a5))) - 0 + 1) 0 whole05 whole15 found5) = iRangeOf_l6 e col a0 a1 a2 a3 a4 a5 k x.1 x.2.1 x.2.2.1 x.2.2.2) (fun x => (List.length (Xpr.Kids (k6 e a0 a1 a2 a3 a4 a5))) - x.1) (0, whole05, whole15, found5) (by kernel_rfl) ⟨?_, _, Nat.lt_succ_self _, rfl⟩ ?_)
                                   ·
                                    show True
                                    exact trivial
                                   ·
                                    intro x hR
                                    obtain ⟨a6, whole06, whole16, found6⟩ := x
                                    obtain ⟨hI6, k26420, hk26418, e26419⟩ := hR
                                    replace hI6 : True := hI6
                                    replace hk26418 : (List.length (Xpr.Kids (k6 e a0 a1 a2 a3 a4 a5))) - a6 < k26420 := hk26418
                                    obtain ⟨k26420q, rfl⟩ : ∃ k, k26420 = k + 1 := ⟨k26420 - 1, by omega⟩
                                    have hK := hN.kids2
                                    refine AW.seq ?_
                                    refine AW.reg hC7  false [] (0 :: 1 :: 17 :: 18 :: 19 :: x6 1000 [7006, 7008, 7009]) [12, 20, 24, 32, 36]
                                     ⟨((0, sR4 (k6 e a0 a1 a2 a3 a4 a5)) :: (1, cl) :: (17, sL (k6 e a0 a1 a2 a3 a4 a5)) :: (18, sN a6) :: (19, sB (decide (((a6 : Nat) : Int) < ((List.length (Xpr.Kids (k6 e a0 a1 a2 a3 a4 a5)) : Nat) : Int)))) :: f5 1000 e a0 a1 a2 a3 a4 a5 [(7006, .ref 24 1 0), (7008, .ref 32 1 0), (7009, .ref 36 1 0)]), [bE e, bC col, (24, .box 1 [sI 0, sI 0]), (32, .box 1 [sI whole06, sI whole16]), (36, .box 1 [sB found6])]⟩
                                     [] (by kernel_rfl) ?_ ?_
                                    ·
                                     exact trivial
                                    refine AW.seq (AW.cd (decide (((a6 : Nat) : Int) < ((List.length (Xpr.Kids (k6 e a0 a1 a2 a3 a4 a5)) : Nat) : Int))) ?_ ?_)
                                    ·
                                     intro h26421
                                     have h26421q := (of_decide_eq_true h26421)
                                     have e26422 := e26419.trans (Go.Am.bif_t h26421)
                                     refine AW.keep (x7 0 [7006, 7008, 7009]) [12, 20, 24, 32, 36] ⟨(f6 0 e a0 a1 a2 a3 a4 a5 a6 [(7006, .ref 24 1 0), (7008, .ref 32 1 0), (7009, .ref 36 1 0)]), [bE e, bC col, (24, .box 1 [sI 0, sI 0]), (32, .box 1 [sI whole06, sI whole16]), (36, .box 1 [sB found6])]⟩ (by kernel_rfl) ?_
                                     refine AW.skip (AW.seq (AW.block (AW.seq ?_)))
                                     refine AW.reg hC7  false [] (0 :: 1 :: 4 :: 17 :: 18 :: x6 1000 [7006, 7008, 7009]) [12, 20, 24, 32, 36]
                                      ⟨((0, sR4 (k6 e a0 a1 a2 a3 a4 a5)) :: (1, cl) :: (4, sN a6) :: (17, sL (k6 e a0 a1 a2 a3 a4 a5)) :: (18, sN a6) :: f5 1000 e a0 a1 a2 a3 a4 a5 [(7006, .ref 24 1 0), (7008, .ref 32 1 0), (7009, .ref 36 1 0)]), [bE e, bC col, (24, .box 1 [sI 0, sI 0]), (32, .box 1 [sI whole06, sI whole16]), (36, .box 1 [sB found6])]⟩
                                      [] (by kernel_rfl) ?_ ?_
                                     ·
                                      exact trivial
                                     have hN : VE width 1 (k7 e a0 a1 a2 a3 a4 a5 a6) := hN.kd (Int.ofNat_lt.1 h26421q)
                                     refine AW.regionO [0, 1, 2, 3, 4, 5, 6, 7] (by rfl) ?_
                                     refine AWO.run hC7 false [] [0, 1, 2, 3, 4, 5, 6] [7] (0 :: 1 :: 17 :: 18 :: 26 :: 27 :: x6 1000 [7006, 7008, 7009]) [12, 20, 24, 32, 36]
                                      ⟨((0, sR4 (k6 e a0 a1 a2 a3 a4 a5)) :: (1, cl) :: (17, sL (k6 e a0 a1 a2 a3 a4 a5)) :: (18, sN a6) :: (26, sR4 (k7 e a0 a1 a2 a3 a4 a5 a6)) :: (27, cl) :: f5 1000 e a0 a1 a2 a3 a4 a5 [(7006, .ref 24 1 0), (7008, .ref 32 1 0), (7009, .ref 36 1 0)]), [bE e, bC col, (24, .box 1 [sI 0, sI 0]), (32, .box 1 [sI whole06, sI whole16]), (36, .box 1 [sB found6])]⟩
                                      [IX ((a6 : Nat) : Int) ((List.length (Xpr.Kids (k6 e a0 a1 a2 a3 a4 a5)) : Nat) : Int)] (by rfl) (by kernel_rfl) ?_ ?_
                                     ·
                                      refine ⟨?_, trivial⟩
                                      ·
                                       refine IX.of ?_
                                       omega
                                     refine AWO.callJ hC7.ty (x7 0 [7006, 7008, 7009]) [12, 20, 24, 32, 36] (α := Int × Int × Bool) (fun x => ⟨(f6 0 e a0 a1 a2 a3 a4 a5 a6 [(7006, .ref 24 1 0), (7008, .ref 32 1 0), (7009, .ref 36 1 0)]), [bE e, bC col, (24, .box 1 [sI 0, sI 0]), (32, .box 1 [sI x.1, sI x.2.1]), (36, .box 1 [sB x.2.2])]⟩) (fun x => (True) ∧ (iRangeOf_c9 e col a0 a1 a2 a3 a4 a5 a6 whole06 whole16 found6) = x) (vs := [sR4 (k7 e a0 a1 a2 a3 a4 a5 a6), cl]) (caps := []) (by rfl) rfl (.inl rfl) (by decide) (by kernel_rfl) (by kernel_rfl) Try.func24 (by kernel_rfl) rfl (by kernel_rfl) ?_ ?_
                                     ·
                                      intro o8
                                      have e26423 : (iRangeOf_c9 e col a0 a1 a2 a3 a4 a5 a6 whole06 whole16 found6) = (iRangeOf_c9 e col a0 a1 a2 a3 a4 a5 a6 whole06 whole16 found6) := rfl
                                      refine AW.keep (0 :: 1 :: x7 1000 [8006, 8008, 8009]) [12, 20, 24, 32, 36] ⟨((0, sR4 (k7 e a0 a1 a2 a3 a4 a5 a6)) :: (1, cl) :: f6 1000 e a0 a1 a2 a3 a4 a5 a6 [(8006, .ref 24 1 0), (8008, .ref 32 1 0), (8009, .ref 36 1 0)]), [bE e, bC col, (24, .box 1 [sI 0, sI 0]), (32, .box 1 [sI whole06, sI whole16]), (36, .box 1 [sB found6])]⟩ (by kernel_rfl) ?_
                                      refine AW.seq (AW.seq ?_)
                                      refine AW.reg hC8  false [] (0 :: 1 :: 9 :: x7 1000 [8006, 8008, 8009]) [12, 20, 24, 32, 36]
                                       ⟨((0, sR4 (k7 e a0 a1 a2 a3 a4 a5 a6)) :: (1, cl) :: (9, sB ((Xpr.Kind (k7 e a0 a1 a2 a3 a4 a5 a6)) != 8)) :: f6 1000 e a0 a1 a2 a3 a4 a5 a6 [(8006, .ref 24 1 0), (8008, .ref 32 1 0), (8009, .ref 36 1 0)]), [bE e, bC col, (24, .box 1 [sI 0, sI 0]), (32, .box 1 [sI whole06, sI whole16]), (36, .box 1 [sB found6])]⟩
                                       [] (by kernel_rfl) ?_ ?_
                                      ·
                                       exact trivial
                                      refine AW.cd ((Xpr.Kind (k7 e a0 a1 a2 a3 a4 a5 a6)) != 8) ?_ ?_
                                      ·
                                       intro h26424
                                       have h26424q := (Go.Am.bne_pos h26424)
                                       have e26425 := e26423.trans (Go.Am.bif_t h26424)
                                       refine AW.seq (AW.regionO [0, 1, 2] (by rfl) ?_)
                                       refine AWO.run hC8 false [] [0, 1] [2] (10 :: 11 :: x7 1000 [8006, 8008, 8009]) [12, 20, 24, 32, 36]
                                        ⟨((10, cl) :: (11, sR4 (k7 e a0 a1 a2 a3 a4 a5 a6)) :: f6 1000 e a0 a1 a2 a3 a4 a5 a6 [(8006, .ref 24 1 0), (8008, .ref 32 1 0), (8009, .ref 36 1 0)]), [bE e, bC col, (24, .box 1 [sI 0, sI 0]), (32, .box 1 [sI whole06, sI whole16]), (36, .box 1 [sB found6])]⟩
                                        [] (by rfl) (by kernel_rfl) ?_ ?_
                                       ·
                                        exact trivial
                                       refine AWO.callJ hC8.ty (x7 1000 [8006, 8008, 8009]) [12, 20, 24, 32, 36] (α := Int × Int × Bool) (fun x => ⟨(f6 1000 e a0 a1 a2 a3 a4 a5 a6 [(8006, .ref 24 1 0), (8008, .ref 32 1 0), (8009, .ref 36 1 0)]), [bE e, bC col, (24, .box 1 [sI 0, sI 0]), (32, .box 1 [sI x.1, sI x.2.1]), (36, .box 1 [sB x.2.2])]⟩) (fun x => (True) ∧ (iRangeOf_c7 e col a0 a1 a2 a3 a4 a5 a6 whole06 whole16 found6) = x) (vs := [sR4 (k7 e a0 a1 a2 a3 a4 a5 a6)]) (caps := [.ref 20 1 0, .ref 32 1 0, .ref 36 1 0]) (by rfl) rfl (.inl rfl) (by decide) (by kernel_rfl) (by kernel_rfl) Try.func25 (by kernel_rfl) rfl (by kernel_rfl) ?_ ?_
                                       ·
                                        intro o9
                                        have e26426 : (iRangeOf_c7 e col a0 a1 a2 a3 a4 a5 a6 whole06 whole16 found6) = (iRangeOf_c7 e col a0 a1 a2 a3 a4 a5 a6 whole06 whole16 found6) := rfl
                                        refine AW.keep (0 :: 1 :: 2 :: 3 :: x7 2000 [9006, 9008, 9009]) [12, 20, 24, 32, 36] ⟨((0, sR4 (k7 e a0 a1 a2 a3 a4 a5 a6)) :: (1, .ref 20 1 0) :: (2, .ref 32 1 0) :: (3, .ref 36 1 0) :: f6 2000 e a0 a1 a2 a3 a4 a5 a6 [(9006, .ref 24 1 0), (9008, .ref 32 1 0), (9009, .ref 36 1 0)]), [bE e, bC col, (24, .box 1 [sI 0, sI 0]), (32, .box 1 [sI whole06, sI whole16]), (36, .box 1 [sB found6])]⟩ (by kernel_rfl) ?_
                                        refine AW.seq ?_
                                        refine AW.reg hC9  false [] (2 :: 3 :: 5 :: 6 :: x7 2000 [9006, 9008, 9009]) [12, 20, 24, 32, 36, 36020]
                                         ⟨((2, .ref 32 1 0) :: (3, .ref 36 1 0) :: (5, .ref 36020 1 0) :: (6, sB ((restriction (k7 e a0 a1 a2 a3 a4 a5 a6) col).2)) :: f6 2000 e a0 a1 a2 a3 a4 a5 a6 [(9006, .ref 24 1 0), (9008, .ref 32 1 0), (9009, .ref 36 1 0)]), [bE e, bC col, (24, .box 1 [sI 0, sI 0]), (32, .box 1 [sI whole06, sI whole16]), (36, .box 1 [sB found6]), (36020, .box 1 [sI (Rng.Low ((restriction (k7 e a0 a1 a2 a3 a4 a5 a6) col).1)), sI (Rng.High ((restriction (k7 e a0 a1 a2 a3 a4 a5 a6) col).1))])]⟩
                                         [(∃ w, VL w (k7 e a0 a1 a2 a3 a4 a5 a6))] (by kernel_rfl) ?_ ?_
                                        ·
                                         refine ⟨?_, trivial⟩
                                         ·
                                          exact ⟨width, ⟨_, by omega, hN⟩⟩
                                        refine AW.seq ?_
                                        refine AW.reg hC9  false [] (2 :: 3 :: 5 :: 13 :: x7 2000 [9006, 9008, 9009]) [12, 20, 24, 32, 36, 36020]
                                         ⟨((2, .ref 32 1 0) :: (3, .ref 36 1 0) :: (5, .ref 36020 1 0) :: (13, sB ((restriction (k7 e a0 a1 a2 a3 a4 a5 a6) col).2)) :: f6 2000 e a0 a1 a2 a3 a4 a5 a6 [(9006, .ref 24 1 0), (9008, .ref 32 1 0), (9009, .ref 36 1 0)]), [bE e, bC col, (24, .box 1 [sI 0, sI 0]), (32, .box 1 [sI whole06, sI whole16]), (36, .box 1 [sB found6]), (36020, .box 1 [sI (Rng.Low ((restriction (k7 e a0 a1 a2 a3 a4 a5 a6) col).1)), sI (Rng.High ((restriction (k7 e a0 a1 a2 a3 a4 a5 a6) col).1))])]⟩
                                         [] (by kernel_rfl) ?_ ?_
                                        ·
                                         exact trivial
                                        refine AW.cd ((restriction (k7 e a0 a1 a2 a3 a4 a5 a6) col).2) ?_ ?_
                                        ·
                                         intro h26427
                                         have h26427q : ((restriction (k7 e a0 a1 a2 a3 a4 a5 a6) col).2) = true := h26427
                                         have e26428 := e26426.trans (Go.Am.bif_t h26427)
                                         refine AW.seq ?_
                                         refine AW.reg hC9  false [] (3 :: x7 2000 [9006, 9008, 9009]) [12, 20, 24, 32, 36]
                                          ⟨((3, .ref 36 1 0) :: f6 2000 e a0 a1 a2 a3 a4 a5 a6 [(9006, .ref 24 1 0), (9008, .ref 32 1 0), (9009, .ref 36 1 0)]), [bE e, bC col, (24, .box 1 [sI 0, sI 0]), (32, .box 1 [sI (Rng.Low (intersected (Rng.mk whole06 whole16) ((restriction (k7 e a0 a1 a2 a3 a4 a5 a6) col).1))), sI (Rng.High (intersected (Rng.mk whole06 whole16) ((restriction (k7 e a0 a1 a2 a3 a4 a5 a6) col).1)))]), (36, .box 1 [sB found6])]⟩
                                          [(True)] (by kernel_rfl) ?_ ?_
                                         ·
                                          refine ⟨?_, trivial⟩
                                          ·
                                           trivial
                                         refine AW.reg hC9  false [] (x7 2000 [9006, 9008, 9009]) [12, 20, 24, 32, 36]
                                          ⟨(f6 2000 e a0 a1 a2 a3 a4 a5 a6 [(9006, .ref 24 1 0), (9008, .ref 32 1 0), (9009, .ref 36 1 0)]), [bE e, bC col, (24, .box 1 [sI 0, sI 0]), (32, .box 1 [sI (Rng.Low (intersected (Rng.mk whole06 whole16) ((restriction (k7 e a0 a1 a2 a3 a4 a5 a6) col).1))), sI (Rng.High (intersected (Rng.mk whole06 whole16) ((restriction (k7 e a0 a1 a2 a3 a4 a5 a6) col).1)))]), (36, .box 1 [sB true])]⟩
                                          [] (by kernel_rfl) ?_ ?_
                                         ·
                                          exact trivial
                                         refine ⟨((Rng.Low (intersected (Rng.mk whole06 whole16) ((restriction (k7 e a0 a1 a2 a3 a4 a5 a6) col).1))), (Rng.High (intersected (Rng.mk whole06 whole16) ((restriction (k7 e a0 a1 a2 a3 a4 a5 a6) col).1))), true), [], by kernel_rfl, by kernel_rfl, ?_, e26428⟩
                                         show True
                                         exact trivial
                                        ·
                                         intro h26429
                                         have h26429q : ((restriction (k7 e a0 a1 a2 a3 a4 a5 a6) col).2) = false := h26429
                                         have e26430 := e26426.trans (Go.Am.bif_f h26429)
                                         refine AW.keep (x7 2000 [9006, 9008, 9009]) [12, 20, 24, 32, 36] ⟨(f6 2000 e a0 a1 a2 a3 a4 a5 a6 [(9006, .ref 24 1 0), (9008, .ref 32 1 0), (9009, .ref 36 1 0)]), [bE e, bC col, (24, .box 1 [sI 0, sI 0]), (32, .box 1 [sI whole06, sI whole16]), (36, .box 1 [sB found6])]⟩ (by kernel_rfl) ?_
                                         refine AW.skip ?_
                                         refine ⟨(whole06, whole16, found6), [], by kernel_rfl, by kernel_rfl, ?_, e26430⟩
                                         show True
                                         exact trivial
                                       ·
                                        intro x hR
                                        obtain ⟨whole07, whole17, found7⟩ := x
                                        obtain ⟨hK7, e26431⟩ := hR
                                        replace hK7 : True := hK7
                                        have e26432 := e26425.trans (Go.Am.then_eq e26431)
                                        refine AWO.run hC8 false [] [] [] (x7 1000 [8006, 8008, 8009]) [12, 20, 24, 32, 36]
                                         ⟨(f6 1000 e a0 a1 a2 a3 a4 a5 a6 [(8006, .ref 24 1 0), (8008, .ref 32 1 0), (8009, .ref 36 1 0)]), [bE e, bC col, (24, .box 1 [sI 0, sI 0]), (32, .box 1 [sI whole07, sI whole17]), (36, .box 1 [sB found7])]⟩
                                         [] (by rfl) (by kernel_rfl) ?_ ?_
                                        ·
                                         exact trivial
                                        refine AWO.nil ?_
                                        refine AW.ret ?_
                                        refine ⟨(whole07, whole17, found7), [], by kernel_rfl, by kernel_rfl, ?_, e26432⟩
                                        show True
                                        exact trivial
                                      ·
                                       intro h26433
                                       have h26433q := (Go.Am.bne_neg h26433)
                                       have e26434 := e26423.trans (Go.Am.bif_f h26433)
                                       refine AW.keep (0 :: 1 :: x7 1000 [8006, 8008, 8009]) [12, 20, 24, 32, 36] ⟨((0, sR4 (k7 e a0 a1 a2 a3 a4 a5 a6)) :: (1, cl) :: f6 1000 e a0 a1 a2 a3 a4 a5 a6 [(8006, .ref 24 1 0), (8008, .ref 32 1 0), (8009, .ref 36 1 0)]), [bE e, bC col, (24, .box 1 [sI 0, sI 0]), (32, .box 1 [sI whole06, sI whole16]), (36, .box 1 [sB found6])]⟩ (by kernel_rfl) ?_
                                       refine AW.skip (AW.seq ?_)
                                       refine AW.reg hC8  false [] (x8 0 [8006, 8008, 8009]) [12, 20, 24, 32, 36]
                                        ⟨((0, sR4 (k7 e a0 a1 a2 a3 a4 a5 a6)) :: (1, cl) :: (17, sL (k7 e a0 a1 a2 a3 a4 a5 a6)) :: (18, sI 0) :: f6 1000 e a0 a1 a2 a3 a4 a5 a6 [(8006, .ref 24 1 0), (8008, .ref 32 1 0), (8009, .ref 36 1 0)]), [bE e, bC col, (24, .box 1 [sI 0, sI 0]), (32, .box 1 [sI whole06, sI whole16]), (36, .box 1 [sB found6])]⟩
                                        [] (by kernel_rfl) ?_ ?_
                                       ·
                                        exact trivial
                                       refine AW.cutQ (α := Int × Int × Bool) (fun x => ⟨(f6 1000 e a0 a1 a2 a3 a4 a5 a6 [(8006, .ref 24 1 0), (8008, .ref 32 1 0), (8009, .ref 36 1 0)]), [bE e, bC col, (24, .box 1 [sI 0, sI 0]), (32, .box 1 [sI x.1, sI x.2.1]), (36, .box 1 [sB x.2.2])]⟩) (fun x => (True) ∧ (iRangeOf_l7 e col a0 a1 a2 a3 a4 a5 a6 ((List.length (Xpr.Kids (k7 e a0 a1 a2 a3 a4 a5 a6))) - 0 + 1) 0 whole06 whole16 found6) = x) ?_ ?_
                                       ·
                                        skip
                                        refine AW.block (AW.loop (α := Nat × Int × Int × Bool) (fun x => ⟨((0, sR4 (k7 e a0 a1 a2 a3 a4 a5 a6)) :: (1, cl) :: (17, sL (k7 e a0 a1 a2 a3 a4 a5 a6)) :: (18, sI ((x.1 : Nat) : Int)) :: f6 1000 e a0 a1 a2 a3 a4 a5 a6 [(8006, .ref 24 1 0), (8008, .ref 32 1 0), (8009, .ref 36 1 0)]), [bE e, bC col, (24, .box 1 [sI 0, sI 0]), (32, .box 1 [sI x.2.1, sI x.2.2.1]), (36, .box 1 [sB x.2.2.2])]⟩) (fun x => (True) ∧ ∃ k, (List.length (Xpr.Kids (k7 e a0 a1 a2 a3 a4 a5 a6))) - x.1 < k ∧ (iRangeOf_l7 e col a0 a1 a2 a3 a4 a5 a6 ((List.length (Xpr.Kids (k7 e a0 a1 a2 a3 a4 a5 a6))) - 0 + 1) 0 whole06 whole16 found6) = iRangeOf_l7 e col a0 a1 a2 a3 a4 a5 a6 k x.1 x.2.1 x.2.2.1 x.2.2.2) (fun x => (List.length (Xpr.Kids (k7 e a0 a1 a2 a3 a4 a5 a6))) - x.1) (0, whole06, whole16, found6) (by kernel_rfl) ⟨?_, _, Nat.lt_succ_self _, rfl⟩ ?_)
                                        ·
                                         show True
                                         exact trivial
                                        ·
                                         intro x hR
                                         obtain ⟨a7, whole07, whole17, found7⟩ := x
                                         obtain ⟨hI7, k26437, hk26435, e26436⟩ := hR
                                         replace hI7 : True := hI7
                                         replace hk26435 : (List.length (Xpr.Kids (k7 e a0 a1 a2 a3 a4 a5 a6))) - a7 < k26437 := hk26435
                                         obtain ⟨k26437q, rfl⟩ : ∃ k, k26437 = k + 1 := ⟨k26437 - 1, by omega⟩
                                         have hK := hN.kids2
                                         refine AW.seq ?_
                                         refine AW.reg hC8  false [] (0 :: 1 :: 17 :: 18 :: 19 :: x7 1000 [8006, 8008, 8009]) [12, 20, 24, 32, 36]
                                          ⟨((0, sR4 (k7 e a0 a1 a2 a3 a4 a5 a6)) :: (1, cl) :: (17, sL (k7 e a0 a1 a2 a3 a4 a5 a6)) :: (18, sN a7) :: (19, sB (decide (((a7 : Nat) : Int) < ((List.length (Xpr.Kids (k7 e a0 a1 a2 a3 a4 a5 a6)) : Nat) : Int)))) :: f6 1000 e a0 a1 a2 a3 a4 a5 a6 [(8006, .ref 24 1 0), (8008, .ref 32 1 0), (8009, .ref 36 1 0)]), [bE e, bC col, (24, .box 1 [sI 0, sI 0]), (32, .box 1 [sI whole07, sI whole17]), (36, .box 1 [sB found7])]⟩
                                          [] (by kernel_rfl) ?_ ?_
                                         ·
                                          exact trivial
                                         refine AW.seq (AW.cd (decide (((a7 : Nat) : Int) < ((List.length (Xpr.Kids (k7 e a0 a1 a2 a3 a4 a5 a6)) : Nat) : Int))) ?_ ?_)
                                         ·
                                          intro h26438
                                          have h26438q := (of_decide_eq_true h26438)
                                          have e26439 := e26436.trans (Go.Am.bif_t h26438)
                                          refine AW.keep (x8 0 [8006, 8008, 8009]) [12, 20, 24, 32, 36] ⟨(f7 0 e a0 a1 a2 a3 a4 a5 a6 a7 [(8006, .ref 24 1 0), (8008, .ref 32 1 0), (8009, .ref 36 1 0)]), [bE e, bC col, (24, .box 1 [sI 0, sI 0]), (32, .box 1 [sI whole07, sI whole17]), (36, .box 1 [sB found7])]⟩ (by kernel_rfl) ?_
                                          refine AW.skip (AW.seq (AW.block (AW.seq ?_)))
                                          refine AW.reg hC8  false [] (0 :: 1 :: 4 :: 17 :: 18 :: x7 1000 [8006, 8008, 8009]) [12, 20, 24, 32, 36]
                                           ⟨((0, sR4 (k7 e a0 a1 a2 a3 a4 a5 a6)) :: (1, cl) :: (4, sN a7) :: (17, sL (k7 e a0 a1 a2 a3 a4 a5 a6)) :: (18, sN a7) :: f6 1000 e a0 a1 a2 a3 a4 a5 a6 [(8006, .ref 24 1 0), (8008, .ref 32 1 0), (8009, .ref 36 1 0)]), [bE e, bC col, (24, .box 1 [sI 0, sI 0]), (32, .box 1 [sI whole07, sI whole17]), (36, .box 1 [sB found7])]⟩
                                           [] (by kernel_rfl) ?_ ?_
                                          ·
                                           exact trivial
                                          have hN : VE width 0 (k8 e a0 a1 a2 a3 a4 a5 a6 a7) := hN.kd (Int.ofNat_lt.1 h26438q)
                                          refine AW.regionO [0, 1, 2, 3, 4, 5, 6, 7] (by rfl) ?_
                                          refine AWO.run hC8 false [] [0, 1, 2, 3, 4, 5, 6] [7] (0 :: 1 :: 17 :: 18 :: 26 :: 27 :: x7 1000 [8006, 8008, 8009]) [12, 20, 24, 32, 36]
                                           ⟨((0, sR4 (k7 e a0 a1 a2 a3 a4 a5 a6)) :: (1, cl) :: (17, sL (k7 e a0 a1 a2 a3 a4 a5 a6)) :: (18, sN a7) :: (26, sR4 (k8 e a0 a1 a2 a3 a4 a5 a6 a7)) :: (27, cl) :: f6 1000 e a0 a1 a2 a3 a4 a5 a6 [(8006, .ref 24 1 0), (8008, .ref 32 1 0), (8009, .ref 36 1 0)]), [bE e, bC col, (24, .box 1 [sI 0, sI 0]), (32, .box 1 [sI whole07, sI whole17]), (36, .box 1 [sB found7])]⟩
                                           [IX ((a7 : Nat) : Int) ((List.length (Xpr.Kids (k7 e a0 a1 a2 a3 a4 a5 a6)) : Nat) : Int)] (by rfl) (by kernel_rfl) ?_ ?_
                                          ·
                                           refine ⟨?_, trivial⟩
                                           ·
                                            refine IX.of ?_
                                            omega
                                          refine AWO.call hC8.ty (vs := [sR4 (k8 e a0 a1 a2 a3 a4 a5 a6 a7), cl]) (caps := []) (by rfl) rfl (.inl rfl) (by decide) (by kernel_rfl) (by kernel_rfl) Try.func24 (by kernel_rfl) rfl (by kernel_rfl) ?_
                                          intro o9
                                          refine AW.keep (0 :: 1 :: x8 1000 [9006, 9008, 9009]) [12, 20, 24, 32, 36] ⟨((0, sR4 (k8 e a0 a1 a2 a3 a4 a5 a6 a7)) :: (1, cl) :: f7 1000 e a0 a1 a2 a3 a4 a5 a6 a7 [(9006, .ref 24 1 0), (9008, .ref 32 1 0), (9009, .ref 36 1 0)]), [bE e, bC col, (24, .box 1 [sI 0, sI 0]), (32, .box 1 [sI whole07, sI whole17]), (36, .box 1 [sB found7])]⟩ (by kernel_rfl) ?_
                                          refine AW.seq (AW.seq ?_)
                                          refine AW.reg hC9  false [] (0 :: 1 :: 9 :: x8 1000 [9006, 9008, 9009]) [12, 20, 24, 32, 36]
                                           ⟨((0, sR4 (k8 e a0 a1 a2 a3 a4 a5 a6 a7)) :: (1, cl) :: (9, sB ((Xpr.Kind (k8 e a0 a1 a2 a3 a4 a5 a6 a7)) != 8)) :: f7 1000 e a0 a1 a2 a3 a4 a5 a6 a7 [(9006, .ref 24 1 0), (9008, .ref 32 1 0), (9009, .ref 36 1 0)]), [bE e, bC col, (24, .box 1 [sI 0, sI 0]), (32, .box 1 [sI whole07, sI whole17]), (36, .box 1 [sB found7])]⟩
                                           [] (by kernel_rfl) ?_ ?_
                                          ·
                                           exact trivial
                                          refine AW.cd ((Xpr.Kind (k8 e a0 a1 a2 a3 a4 a5 a6 a7)) != 8) ?_ ?_
                                          ·
                                           intro h26445
                                           have h26445q : (Xpr.Kind (k8 e a0 a1 a2 a3 a4 a5 a6 a7)) ≠ 8 := (Go.Am.bne_pos h26445)
                                           refine AW.seq (AW.regionO [0, 1, 2] (by rfl) ?_)
                                           refine AWO.run hC9 false [] [0, 1] [2] (10 :: 11 :: x8 1000 [9006, 9008, 9009]) [12, 20, 24, 32, 36]
                                            ⟨((10, cl) :: (11, sR4 (k8 e a0 a1 a2 a3 a4 a5 a6 a7)) :: f7 1000 e a0 a1 a2 a3 a4 a5 a6 a7 [(9006, .ref 24 1 0), (9008, .ref 32 1 0), (9009, .ref 36 1 0)]), [bE e, bC col, (24, .box 1 [sI 0, sI 0]), (32, .box 1 [sI whole07, sI whole17]), (36, .box 1 [sB found7])]⟩
                                            [] (by rfl) (by kernel_rfl) ?_ ?_
                                           ·
                                            exact trivial
                                           refine AWO.callJ hC9.ty (x8 1000 [9006, 9008, 9009]) [12, 20, 24, 32, 36] (α := Int × Int × Bool) (fun x => ⟨(f7 1000 e a0 a1 a2 a3 a4 a5 a6 a7 [(9006, .ref 24 1 0), (9008, .ref 32 1 0), (9009, .ref 36 1 0)]), [bE e, bC col, (24, .box 1 [sI 0, sI 0]), (32, .box 1 [sI x.1, sI x.2.1]), (36, .box 1 [sB x.2.2])]⟩) (fun x => (True) ∧ (iRangeOf_c8 e col a0 a1 a2 a3 a4 a5 a6 a7 whole07 whole17 found7) = x) (vs := [sR4 (k8 e a0 a1 a2 a3 a4 a5 a6 a7)]) (caps := [.ref 20 1 0, .ref 32 1 0, .ref 36 1 0]) (by rfl) rfl (.inl rfl) (by decide) (by kernel_rfl) (by kernel_rfl) Try.func25 (by kernel_rfl) rfl (by kernel_rfl) ?_ ?_
                                           ·
                                            intro o10
                                            have e26446 : (iRangeOf_c8 e col a0 a1 a2 a3 a4 a5 a6 a7 whole07 whole17 found7) = (iRangeOf_c8 e col a0 a1 a2 a3 a4 a5 a6 a7 whole07 whole17 found7) := rfl
                                            refine AW.keep (0 :: 1 :: 2 :: 3 :: x8 2000 [10006, 10008, 10009]) [12, 20, 24, 32, 36] ⟨((0, sR4 (k8 e a0 a1 a2 a3 a4 a5 a6 a7)) :: (1, .ref 20 1 0) :: (2, .ref 32 1 0) :: (3, .ref 36 1 0) :: f7 2000 e a0 a1 a2 a3 a4 a5 a6 a7 [(10006, .ref 24 1 0), (10008, .ref 32 1 0), (10009, .ref 36 1 0)]), [bE e, bC col, (24, .box 1 [sI 0, sI 0]), (32, .box 1 [sI whole07, sI whole17]), (36, .box 1 [sB found7])]⟩ (by kernel_rfl) ?_
                                            refine AW.seq ?_
                                            refine AW.reg hC10  false [] (2 :: 3 :: 5 :: 6 :: x8 2000 [10006, 10008, 10009]) [12, 20, 24, 32, 36, 40020]
                                             ⟨((2, .ref 32 1 0) :: (3, .ref 36 1 0) :: (5, .ref 40020 1 0) :: (6, sB ((restriction (k8 e a0 a1 a2 a3 a4 a5 a6 a7) col).2)) :: f7 2000 e a0 a1 a2 a3 a4 a5 a6 a7 [(10006, .ref 24 1 0), (10008, .ref 32 1 0), (10009, .ref 36 1 0)]), [bE e, bC col, (24, .box 1 [sI 0, sI 0]), (32, .box 1 [sI whole07, sI whole17]), (36, .box 1 [sB found7]), (40020, .box 1 [sI (Rng.Low ((restriction (k8 e a0 a1 a2 a3 a4 a5 a6 a7) col).1)), sI (Rng.High ((restriction (k8 e a0 a1 a2 a3 a4 a5 a6 a7) col).1))])]⟩
                                             [(∃ w, VL w (k8 e a0 a1 a2 a3 a4 a5 a6 a7))] (by kernel_rfl) ?_ ?_
                                            ·
                                             refine ⟨?_, trivial⟩
                                             ·
                                              exact ⟨width, ⟨_, by omega, hN⟩⟩
                                            refine AW.seq ?_
                                            refine AW.reg hC10  false [] (2 :: 3 :: 5 :: 13 :: x8 2000 [10006, 10008, 10009]) [12, 20, 24, 32, 36, 40020]
                                             ⟨((2, .ref 32 1 0) :: (3, .ref 36 1 0) :: (5, .ref 40020 1 0) :: (13, sB ((restriction (k8 e a0 a1 a2 a3 a4 a5 a6 a7) col).2)) :: f7 2000 e a0 a1 a2 a3 a4 a5 a6 a7 [(10006, .ref 24 1 0), (10008, .ref 32 1 0), (10009, .ref 36 1 0)]), [bE e, bC col, (24, .box 1 [sI 0, sI 0]), (32, .box 1 [sI whole07, sI whole17]), (36, .box 1 [sB found7]), (40020, .box 1 [sI (Rng.Low ((restriction (k8 e a0 a1 a2 a3 a4 a5 a6 a7) col).1)), sI (Rng.High ((restriction (k8 e a0 a1 a2 a3 a4 a5 a6 a7) col).1))])]⟩
                                             [] (by kernel_rfl) ?_ ?_
                                            ·
                                             exact trivial
                                            refine AW.cd ((restriction (k8 e a0 a1 a2 a3 a4 a5 a6 a7) col).2) ?_ ?_
                                            ·
                                             intro h26447
                                             have h26447q : ((restriction (k8 e a0 a1 a2 a3 a4 a5 a6 a7) col).2) = true := h26447
                                             have e26448 := e26446.trans (Go.Am.bif_t h26447)
                                             refine AW.seq ?_
                                             refine AW.reg hC10  false [] (3 :: x8 2000 [10006, 10008, 10009]) [12, 20, 24, 32, 36]
                                              ⟨((3, .ref 36 1 0) :: f7 2000 e a0 a1 a2 a3 a4 a5 a6 a7 [(10006, .ref 24 1 0), (10008, .ref 32 1 0), (10009, .ref 36 1 0)]), [bE e, bC col, (24, .box 1 [sI 0, sI 0]), (32, .box 1 [sI (Rng.Low (intersected (Rng.mk whole07 whole17) ((restriction (k8 e a0 a1 a2 a3 a4 a5 a6 a7) col).1))), sI (Rng.High (intersected (Rng.mk whole07 whole17) ((restriction (k8 e a0 a1 a2 a3 a4 a5 a6 a7) col).1)))]), (36, .box 1 [sB found7])]⟩
                                              [(True)] (by kernel_rfl) ?_ ?_
                                             ·
                                              refine ⟨?_, trivial⟩
                                              ·
                                               trivial
                                             refine AW.reg hC10  false [] (x8 2000 [10006, 10008, 10009]) [12, 20, 24, 32, 36]
                                              ⟨(f7 2000 e a0 a1 a2 a3 a4 a5 a6 a7 [(10006, .ref 24 1 0), (10008, .ref 32 1 0), (10009, .ref 36 1 0)]), [bE e, bC col, (24, .box 1 [sI 0, sI 0]), (32, .box 1 [sI (Rng.Low (intersected (Rng.mk whole07 whole17) ((restriction (k8 e a0 a1 a2 a3 a4 a5 a6 a7) col).1))), sI (Rng.High (intersected (Rng.mk whole07 whole17) ((restriction (k8 e a0 a1 a2 a3 a4 a5 a6 a7) col).1)))]), (36, .box 1 [sB true])]⟩
                                              [] (by kernel_rfl) ?_ ?_
                                             ·
                                              exact trivial
                                             refine ⟨((Rng.Low (intersected (Rng.mk whole07 whole17) ((restriction (k8 e a0 a1 a2 a3 a4 a5 a6 a7) col).1))), (Rng.High (intersected (Rng.mk whole07 whole17) ((restriction (k8 e a0 a1 a2 a3 a4 a5 a6 a7) col).1))), true), [], by kernel_rfl, by kernel_rfl, ?_, e26448⟩
                                             show True
                                             exact trivial
                                            ·
                                             intro h26449
                                             have h26449q : ((restriction (k8 e a0 a1 a2 a3 a4 a5 a6 a7) col).2) = false := h26449
                                             have e26450 := e26446.trans (Go.Am.bif_f h26449)
                                             refine AW.keep (x8 2000 [10006, 10008, 10009]) [12, 20, 24, 32, 36] ⟨(f7 2000 e a0 a1 a2 a3 a4 a5 a6 a7 [(10006, .ref 24 1 0), (10008, .ref 32 1 0), (10009, .ref 36 1 0)]), [bE e, bC col, (24, .box 1 [sI 0, sI 0]), (32, .box 1 [sI whole07, sI whole17]), (36, .box 1 [sB found7])]⟩ (by kernel_rfl) ?_
                                             refine AW.skip ?_
                                             refine ⟨(whole07, whole17, found7), [], by kernel_rfl, by kernel_rfl, ?_, e26450⟩
                                             show True
                                             exact trivial
                                           ·
                                            intro x hR
                                            obtain ⟨whole08, whole18, found8⟩ := x
                                            obtain ⟨hK8, e26451⟩ := hR
                                            replace hK8 : True := hK8
                                            have e26452 := e26439.trans (Go.Am.then_eq e26451)
                                            refine AWO.run hC9 false [] [] [] (x8 1000 [9006, 9008, 9009]) [12, 20, 24, 32, 36]
                                             ⟨(f7 1000 e a0 a1 a2 a3 a4 a5 a6 a7 [(9006, .ref 24 1 0), (9008, .ref 32 1 0), (9009, .ref 36 1 0)]), [bE e, bC col, (24, .box 1 [sI 0, sI 0]), (32, .box 1 [sI whole08, sI whole18]), (36, .box 1 [sB found8])]⟩
                                             [] (by rfl) (by kernel_rfl) ?_ ?_
                                            ·
                                             exact trivial
                                            refine AWO.nil ?_
                                            refine AW.ret ?_
                                            refine ⟨[], by kernel_rfl, ?_⟩
                                            refine AWO.keep (x8 0 [8006, 8008, 8009]) [12, 20, 24, 32, 36] ⟨(f7 0 e a0 a1 a2 a3 a4 a5 a6 a7 [(8006, .ref 24 1 0), (8008, .ref 32 1 0), (8009, .ref 36 1 0)]), [bE e, bC col, (24, .box 1 [sI 0, sI 0]), (32, .box 1 [sI whole08, sI whole18]), (36, .box 1 [sB found8])]⟩ (by kernel_rfl) ?_
                                            refine AWO.run hC8 false [] [] [] (x8 0 [8006, 8008, 8009]) [12, 20, 24, 32, 36]
                                             ⟨(f7 0 e a0 a1 a2 a3 a4 a5 a6 a7 [(8006, .ref 24 1 0), (8008, .ref 32 1 0), (8009, .ref 36 1 0)]), [bE e, bC col, (24, .box 1 [sI 0, sI 0]), (32, .box 1 [sI whole08, sI whole18]), (36, .box 1 [sB found8])]⟩
                                             [] (by rfl) (by kernel_rfl) ?_ ?_
                                            ·
                                             exact trivial
                                            refine AWO.nil ?_
                                            refine AW.reg hC8  false [] (x8 0 [8006, 8008, 8009]) [12, 20, 24, 32, 36]
                                             ⟨((0, sR4 (k7 e a0 a1 a2 a3 a4 a5 a6)) :: (1, cl) :: (17, sL (k7 e a0 a1 a2 a3 a4 a5 a6)) :: (18, sI ((a7 + 1 : Nat) : Int)) :: f6 1000 e a0 a1 a2 a3 a4 a5 a6 [(8006, .ref 24 1 0), (8008, .ref 32 1 0), (8009, .ref 36 1 0)]), [bE e, bC col, (24, .box 1 [sI 0, sI 0]), (32, .box 1 [sI whole08, sI whole18]), (36, .box 1 [sB found8])]⟩
                                             [R64 ((a7 + 1 : Nat) : Int)] (by kernel_rfl) ?_ ?_
                                            ·
                                             refine ⟨?_, trivial⟩
                                             ·
                                              refine R64.of ?_
                                              omega
                                            refine AW.back (x := (a7, whole07, whole17, found7)) (a7 + 1, whole08, whole18, found8) (by kernel_rfl) ⟨?_, k26437q, ?_, e26452⟩ ?_
                                            ·
                                             show True
                                             assumption
                                            ·
                                             show (List.length (Xpr.Kids (k7 e a0 a1 a2 a3 a4 a5 a6))) - (a7 + 1) < k26437q
                                             omega
                                            ·
                                             show (List.length (Xpr.Kids (k7 e a0 a1 a2 a3 a4 a5 a6))) - (a7 + 1) < (List.length (Xpr.Kids (k7 e a0 a1 a2 a3 a4 a5 a6))) - a7
                                             omega
                                          ·
                                           intro h26453
                                           have h26453q : (Xpr.Kind (k8 e a0 a1 a2 a3 a4 a5 a6 a7)) = 8 := (Go.Am.bne_neg h26453)
                                           exfalso
                                           have h2 := hN.two (by omega)
                                           have h3 := hN.flat
                                           omega
                                         ·
                                          intro h26454
                                          have h26454q := (of_decide_eq_false h26454)
                                          have e26455 := e26436.trans (Go.Am.bif_f h26454)
                                          refine AW.keep (x7 1000 [8006, 8008, 8009]) [12, 20, 24, 32, 36] ⟨(f6 1000 e a0 a1 a2 a3 a4 a5 a6 [(8006, .ref 24 1 0), (8008, .ref 32 1 0), (8009, .ref 36 1 0)]), [bE e, bC col, (24, .box 1 [sI 0, sI 0]), (32, .box 1 [sI whole07, sI whole17]), (36, .box 1 [sB found7])]⟩ (by kernel_rfl) ?_
                                          refine AW.exit ?_
                                          refine AW.meet (whole07, whole17, found7) (by kernel_rfl) ⟨?_, e26455⟩
                                          show True
                                          assumption
                                       ·
                                        intro x hR
                                        obtain ⟨whole07, whole17, found7⟩ := x
                                        obtain ⟨hJ7, e26456⟩ := hR
                                        replace hJ7 : True := hJ7
                                        have e26457 := e26434.trans (Go.Am.then_eq e26456)
                                        refine ⟨(whole07, whole17, found7), [], by kernel_rfl, by kernel_rfl, ?_, e26457⟩
                                        show True
                                        exact trivial
                                     ·
                                      intro x hR
                                      obtain ⟨whole07, whole17, found7⟩ := x
                                      obtain ⟨hK9, e26458⟩ := hR
                                      replace hK9 : True := hK9
                                      have e26459 := e26422.trans (Go.Am.then_eq e26458)
                                      refine AWO.run hC7 false [] [] [] (x7 0 [7006, 7008, 7009]) [12, 20, 24, 32, 36]
                                       ⟨(f6 0 e a0 a1 a2 a3 a4 a5 a6 [(7006, .ref 24 1 0), (7008, .ref 32 1 0), (7009, .ref 36 1 0)]), [bE e, bC col, (24, .box 1 [sI 0, sI 0]), (32, .box 1 [sI whole07, sI whole17]), (36, .box 1 [sB found7])]⟩
                                       [] (by rfl) (by kernel_rfl) ?_ ?_
                                      ·
                                       exact trivial
                                      refine AWO.nil ?_
                                      refine AW.reg hC7  false [] (x7 0 [7006, 7008, 7009]) [12, 20, 24, 32, 36]
                                       ⟨((0, sR4 (k6 e a0 a1 a2 a3 a4 a5)) :: (1, cl) :: (17, sL (k6 e a0 a1 a2 a3 a4 a5)) :: (18, sI ((a6 + 1 : Nat) : Int)) :: f5 1000 e a0 a1 a2 a3 a4 a5 [(7006, .ref 24 1 0), (7008, .ref 32 1 0), (7009, .ref 36 1 0)]), [bE e, bC col, (24, .box 1 [sI 0, sI 0]), (32, .box 1 [sI whole07, sI whole17]), (36, .box 1 [sB found7])]⟩
                                       [R64 ((a6 + 1 : Nat) : Int)] (by kernel_rfl) ?_ ?_
                                      ·
                                       refine ⟨?_, trivial⟩
                                       ·
                                        refine R64.of ?_
                                        omega
                                      refine AW.back (x := (a6, whole06, whole16, found6)) (a6 + 1, whole07, whole17, found7) (by kernel_rfl) ⟨?_, k26420q, ?_, e26459⟩ ?_
                                      ·
                                       show True
                                       assumption
                                      ·
                                       show (List.length (Xpr.Kids (k6 e a0 a1 a2 a3 a4 a5))) - (a6 + 1) < k26420q
                                       omega
                                      ·
                                       show (List.length (Xpr.Kids (k6 e a0 a1 a2 a3 a4 a5))) - (a6 + 1) < (List.length (Xpr.Kids (k6 e a0 a1 a2 a3 a4 a5))) - a6
                                       omega
                                    ·
                                     intro h26460
                                     have h26460q := (of_decide_eq_false h26460)
                                     have e26461 := e26419.trans (Go.Am.bif_f h26460)
                                     refine AW.keep (x6 1000 [7006, 7008, 7009]) [12, 20, 24, 32, 36] ⟨(f5 1000 e a0 a1 a2 a3 a4 a5 [(7006, .ref 24 1 0), (7008, .ref 32 1 0), (7009, .ref 36 1 0)]), [bE e, bC col, (24, .box 1 [sI 0, sI 0]), (32, .box 1 [sI whole06, sI whole16]), (36, .box 1 [sB found6])]⟩ (by kernel_rfl) ?_
                                     refine AW.exit ?_
                                     refine AW.meet (whole06, whole16, found6) (by kernel_rfl) ⟨?_, e26461⟩
                                     show True
                                     assumption
                                  ·
                                   intro x hR
                                   obtain ⟨whole06, whole16, found6⟩ := x
                                   obtain ⟨hJ6, e26462⟩ := hR
                                   replace hJ6 : True := hJ6
                                   have e26463 := e26417.trans (Go.Am.then_eq e26462)
                                   refine ⟨(whole06, whole16, found6), [], by kernel_rfl, by kernel_rfl, ?_, e26463⟩
                                   show True
                                   exact trivial
                                ·
                                 intro x hR
                                 obtain ⟨whole06, whole16, found6⟩ := x
                                 obtain ⟨hK10, e26464⟩ := hR
                                 replace hK10 : True := hK10
                                 have e26465 := e26405.trans (Go.Am.then_eq e26464)
                                 refine AWO.run hC6 false [] [] [] (x6 0 [6006, 6008, 6009]) [12, 20, 24, 32, 36]
                                  ⟨(f5 0 e a0 a1 a2 a3 a4 a5 [(6006, .ref 24 1 0), (6008, .ref 32 1 0), (6009, .ref 36 1 0)]), [bE e, bC col, (24, .box 1 [sI 0, sI 0]), (32, .box 1 [sI whole06, sI whole16]), (36, .box 1 [sB found6])]⟩
                                  [] (by rfl) (by kernel_rfl) ?_ ?_
                                 ·
                                  exact trivial
                                 refine AWO.nil ?_
                                 refine AW.reg hC6  false [] (x6 0 [6006, 6008, 6009]) [12, 20, 24, 32, 36]
                                  ⟨((0, sR4 (k5 e a0 a1 a2 a3 a4)) :: (1, cl) :: (17, sL (k5 e a0 a1 a2 a3 a4)) :: (18, sI ((a5 + 1 : Nat) : Int)) :: f4 1000 e a0 a1 a2 a3 a4 [(6006, .ref 24 1 0), (6008, .ref 32 1 0), (6009, .ref 36 1 0)]), [bE e, bC col, (24, .box 1 [sI 0, sI 0]), (32, .box 1 [sI whole06, sI whole16]), (36, .box 1 [sB found6])]⟩
                                  [R64 ((a5 + 1 : Nat) : Int)] (by kernel_rfl) ?_ ?_
                                 ·
                                  refine ⟨?_, trivial⟩
                                  ·
                                   refine R64.of ?_
                                   omega
                                 refine AW.back (x := (a5, whole05, whole15, found5)) (a5 + 1, whole06, whole16, found6) (by kernel_rfl) ⟨?_, k26403q, ?_, e26465⟩ ?_
                                 ·
                                  show True
                                  assumption
                                 ·
                                  show (List.length (Xpr.Kids (k5 e a0 a1 a2 a3 a4))) - (a5 + 1) < k26403q
                                  omega
                                 ·
                                  show (List.length (Xpr.Kids (k5 e a0 a1 a2 a3 a4))) - (a5 + 1) < (List.length (Xpr.Kids (k5 e a0 a1 a2 a3 a4))) - a5
                                  omega
                               ·
                                intro h26466
                                have h26466q := (of_decide_eq_false h26466)
                                have e26467 := e26402.trans (Go.Am.bif_f h26466)
                                refine AW.keep (x5 1000 [6006, 6008, 6009]) [12, 20, 24, 32, 36] ⟨(f4 1000 e a0 a1 a2 a3 a4 [(6006, .ref 24 1 0), (6008, .ref 32 1 0), (6009, .ref 36 1 0)]), [bE e, bC col, (24, .box 1 [sI 0, sI 0]), (32, .box 1 [sI whole05, sI whole15]), (36, .box 1 [sB found5])]⟩ (by kernel_rfl) ?_
                                refine AW.exit ?_
                                refine AW.meet (whole05, whole15, found5) (by kernel_rfl) ⟨?_, e26467⟩
                                show True
                                assumption
                             ·
                              intro x hR
                              obtain ⟨whole05, whole15, found5⟩ := x
                              obtain ⟨hJ5, e26468⟩ := hR
                              replace hJ5 : True := hJ5
                              have e26469 := e26400.trans (Go.Am.then_eq e26468)
                              refine ⟨(whole05, whole15, found5), [], by kernel_rfl, by kernel_rfl, ?_, e26469⟩
                              show True
                              exact trivial
                           ·
                            intro x hR
                            obtain ⟨whole05, whole15, found5⟩ := x
                            obtain ⟨hK11, e26470⟩ := hR
                            replace hK11 : True := hK11
                            have e26471 := e26388.trans (Go.Am.then_eq e26470)
                            refine AWO.run hC5 false [] [] [] (x5 0 [5006, 5008, 5009]) [12, 20, 24, 32, 36]
                             ⟨(f4 0 e a0 a1 a2 a3 a4 [(5006, .ref 24 1 0), (5008, .ref 32 1 0), (5009, .ref 36 1 0)]), [bE e, bC col, (24, .box 1 [sI 0, sI 0]), (32, .box 1 [sI whole05, sI whole15]), (36, .box 1 [sB found5])]⟩
                             [] (by rfl) (by kernel_rfl) ?_ ?_
                            ·
                             exact trivial
                            refine AWO.nil ?_
                            refine AW.reg hC5  false [] (x5 0 [5006, 5008, 5009]) [12, 20, 24, 32, 36]
                             ⟨((0, sR4 (k4 e a0 a1 a2 a3)) :: (1, cl) :: (17, sL (k4 e a0 a1 a2 a3)) :: (18, sI ((a4 + 1 : Nat) : Int)) :: f3 1000 e a0 a1 a2 a3 [(5006, .ref 24 1 0), (5008, .ref 32 1 0), (5009, .ref 36 1 0)]), [bE e, bC col, (24, .box 1 [sI 0, sI 0]), (32, .box 1 [sI whole05, sI whole15]), (36, .box 1 [sB found5])]⟩
                             [R64 ((a4 + 1 : Nat) : Int)] (by kernel_rfl) ?_ ?_
                            ·
                             refine ⟨?_, trivial⟩
                             ·
                              refine R64.of ?_
                              omega
                            refine AW.back (x := (a4, whole04, whole14, found4)) (a4 + 1, whole05, whole15, found5) (by kernel_rfl) ⟨?_, k26386q, ?_, e26471⟩ ?_
                            ·
                             show True
                             assumption
                            ·
                             show (List.length (Xpr.Kids (k4 e a0 a1 a2 a3))) - (a4 + 1) < k26386q
                             omega
                            ·
                             show (List.length (Xpr.Kids (k4 e a0 a1 a2 a3))) - (a4 + 1) < (List.length (Xpr.Kids (k4 e a0 a1 a2 a3))) - a4
                             omega
                          ·
                           intro h26472
                           have h26472q := (of_decide_eq_false h26472)
                           have e26473 := e26385.trans (Go.Am.bif_f h26472)
                           refine AW.keep (x4 1000 [5006, 5008, 5009]) [12, 20, 24, 32, 36] ⟨(f3 1000 e a0 a1 a2 a3 [(5006, .ref 24 1 0), (5008, .ref 32 1 0), (5009, .ref 36 1 0)]), [bE e, bC col, (24, .box 1 [sI 0, sI 0]), (32, .box 1 [sI whole04, sI whole14]), (36, .box 1 [sB found4])]⟩ (by kernel_rfl) ?_
                           refine AW.exit ?_
                           refine AW.meet (whole04, whole14, found4) (by kernel_rfl) ⟨?_, e26473⟩
                           show True
                           assumption
                        ·
                         intro x hR
                         obtain ⟨whole04, whole14, found4⟩ := x
                         obtain ⟨hJ4, e26474⟩ := hR
                         replace hJ4 : True := hJ4
                         have e26475 := e26383.trans (Go.Am.then_eq e26474)
                         refine ⟨(whole04, whole14, found4), [], by kernel_rfl, by kernel_rfl, ?_, e26475⟩
                         show True
                         exact trivial
                      ·
                       intro x hR
                       obtain ⟨whole04, whole14, found4⟩ := x
                       obtain ⟨hK12, e26476⟩ := hR
                       replace hK12 : True := hK12
                       have e26477 := e26371.trans (Go.Am.then_eq e26476)
                       refine AWO.run hC4 false [] [] [] (x4 0 [4006, 4008, 4009]) [12, 20, 24, 32, 36]
                        ⟨(f3 0 e a0 a1 a2 a3 [(4006, .ref 24 1 0), (4008, .ref 32 1 0), (4009, .ref 36 1 0)]), [bE e, bC col, (24, .box 1 [sI 0, sI 0]), (32, .box 1 [sI whole04, sI whole14]), (36, .box 1 [sB found4])]⟩
                        [] (by rfl) (by kernel_rfl) ?_ ?_
                       ·
                        exact trivial
                       refine AWO.nil ?_
                       refine AW.reg hC4  false [] (x4 0 [4006, 4008, 4009]) [12, 20, 24, 32, 36]
                        ⟨((0, sR4 (k3 e a0 a1 a2)) :: (1, cl) :: (17, sL (k3 e a0 a1 a2)) :: (18, sI ((a3 + 1 : Nat) : Int)) :: f2 1000 e a0 a1 a2 [(4006, .ref 24 1 0), (4008, .ref 32 1 0), (4009, .ref 36 1 0)]), [bE e, bC col, (24, .box 1 [sI 0, sI 0]), (32, .box 1 [sI whole04, sI whole14]), (36, .box 1 [sB found4])]⟩
                        [R64 ((a3 + 1 : Nat) : Int)] (by kernel_rfl) ?_ ?_
                       ·
                        refine ⟨?_, trivial⟩
                        ·
                         refine R64.of ?_
                         omega
                       refine AW.back (x := (a3, whole03, whole13, found3)) (a3 + 1, whole04, whole14, found4) (by kernel_rfl) ⟨?_, k26369q, ?_, e26477⟩ ?_
                       ·
                        show True
                        assumption
                       ·
                        show (List.length (Xpr.Kids (k3 e a0 a1 a2))) - (a3 + 1) < k26369q
                        omega
                       ·
                        show (List.length (Xpr.Kids (k3 e a0 a1 a2))) - (a3 + 1) < (List.length (Xpr.Kids (k3 e a0 a1 a2))) - a3
                        omega
                     ·
                      intro h26478
                      have h26478q := (of_decide_eq_false h26478)
                      have e26479 := e26368.trans (Go.Am.bif_f h26478)
                      refine AW.keep (x3 1000 [4006, 4008, 4009]) [12, 20, 24, 32, 36] ⟨(f2 1000 e a0 a1 a2 [(4006, .ref 24 1 0), (4008, .ref 32 1 0), (4009, .ref 36 1 0)]), [bE e, bC col, (24, .box 1 [sI 0, sI 0]), (32, .box 1 [sI whole03, sI whole13]), (36, .box 1 [sB found3])]⟩ (by kernel_rfl) ?_
                      refine AW.exit ?_
                      refine AW.meet (whole03, whole13, found3) (by kernel_rfl) ⟨?_, e26479⟩
                      show True
                      assumption
                   ·
                    intro x hR
                    obtain ⟨whole03, whole13, found3⟩ := x
                    obtain ⟨hJ3, e26480⟩ := hR
                    replace hJ3 : True := hJ3
                    have e26481 := e26366.trans (Go.Am.then_eq e26480)
                    refine ⟨(whole03, whole13, found3), [], by kernel_rfl, by kernel_rfl, ?_, e26481⟩
                    show True
                    exact trivial
                 ·
                  intro x hR
                  obtain ⟨whole03, whole13, found3⟩ := x
                  obtain ⟨hK13, e26482⟩ := hR
                  replace hK13 : True := hK13
                  have e26483 := e26354.trans (Go.Am.then_eq e26482)
                  refine AWO.run hC3 false [] [] [] (x3 0 [3006, 3008, 3009]) [12, 20, 24, 32, 36]
                   ⟨(f2 0 e a0 a1 a2 [(3006, .ref 24 1 0), (3008, .ref 32 1 0), (3009, .ref 36 1 0)]), [bE e, bC col, (24, .box 1 [sI 0, sI 0]), (32, .box 1 [sI whole03, sI whole13]), (36, .box 1 [sB found3])]⟩
                   [] (by rfl) (by kernel_rfl) ?_ ?_
                  ·
                   exact trivial
                  refine AWO.nil ?_
                  refine AW.reg hC3  false [] (x3 0 [3006, 3008, 3009]) [12, 20, 24, 32, 36]
                   ⟨((0, sR4 (k2 e a0 a1)) :: (1, cl) :: (17, sL (k2 e a0 a1)) :: (18, sI ((a2 + 1 : Nat) : Int)) :: f1 1000 e a0 a1 [(3006, .ref 24 1 0), (3008, .ref 32 1 0), (3009, .ref 36 1 0)]), [bE e, bC col, (24, .box 1 [sI 0, sI 0]), (32, .box 1 [sI whole03, sI whole13]), (36, .box 1 [sB found3])]⟩
                   [R64 ((a2 + 1 : Nat) : Int)] (by kernel_rfl) ?_ ?_
                  ·
                   refine ⟨?_, trivial⟩
                   ·
                    refine R64.of ?_
                    omega
                  refine AW.back (x := (a2, whole02, whole12, found2)) (a2 + 1, whole03, whole13, found3) (by kernel_rfl) ⟨?_, k26352q, ?_, e26483⟩ ?_
                  ·
                   show True
                   assumption
                  ·
                   show (List.length (Xpr.Kids (k2 e a0 a1))) - (a2 + 1) < k26352q
                   omega
                  ·
                   show (List.length (Xpr.Kids (k2 e a0 a1))) - (a2 + 1) < (List.length (Xpr.Kids (k2 e a0 a1))) - a2
                   omega
                ·
                 intro h26484
                 have h26484q := (of_decide_eq_false h26484)
                 have e26485 := e26351.trans (Go.Am.bif_f h26484)
                 refine AW.keep (x2 1000 [3006, 3008, 3009]) [12, 20, 24, 32, 36] ⟨(f1 1000 e a0 a1 [(3006, .ref 24 1 0), (3008, .ref 32 1 0), (3009, .ref 36 1 0)]), [bE e, bC col, (24, .box 1 [sI 0, sI 0]), (32, .box 1 [sI whole02, sI whole12]), (36, .box 1 [sB found2])]⟩ (by kernel_rfl) ?_
                 refine AW.exit ?_
                 refine AW.meet (whole02, whole12, found2) (by kernel_rfl) ⟨?_, e26485⟩
                 show True
                 assumption
              ·
               intro x hR
               obtain ⟨whole02, whole12, found2⟩ := x
               obtain ⟨hJ2, e26486⟩ := hR
               replace hJ2 : True := hJ2
               have e26487 := e26349.trans (Go.Am.then_eq e26486)
               refine ⟨(whole02, whole12, found2), [], by kernel_rfl, by kernel_rfl, ?_, e26487⟩
               show True
               exact trivial
            ·
             intro x hR
             obtain ⟨whole02, whole12, found2⟩ := x
             obtain ⟨hK14, e26488⟩ := hR
             replace hK14 : True := hK14
             have e26489 := e26337.trans (Go.Am.then_eq e26488)
             refine AWO.run hC2 false [] [] [] (x2 0 [2006, 2008, 2009]) [12, 20, 24, 32, 36]
              ⟨(f1 0 e a0 a1 [(2006, .ref 24 1 0), (2008, .ref 32 1 0), (2009, .ref 36 1 0)]), [bE e, bC col, (24, .box 1 [sI 0, sI 0]), (32, .box 1 [sI whole02, sI whole12]), (36, .box 1 [sB found2])]⟩
              [] (by rfl) (by kernel_rfl) ?_ ?_
             ·
              exact trivial
             refine AWO.nil ?_
             refine AW.reg hC2  false [] (x2 0 [2006, 2008, 2009]) [12, 20, 24, 32, 36]
              ⟨[(0, sR4 (kd e a0)), (1, cl), (17, sL (kd e a0)), (18, sI ((a1 + 1 : Nat) : Int)), (1000, .ref 12 1 0), (1001, cl), (1017, sL e), (1018, sN a0), (2006, .ref 24 1 0), (2008, .ref 32 1 0), (2009, .ref 36 1 0)], [bE e, bC col, (24, .box 1 [sI 0, sI 0]), (32, .box 1 [sI whole02, sI whole12]), (36, .box 1 [sB found2])]⟩
              [R64 ((a1 + 1 : Nat) : Int)] (by kernel_rfl) ?_ ?_
             ·
              refine ⟨?_, trivial⟩
              ·
               refine R64.of ?_
               omega
             refine AW.back (x := (a1, whole01, whole11, found1)) (a1 + 1, whole02, whole12, found2) (by kernel_rfl) ⟨?_, k26335q, ?_, e26489⟩ ?_
             ·
              show True
              assumption
             ·
              show (List.length (Xpr.Kids (kd e a0))) - (a1 + 1) < k26335q
              omega
             ·
              show (List.length (Xpr.Kids (kd e a0))) - (a1 + 1) < (List.length (Xpr.Kids (kd e a0))) - a1
              omega
           ·
            intro h26490
            have h26490q := (of_decide_eq_false h26490)
            have e26491 := e26334.trans (Go.Am.bif_f h26490)
            refine AW.kp [1000, 1001, 1017, 1018, 2006, 2008, 2009] [12, 20, 24, 32, 36] ⟨[(1000, .ref 12 1 0), (1001, cl), (1017, sL e), (1018, sN a0), (2006, .ref 24 1 0), (2008, .ref 32 1 0), (2009, .ref 36 1 0)], [bE e, bC col, (24, .box 1 [sI 0, sI 0]), (32, .box 1 [sI whole01, sI whole11]), (36, .box 1 [sB found1])]⟩ ?_
            refine AW.exit ?_
            refine AW.meet (whole01, whole11, found1) (by kernel_rfl) ⟨?_, e26491⟩
            show True
            assumption
         ·
          intro x hR
          obtain ⟨whole01, whole11, found1⟩ := x
          obtain ⟨hJ1, e26492⟩ := hR
          replace hJ1 : True := hJ1
          have e26493 := e26332.trans (Go.Am.then_eq e26492)
          refine ⟨(whole01, whole11, found1), [], by kernel_rfl, by kernel_rfl, ?_, e26493⟩
          show True
          exact trivial
       ·
        intro x hR
        obtain ⟨whole01, whole11, found1⟩ := x
        obtain ⟨hK15, e26494⟩ := hR
        replace hK15 : True := hK15
        have e26495 := e26320.trans (Go.Am.then_eq e26494)
        refine AWO.run hC1 false [] [] [] [0, 1, 17, 18, 1006, 1008, 1009] [12, 20, 24, 32, 36]
         ⟨[(0, .ref 12 1 0), (1, cl), (17, sL e), (18, sN a0), (1006, .ref 24 1 0), (1008, .ref 32 1 0), (1009, .ref 36 1 0)], [bE e, bC col, (24, .box 1 [sI 0, sI 0]), (32, .box 1 [sI whole01, sI whole11]), (36, .box 1 [sB found1])]⟩
         [] (by rfl) (by kernel_rfl) ?_ ?_
        ·
         exact trivial
        refine AWO.nil ?_
        refine AW.r0 hC1 [0, 1, 17, 18, 1006, 1008, 1009] [12, 20, 24, 32, 36] ⟨[(0, .ref 12 1 0), (1, cl), (17, sL e), (18, sI ((a0 + 1 : Nat) : Int)), (1006, .ref 24 1 0), (1008, .ref 32 1 0), (1009, .ref 36 1 0)], [bE e, bC col, (24, .box 1 [sI 0, sI 0]), (32, .box 1 [sI whole01, sI whole11]), (36, .box 1 [sB found1])]⟩ [R64 ((a0 + 1 : Nat) : Int)] ?_ ?_
        ·
         refine ⟨?_, trivial⟩
         ·
          refine R64.of ?_
          omega
        refine AW.back (x := (a0, whole0, whole1, found)) (a0 + 1, whole01, whole11, found1) (by kernel_rfl) ⟨?_, k26318q, ?_, e26495⟩ ?_
        ·
         show True
         assumption
        ·
         show (List.length (Xpr.Kids e)) - (a0 + 1) < k26318q
         omega
        ·
         show (List.length (Xpr.Kids e)) - (a0 + 1) < (List.length (Xpr.Kids e)) - a0
         omega
      ·
       intro h26496
       have h26496q := (of_decide_eq_false h26496)
       have e26497 := e26317.trans (Go.Am.bif_f h26496)
       refine AW.kp [1006, 1008, 1009] [24, 32, 36] ⟨[(1006, .ref 24 1 0), (1008, .ref 32 1 0), (1009, .ref 36 1 0)], [(24, .box 1 [sI 0, sI 0]), (32, .box 1 [sI whole0, sI whole1]), (36, .box 1 [sB found])]⟩ ?_
       refine AW.exit ?_
       refine AW.meet (whole0, whole1, found) (by kernel_rfl) ⟨?_, e26497⟩
       show True
       assumption
    ·
     intro x hR
     obtain ⟨whole0, whole1, found⟩ := x
     obtain ⟨hJ0, e26498⟩ := hR
     replace hJ0 : True := hJ0
     have e26499 := e26315.trans (Go.Am.then_eq e26498)
     refine ⟨(whole0, whole1, found), [], by kernel_rfl, by kernel_rfl, ?_, e26499⟩
     show True
     exact trivial
  ·
   intro x hR
   obtain ⟨whole0, whole1, found⟩ := x
   obtain ⟨hK16, e26500⟩ := hR
   replace hK16 : True := hK16
   have e26501 := e9.trans (Go.Am.then_eq e26500)
   refine AWO.run hC false [] [] [] [6, 8, 9] [24, 32, 36]
    ⟨[(6, .ref 24 1 0), (8, .ref 32 1 0), (9, .ref 36 1 0)], [(24, .box 1 [sI 0, sI 0]), (32, .box 1 [sI whole0, sI whole1]), (36, .box 1 [sB found])]⟩
    [] (by rfl) (by kernel_rfl) ?_ ?_
   ·
    exact trivial
   refine AWO.nil ?_
   refine AW.seq (AW.seq (AW.r1 hC [6, 8, 28] [24, 32] ⟨[(6, .ref 24 1 0), (8, .ref 32 1 0), (28, sB (!found))], [(24, .box 1 [sI 0, sI 0]), (32, .box 1 [sI whole0, sI whole1])]⟩ ?_))
   refine AW.cd (!found) ?_ ?_
   ·
    intro h26502
    have h26502q := (Go.Am.not_pos h26502)
    have e26503 := e26501.trans (Go.Am.bif_t h26502)
    refine AW.seq (AW.r1 hC [6, 7] [24] ⟨[(6, .ref 24 1 0), (7, sB false)], [(24, .box 1 [sI 0, sI 0])]⟩ ?_)
    exact AW.ret (AW.retE (β := Rng × Bool) (fun v => [⟨(.named 4), v.1⟩, ⟨.bool, v.2⟩]) (fun v => []) (v := ((Rng.mk 0 0), false)) e26503 (by kernel_rfl) rfl rfl)
   ·
    intro h26504
    have h26504q := (Go.Am.not_neg h26504)
    have e26505 := e26501.trans (Go.Am.bif_f h26504)
    refine AW.kp [6, 8] [24, 32] ⟨[(6, .ref 24 1 0), (8, .ref 32 1 0)], [(24, .box 1 [sI 0, sI 0]), (32, .box 1 [sI whole0, sI whole1])]⟩ ?_
    refine AW.skip (AW.seq (AW.r1 hC [6, 7] [24] ⟨[(6, .ref 24 1 0), (7, sB true)], [(24, .box 1 [sI whole0, sI whole1])]⟩ ?_))
    exact AW.ret (AW.retE (β := Rng × Bool) (fun v => [⟨(.named 4), v.1⟩, ⟨.bool, v.2⟩]) (fun v => []) (v := ((Rng.mk whole0 whole1), true)) e26505 (by kernel_rfl) rfl rfl)

end
end Go.Proofs.Ytbgbekpbbcahpaa
