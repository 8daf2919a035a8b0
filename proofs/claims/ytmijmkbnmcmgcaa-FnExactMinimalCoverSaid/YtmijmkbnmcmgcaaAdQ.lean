/-
  A part of the proof of this claim (AdQ): what functions of the program compute, and plain facts of that. No conditions.
-/
import Derived.Test.YtmijmkbnmcmgcaaAdP
set_option linter.all false
namespace Go.Proofs.Ytmijmkbnmcmgcaa
open Go Go.Am
noncomputable section

def iMinimalCover_l1 (fds : List Dep) (width : Int) (v21 : Nat) : Nat → Nat → (List Dep) → (List Dep)
 | 0, v26, list1 => list1
 | k + 1, v26, list1 => (bif (decide (((v26 : Nat) : Int) < width)) then (bif (bif (contains (Dep.To (List.getD fds v21 Dep.zero)) ((1 : Int) * 2 ^ v26)) then (!(contains (Dep.From (List.getD fds v21 Dep.zero)) ((1 : Int) * 2 ^ v26))) else false) then (iMinimalCover_l1 fds width v21 k (v26 + 1) (list1 ++ ([(Dep.mk (Dep.From (List.getD fds v21 Dep.zero)) ((1 : Int) * 2 ^ v26))] : List Dep))) else (iMinimalCover_l1 fds width v21 k (v26 + 1) list1)) else list1)

def iMinimalCover_l0 (fds : List Dep) (width : Int) : Nat → Nat → (List Dep) → (List Dep)
 | 0, v21, list => list
 | k + 1, v21, list => (bif (decide (((v21 : Nat) : Int) < ((List.length fds : Nat) : Int))) then (Go.Am.andThen (iMinimalCover_l1 fds width v21 (Int.toNat (width - ((0 : Nat) : Int)) + 1) 0 list) (fun z => (fun (list1 : List Dep) => (iMinimalCover_l0 fds width k (v21 + 1) list1)) z)) else list)

def iMinimalCover_l3 (width : Int) (v53 : Nat) : Nat → Nat → (List Dep) → (List Dep)
 | 0, v57, list2 => list2
 | k + 1, v57, list2 => (bif (decide (((v57 : Nat) : Int) < width)) then (bif (bif (!(bif ((bits .andNot .i64 (Dep.From (List.getD list2 v53 Dep.zero)) ((1 : Int) * 2 ^ v57)) == (Dep.From (List.getD list2 v53 Dep.zero))) then (bif ((Dep.To (List.getD list2 v53 Dep.zero)) == (Dep.To (List.getD list2 v53 Dep.zero))) then true else false) else false)) then (iimplies list2 (Dep.mk (bits .andNot .i64 (Dep.From (List.getD list2 v53 Dep.zero)) ((1 : Int) * 2 ^ v57)) (Dep.To (List.getD list2 v53 Dep.zero)))) else false) then (iMinimalCover_l3 width v53 k (v57 + 1) (List.set list2 v53 (Dep.mk (bits .andNot .i64 (Dep.From (List.getD list2 v53 Dep.zero)) ((1 : Int) * 2 ^ v57)) (Dep.To (List.getD list2 v53 Dep.zero))))) else (iMinimalCover_l3 width v53 k (v57 + 1) list2)) else list2)

def iMinimalCover_l2 (width : Int) (list : List Dep) : Nat → Nat → (List Dep) → (List Dep)
 | 0, v53, list1 => list1
 | k + 1, v53, list1 => (bif (decide (((v53 : Nat) : Int) < ((List.length list : Nat) : Int))) then (Go.Am.andThen (iMinimalCover_l3 width v53 (Int.toNat (width - ((0 : Nat) : Int)) + 1) 0 list1) (fun z => (fun (list2 : List Dep) => (iMinimalCover_l2 width list k (v53 + 1) list2)) z)) else list1)

def iMinimalCover_l4 : Nat → (List Dep) → Nat → (List Dep)
 | 0, list2, i => list2
 | k + 1, list2, i => (bif (decide (((i : Nat) : Int) < ((List.length list2 : Nat) : Int))) then (bif (iimplies (concat ([(List.take i list2), (List.drop (i + 1) list2)] : List (List Dep))) (List.getD list2 i Dep.zero)) then (iMinimalCover_l4 k (concat ([(List.take i list2), (List.drop (i + 1) list2)] : List (List Dep))) i) else (iMinimalCover_l4 k list2 (i + 1))) else list2)

def iMinimalCover (fds : List Dep) (width : Int) : (List Dep) := (bif (!(ValidDependencies fds width)) then ([] : List Dep) else (Go.Am.andThen (iMinimalCover_l0 fds width ((List.length fds) - 0 + 1) 0 ([] : List Dep)) (fun z => (fun (list : List Dep) => (Go.Am.andThen (iMinimalCover_l2 width list ((List.length list) - 0 + 1) 0 list) (fun z => (fun (list1 : List Dep) => (Go.Am.andThen (iMinimalCover_l4 (List.length list1 - 0 + 1) list1 0) (fun z => (fun (list2 : List Dep) => list2) z))) z))) z)))

end
end Go.Proofs.Ytmijmkbnmcmgcaa
