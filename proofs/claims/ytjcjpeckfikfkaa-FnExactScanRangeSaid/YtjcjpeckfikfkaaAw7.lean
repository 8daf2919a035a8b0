/-
  A part of the proof of this claim (Aw7): what functions of the program compute, and plain facts of that. No conditions.
-/
import Derived.Test.YtjcjpeckfikfkaaAw5
set_option linter.all false
namespace Go.Proofs.Ytjcjpeckfikfkaa
open Go Go.Am
noncomputable section

def sortRows_ren : Go.Shelf.Ren := ⟨fun | 6 => 96 | 15 => 113 | 14 => 112 | 28 => 125 | 29 => 126 | 20 => 117 | 21 => 118 | 22 => 119 | 23 => 120 | 24 => 121 | 25 => 122 | 26 => 123 | 27 => 124 | 46 => 128 | 47 => 129 | 48 => 130 | 49 => 131 | 50 => 132 | 57 => 134 | n => n, fun | 22 => 23 | 24 => 31 | 25 => 92 | 3 => 3 | 39 => 124 | 0 => 0 | 53 => 140 | 55 => 142 | 4 => 4 | 46 => 134 | 45 => 133 | 50 => 99 | 5 => 5 | 9 => 9 | 66 => 143 | 70 => 147 | 76 => 149 | 77 => 150 | n => n, fun | n => n⟩
theorem sortRows : Go.Proofs.SlLaysF.n6 Try.prog sortRows_ren :=
 {
  mixed := by kernel_rfl,
  f6 := ⟨Try.f96.name, by decide, Try.func96.trans (congrArg some (by kernel_rfl))⟩,
  f14 := ⟨Try.f112.name, by decide, Try.func112.trans (congrArg some (by kernel_rfl))⟩,
  f15 := Try.func113.trans (congrArg some (by kernel_rfl)),
  f20 := ⟨Try.f117.name, by decide, Try.func117.trans (congrArg some (by kernel_rfl))⟩,
  f21 := ⟨Try.f118.name, by decide, Try.func118.trans (congrArg some (by kernel_rfl))⟩,
  f22 := ⟨Try.f119.name, by decide, Try.func119.trans (congrArg some (by kernel_rfl))⟩,
  f23 := ⟨Try.f120.name, by decide, Try.func120.trans (congrArg some (by kernel_rfl))⟩,
  f24 := ⟨Try.f121.name, by decide, Try.func121.trans (congrArg some (by kernel_rfl))⟩,
  f25 := ⟨Try.f122.name, by decide, Try.func122.trans (congrArg some (by kernel_rfl))⟩,
  f26 := ⟨Try.f123.name, by decide, Try.func123.trans (congrArg some (by kernel_rfl))⟩,
  f27 := ⟨Try.f124.name, by decide, Try.func124.trans (congrArg some (by kernel_rfl))⟩,
  f28 := Try.func125.trans (congrArg some (by kernel_rfl)),
  f29 := Try.func126.trans (congrArg some (by kernel_rfl)),
  f46 := ⟨Try.f128.name, by decide, Try.func128.trans (congrArg some (by kernel_rfl))⟩,
  f47 := Try.func129.trans (congrArg some (by kernel_rfl)),
  f48 := Try.func130.trans (congrArg some (by kernel_rfl)),
  f49 := ⟨Try.f131.name, by decide, Try.func131.trans (congrArg some (by kernel_rfl))⟩,
  f50 := ⟨Try.f132.name, by decide, Try.func132.trans (congrArg some (by kernel_rfl))⟩,
  f57 := ⟨Try.f134.name, by decide, Try.func134.trans (congrArg some (by kernel_rfl))⟩,
  t0 := Try.underlying0,
  a0 := Try.isAgg0,
  z0 := Try.sizeOf0,
  v0 := Try.zeroValue0,
  t3 := Try.underlying3,
  a3 := Try.isAgg3,
  z3 := Try.sizeOf3,
  v3 := Try.zeroValue3,
  t4 := Try.underlying4,
  a4 := Try.isAgg4,
  z4 := Try.sizeOf4,
  v4 := Try.zeroValue4,
  t5 := Try.underlying5,
  a5 := Try.isAgg5,
  z5 := Try.sizeOf5,
  v5 := Try.zeroValue5,
  t9 := Try.underlying9,
  a9 := Try.isAgg9,
  z9 := Try.sizeOf9,
  v9 := Try.zeroValue9,
  t22 := Try.underlying23,
  a22 := Try.isAgg23,
  z22 := Try.sizeOf23,
  v22 := Try.zeroValue23,
  a24 := Try.isAgg31,
  z24 := Try.sizeOf31,
  t25 := Try.underlying92,
  a25 := Try.isAgg92,
  z25 := Try.sizeOf92,
  v25 := Try.zeroValue92,
  t39 := Try.underlying124,
  a39 := Try.isAgg124,
  z39 := Try.sizeOf124,
  v39 := Try.zeroValue124,
  t45 := Try.underlying133,
  a45 := Try.isAgg133,
  z45 := Try.sizeOf133,
  v45 := Try.zeroValue133,
  t46 := Try.underlying134,
  a46 := Try.isAgg134,
  z46 := Try.sizeOf134,
  v46 := Try.zeroValue134,
  t50 := Try.underlying99,
  a50 := Try.isAgg99,
  z50 := Try.sizeOf99,
  v50 := Try.zeroValue99,
  t53 := Try.underlying140,
  a53 := Try.isAgg140,
  z53 := Try.sizeOf140,
  v53 := Try.zeroValue140,
  t55 := Try.underlying142,
  a55 := Try.isAgg142,
  z55 := Try.sizeOf142,
  v55 := Try.zeroValue142,
  t66 := Try.underlying143,
  a66 := Try.isAgg143,
  z66 := Try.sizeOf143,
  v66 := Try.zeroValue143,
  t70 := Try.underlying147,
  a70 := Try.isAgg147,
  z70 := Try.sizeOf147,
  v70 := Try.zeroValue147,
  t76 := Try.underlying149,
  a76 := Try.isAgg149,
  z76 := Try.sizeOf149,
  v76 := Try.zeroValue149,
  t77 := Try.underlying150,
  a77 := Try.isAgg150,
  z77 := Try.sizeOf150,
  v77 := Try.zeroValue150 }

end
end Go.Proofs.Ytjcjpeckfikfkaa


namespace Go.Proofs.Ytjcjpeckfikfkaa
open Go Go.Am
noncomputable section

theorem getD_mem_row {rows : List (List Val)} {r : List Val} (h : r ∈ rows) : ∃ i, i < rows.length ∧ rows.getD i [] = r := by
 obtain ⟨i, hi, rfl⟩ := List.mem_iff_getElem.1 h
 exact ⟨i, hi, by rw [List.getD_eq_getElem?_getD, List.getElem?_eq_getElem hi]; rfl⟩

theorem RowsW.of_getD {wd : Nat} {rows : List (List Val)} (h : ∀ j : Nat, j < rows.length → VR (rows.getD j []) ∧ (rows.getD j []).length = wd) : RowsW wd rows := fun r hr => by
 obtain ⟨i, hi, rfl⟩ := getD_mem_row hr
 exact h i hi

theorem rows_of_getD {w : Int} {rows : List (List Val)} (h : ∀ j : Nat, j < rows.length → VR (rows.getD j []) ∧ (((rows.getD j []).length : Nat) : Int) = w) : RowsOK rows :=
 ⟨w.toNat, RowsW.of_getD fun j hj => ⟨(h j hj).1, by have := (h j hj).2; omega⟩⟩

end
end Go.Proofs.Ytjcjpeckfikfkaa
