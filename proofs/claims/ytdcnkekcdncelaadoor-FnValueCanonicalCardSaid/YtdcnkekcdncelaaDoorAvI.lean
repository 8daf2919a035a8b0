/-
  A part of the proof of this claim (AvI): what functions of the program compute, and plain facts of that. No conditions.
-/
import Derived.Test.YtdcnkekcdncelaaDoorAvH
import Derived.Shelf.Strconv.AtoiAll
import Derived.Shelf.Strconv.Itoa3
import Derived.Test.YtdcnkekcdncelaaDoorAv1
set_option linter.all false
namespace Go.Proofs
open Go Go.Shelf
def Tryd.lays171_ren : Go.Shelf.Ren := ⟨fun | 171 => 23 | 243 => 33 | 246 => 40 | 283 => 44 | 284 => 45 | 285 => 46 | 286 => 47 | 129 => 51 | 317 => 50 | 318 => 52 | 319 => 53 | 320 => 54 | 337 => 55 | 338 => 56 | n => n, fun | 3 => 3 | 9 => 9 | 2 => 2 | 4 => 4 | 171 => 72 | 0 => 0 | 53 => 64 | 37 => 28 | 5 => 5 | 173 => 75 | 212 => 83 | 51 => 84 | 20 => 20 | 213 => 85 | 46 => 67 | 232 => 89 | 233 => 90 | n => n, fun | 17 => 2 | 18 => 3 | 19 => 4 | n => n⟩
theorem Tryd.lays171 : Go.Proofs.LaysM.n171 Tryd.prog Tryd.lays171_ren :=
 {
  mixed := by kernel_rfl,
  f129 := Tryd.func51.trans (congrArg some (by kernel_rfl)),
  f171 := Tryd.func23.trans (congrArg some (by kernel_rfl)),
  f243 := Tryd.func33.trans (congrArg some (by kernel_rfl)),
  f246 := Tryd.func40.trans (congrArg some (by kernel_rfl)),
  f283 := Tryd.func44.trans (congrArg some (by kernel_rfl)),
  f284 := Tryd.func45.trans (congrArg some (by kernel_rfl)),
  f285 := Tryd.func46.trans (congrArg some (by kernel_rfl)),
  f286 := Tryd.func47.trans (congrArg some (by kernel_rfl)),
  f317 := Tryd.func50.trans (congrArg some (by kernel_rfl)),
  f318 := Tryd.func52.trans (congrArg some (by kernel_rfl)),
  f319 := Tryd.func53.trans (congrArg some (by kernel_rfl)),
  f320 := Tryd.func54.trans (congrArg some (by kernel_rfl)),
  f337 := Tryd.func55.trans (congrArg some (by kernel_rfl)),
  f338 := Tryd.func56.trans (congrArg some (by kernel_rfl)),
  t0 := Tryd.underlying0,
  a0 := Tryd.isAgg0,
  z0 := Tryd.sizeOf0,
  v0 := Tryd.zeroValue0,
  t2 := Tryd.underlying2,
  a2 := Tryd.isAgg2,
  z2 := Tryd.sizeOf2,
  v2 := Tryd.zeroValue2,
  t3 := Tryd.underlying3,
  a3 := Tryd.isAgg3,
  z3 := Tryd.sizeOf3,
  v3 := Tryd.zeroValue3,
  t4 := Tryd.underlying4,
  a4 := Tryd.isAgg4,
  z4 := Tryd.sizeOf4,
  v4 := Tryd.zeroValue4,
  t5 := Tryd.underlying5,
  a5 := Tryd.isAgg5,
  z5 := Tryd.sizeOf5,
  v5 := Tryd.zeroValue5,
  t9 := Tryd.underlying9,
  a9 := Tryd.isAgg9,
  z9 := Tryd.sizeOf9,
  v9 := Tryd.zeroValue9,
  t20 := Tryd.underlying20,
  a20 := Tryd.isAgg20,
  z20 := Tryd.sizeOf20,
  v20 := Tryd.zeroValue20,
  t37 := Tryd.underlying28,
  a37 := Tryd.isAgg28,
  z37 := Tryd.sizeOf28,
  v37 := Tryd.zeroValue28,
  t46 := Tryd.underlying67,
  a46 := Tryd.isAgg67,
  z46 := Tryd.sizeOf67,
  v46 := Tryd.zeroValue67,
  t51 := Tryd.underlying84,
  a51 := Tryd.isAgg84,
  z51 := Tryd.sizeOf84,
  v51 := Tryd.zeroValue84,
  t53 := Tryd.underlying64,
  a53 := Tryd.isAgg64,
  z53 := Tryd.sizeOf64,
  v53 := Tryd.zeroValue64,
  t171 := Tryd.underlying72,
  a171 := Tryd.isAgg72,
  z171 := Tryd.sizeOf72,
  v171 := Tryd.zeroValue72,
  t173 := Tryd.underlying75,
  a173 := Tryd.isAgg75,
  z173 := Tryd.sizeOf75,
  v173 := Tryd.zeroValue75,
  t212 := Tryd.underlying83,
  a212 := Tryd.isAgg83,
  z212 := Tryd.sizeOf83,
  v212 := Tryd.zeroValue83,
  t213 := Tryd.underlying85,
  a213 := Tryd.isAgg85,
  z213 := Tryd.sizeOf85,
  t232 := Tryd.underlying89,
  a232 := Tryd.isAgg89,
  z232 := Tryd.sizeOf89,
  v232 := Tryd.zeroValue89,
  t233 := Tryd.underlying90,
  a233 := Tryd.isAgg90,
  z233 := Tryd.sizeOf90,
  v233 := Tryd.zeroValue90,
  g17 := by kernel_rfl,
  g18 := by kernel_rfl,
  g19 := by kernel_rfl,
  i0 := by kernel_rfl,
  i2 := by kernel_rfl,
  i3 := by kernel_rfl,
  i4 := by kernel_rfl,
  i5 := by kernel_rfl,
  i9 := by kernel_rfl,
  i20 := by kernel_rfl,
  i37 := by kernel_rfl,
  i46 := by kernel_rfl,
  i51 := by kernel_rfl,
  i53 := by kernel_rfl,
  i171 := by kernel_rfl,
  i173 := by kernel_rfl,
  i212 := by kernel_rfl,
  i232 := by kernel_rfl,
  i233 := by kernel_rfl,
  m17 := by kernel_rfl,
  m18 := by kernel_rfl,
  m19 := by kernel_rfl }

def Tryd.lays172_ren : Go.Shelf.Ren := ⟨fun | 172 => 18 | 244 => 29 | 245 => 30 | 247 => 35 | 279 => 36 | 280 => 37 | 281 => 38 | 282 => 39 | 287 => 41 | 316 => 42 | 171 => 23 | 205 => 43 | 321 => 48 | 322 => 49 | 243 => 33 | 246 => 40 | 283 => 44 | 284 => 45 | 285 => 46 | 286 => 47 | 129 => 51 | 317 => 50 | 318 => 52 | 319 => 53 | 320 => 54 | 337 => 55 | 338 => 56 | n => n, fun | 9 => 9 | 3 => 3 | 75 => 37 | 76 => 38 | 4 => 4 | 5 => 5 | 167 => 57 | 37 => 28 | 0 => 0 | 85 => 58 | 2 => 2 | 168 => 60 | 53 => 64 | 175 => 65 | 46 => 67 | 210 => 70 | 127 => 78 | 145 => 81 | 143 => 79 | 21 => 21 | 171 => 72 | 173 => 75 | 212 => 83 | 51 => 84 | 20 => 20 | 213 => 85 | 232 => 89 | 233 => 90 | 80 => 91 | n => n, fun | 15 => 0 | 16 => 1 | 17 => 2 | 18 => 3 | 19 => 4 | n => n⟩
theorem Tryd.lays172 : Go.Proofs.LaysC.n172 Tryd.prog Tryd.lays172_ren :=
 {
  mixed := by kernel_rfl,
  f129 := Tryd.func51.trans (congrArg some (by kernel_rfl)),
  f171 := Tryd.func23.trans (congrArg some (by kernel_rfl)),
  f172 := Tryd.func18.trans (congrArg some (by kernel_rfl)),
  f205 := Tryd.func43.trans (congrArg some (by kernel_rfl)),
  f243 := Tryd.func33.trans (congrArg some (by kernel_rfl)),
  f244 := Tryd.func29.trans (congrArg some (by kernel_rfl)),
  f245 := Tryd.func30.trans (congrArg some (by kernel_rfl)),
  f246 := Tryd.func40.trans (congrArg some (by kernel_rfl)),
  f247 := Tryd.func35.trans (congrArg some (by kernel_rfl)),
  f279 := Tryd.func36.trans (congrArg some (by kernel_rfl)),
  f280 := Tryd.func37.trans (congrArg some (by kernel_rfl)),
  f281 := Tryd.func38.trans (congrArg some (by kernel_rfl)),
  f282 := Tryd.func39.trans (congrArg some (by kernel_rfl)),
  f283 := Tryd.func44.trans (congrArg some (by kernel_rfl)),
  f284 := Tryd.func45.trans (congrArg some (by kernel_rfl)),
  f285 := Tryd.func46.trans (congrArg some (by kernel_rfl)),
  f286 := Tryd.func47.trans (congrArg some (by kernel_rfl)),
  f287 := Tryd.func41.trans (congrArg some (by kernel_rfl)),
  f316 := Tryd.func42.trans (congrArg some (by kernel_rfl)),
  f317 := Tryd.func50.trans (congrArg some (by kernel_rfl)),
  f318 := Tryd.func52.trans (congrArg some (by kernel_rfl)),
  f319 := Tryd.func53.trans (congrArg some (by kernel_rfl)),
  f320 := Tryd.func54.trans (congrArg some (by kernel_rfl)),
  f321 := Tryd.func48.trans (congrArg some (by kernel_rfl)),
  f322 := Tryd.func49.trans (congrArg some (by kernel_rfl)),
  f337 := Tryd.func55.trans (congrArg some (by kernel_rfl)),
  f338 := Tryd.func56.trans (congrArg some (by kernel_rfl)),
  t0 := Tryd.underlying0,
  a0 := Tryd.isAgg0,
  z0 := Tryd.sizeOf0,
  v0 := Tryd.zeroValue0,
  t2 := Tryd.underlying2,
  a2 := Tryd.isAgg2,
  z2 := Tryd.sizeOf2,
  v2 := Tryd.zeroValue2,
  t3 := Tryd.underlying3,
  a3 := Tryd.isAgg3,
  z3 := Tryd.sizeOf3,
  v3 := Tryd.zeroValue3,
  t4 := Tryd.underlying4,
  a4 := Tryd.isAgg4,
  z4 := Tryd.sizeOf4,
  v4 := Tryd.zeroValue4,
  t5 := Tryd.underlying5,
  a5 := Tryd.isAgg5,
  z5 := Tryd.sizeOf5,
  v5 := Tryd.zeroValue5,
  t9 := Tryd.underlying9,
  a9 := Tryd.isAgg9,
  z9 := Tryd.sizeOf9,
  v9 := Tryd.zeroValue9,
  t20 := Tryd.underlying20,
  a20 := Tryd.isAgg20,
  z20 := Tryd.sizeOf20,
  v20 := Tryd.zeroValue20,
  t21 := Tryd.underlying21,
  a21 := Tryd.isAgg21,
  z21 := Tryd.sizeOf21,
  v21 := Tryd.zeroValue21,
  t37 := Tryd.underlying28,
  a37 := Tryd.isAgg28,
  z37 := Tryd.sizeOf28,
  v37 := Tryd.zeroValue28,
  t46 := Tryd.underlying67,
  a46 := Tryd.isAgg67,
  z46 := Tryd.sizeOf67,
  v46 := Tryd.zeroValue67,
  t51 := Tryd.underlying84,
  a51 := Tryd.isAgg84,
  z51 := Tryd.sizeOf84,
  v51 := Tryd.zeroValue84,
  t53 := Tryd.underlying64,
  a53 := Tryd.isAgg64,
  z53 := Tryd.sizeOf64,
  v53 := Tryd.zeroValue64,
  t75 := Tryd.underlying37,
  a75 := Tryd.isAgg37,
  z75 := Tryd.sizeOf37,
  v75 := Tryd.zeroValue37,
  t76 := Tryd.underlying38,
  a76 := Tryd.isAgg38,
  z76 := Tryd.sizeOf38,
  v76 := Tryd.zeroValue38,
  t85 := Tryd.underlying58,
  a85 := Tryd.isAgg58,
  z85 := Tryd.sizeOf58,
  v85 := Tryd.zeroValue58,
  t127 := Tryd.underlying78,
  a127 := Tryd.isAgg78,
  z127 := Tryd.sizeOf78,
  v127 := Tryd.zeroValue78,
  t143 := Tryd.underlying79,
  a143 := Tryd.isAgg79,
  z143 := Tryd.sizeOf79,
  v143 := Tryd.zeroValue79,
  t145 := Tryd.underlying81,
  a145 := Tryd.isAgg81,
  z145 := Tryd.sizeOf81,
  v145 := Tryd.zeroValue81,
  t167 := Tryd.underlying57,
  a167 := Tryd.isAgg57,
  z167 := Tryd.sizeOf57,
  v167 := Tryd.zeroValue57,
  t168 := Tryd.underlying60,
  a168 := Tryd.isAgg60,
  z168 := Tryd.sizeOf60,
  v168 := Tryd.zeroValue60,
  t171 := Tryd.underlying72,
  a171 := Tryd.isAgg72,
  z171 := Tryd.sizeOf72,
  v171 := Tryd.zeroValue72,
  t173 := Tryd.underlying75,
  a173 := Tryd.isAgg75,
  z173 := Tryd.sizeOf75,
  v173 := Tryd.zeroValue75,
  t175 := Tryd.underlying65,
  a175 := Tryd.isAgg65,
  z175 := Tryd.sizeOf65,
  v175 := Tryd.zeroValue65,
  t210 := Tryd.underlying70,
  a210 := Tryd.isAgg70,
  z210 := Tryd.sizeOf70,
  v210 := Tryd.zeroValue70,
  t212 := Tryd.underlying83,
  a212 := Tryd.isAgg83,
  z212 := Tryd.sizeOf83,
  v212 := Tryd.zeroValue83,
  t213 := Tryd.underlying85,
  a213 := Tryd.isAgg85,
  z213 := Tryd.sizeOf85,
  t232 := Tryd.underlying89,
  a232 := Tryd.isAgg89,
  z232 := Tryd.sizeOf89,
  v232 := Tryd.zeroValue89,
  t233 := Tryd.underlying90,
  a233 := Tryd.isAgg90,
  z233 := Tryd.sizeOf90,
  v233 := Tryd.zeroValue90,
  g15 := by kernel_rfl,
  g16 := by kernel_rfl,
  g17 := by kernel_rfl,
  g18 := by kernel_rfl,
  g19 := by kernel_rfl,
  t80 := Tryd.underlying91,
  a80 := Tryd.isAgg91,
  z80 := Tryd.sizeOf91,
  v80 := Tryd.zeroValue91,
  i0 := by kernel_rfl,
  i2 := by kernel_rfl,
  i3 := by kernel_rfl,
  i4 := by kernel_rfl,
  i5 := by kernel_rfl,
  i9 := by kernel_rfl,
  i20 := by kernel_rfl,
  i21 := by kernel_rfl,
  i37 := by kernel_rfl,
  i46 := by kernel_rfl,
  i51 := by kernel_rfl,
  i53 := by kernel_rfl,
  i75 := by kernel_rfl,
  i76 := by kernel_rfl,
  i80 := by kernel_rfl,
  i85 := by kernel_rfl,
  i127 := by kernel_rfl,
  i143 := by kernel_rfl,
  i145 := by kernel_rfl,
  i167 := by kernel_rfl,
  i168 := by kernel_rfl,
  i171 := by kernel_rfl,
  i173 := by kernel_rfl,
  i175 := by kernel_rfl,
  i210 := by kernel_rfl,
  i212 := by kernel_rfl,
  i232 := by kernel_rfl,
  i233 := by kernel_rfl,
  m15 := by kernel_rfl,
  m16 := by kernel_rfl,
  m17 := by kernel_rfl,
  m18 := by kernel_rfl,
  m19 := by kernel_rfl,
  c0 := by kernel_rfl,
  c2 := by kernel_rfl,
  c3 := by kernel_rfl,
  c4 := by kernel_rfl,
  c5 := by kernel_rfl,
  c9 := by kernel_rfl,
  c20 := by kernel_rfl,
  c21 := by kernel_rfl,
  c37 := by kernel_rfl,
  c46 := by kernel_rfl,
  c51 := by kernel_rfl,
  c53 := by kernel_rfl,
  c75 := by kernel_rfl,
  c76 := by kernel_rfl,
  c80 := by kernel_rfl,
  c85 := by kernel_rfl,
  c127 := by kernel_rfl,
  c143 := by kernel_rfl,
  c145 := by kernel_rfl,
  c167 := by kernel_rfl,
  c168 := by kernel_rfl,
  c171 := by kernel_rfl,
  c173 := by kernel_rfl,
  c175 := by kernel_rfl,
  c210 := by kernel_rfl,
  c212 := by kernel_rfl,
  c213 := by kernel_rfl,
  c232 := by kernel_rfl,
  c233 := by kernel_rfl }

end Go.Proofs
namespace Go.Proofs.YtdcnkekcdncelaaDoor
open Go Go.Am Go.RowKit
noncomputable section

theorem itoa_ok : FnOK Tryd.prog 23 itoa_sp := by
 refine ⟨⟨_, Tryd.func23, by kernel_rfl, rfl⟩, ?_⟩; intro A w vs tvs bs hA hbs hnd hargs _ hG
 cases hargs with
 | val t n v ps vs tvs bs h k =>
 cases k
 cases h with
 | one t n v ht hc =>
 cases hc with
 | int k n lo hi =>
 have hsz := itoaS_small n lo hi; refine (Any.strconv_Itoa Tryd.lays171 n lo hi w hG.2.1).mono ?_; rintro e w' ⟨rfl, k, os, rfl⟩; refine ⟨[.string (itoaS n)], [], A, ?_⟩
 exact {
  ret := rfl, os := rfl, tape := rfl, output := ⟨rfl, Nat.le_refl _⟩
  grow := by simp [Go.Sort.grow]
  old := fun b hb _ => by rw [Go.Sort.heap_grow_old _ _ (by simpa using hb)]; simp
  allowed := fun b hb => ⟨by have := (hA b hb).1; simp [Go.Sort.grow]; omega, .inl hb, by simp⟩
  nodup := List.nodup_nil
  new := by simp
  ress := .val _ _ _ _ _ _ _ (.one _ _ _ (by simp) (.str _ hsz)) .nil
  boxes := .nil }

theorem atoi_post {A : Nat → Prop} {w w' : World} {s : ByteArray} (hA : ∀ b, A b → b < w.heap.size ∧ b ∉ ([] : List Nat)) (hb : Below w.heap.size w w') {e : Ending} {n : Int} {b : Bool} {v : Value}
  (he : e = .returned (.tuple #[.int .i64 n, v])) (hn : atoiN s = n ∧ atoiE s = b) (hr : inR .i64 n) (hv : if b then ∃ T x, v = .iface T x else v = .nilIface) :
  ∃ rvs nb A', Post A w [] atoi_sp [⟨.str, s⟩] e w' rvs nb A' := by
 obtain ⟨rfl, rfl⟩ := hn; refine ⟨[.int .i64 (atoiN s), v], [], A, ?_⟩
 refine {
  ret := he, os := hb.os, tape := hb.tape, output := ⟨hb.output, Nat.le_refl _⟩
  grow := hb.size
  old := fun b hb' _ => hb.block b hb'
  allowed := fun b hb' => ⟨Nat.lt_of_lt_of_le (hA b hb').1 hb.size, .inl hb', by simp⟩
  nodup := List.nodup_nil
  new := by simp
  ress := .val _ _ _ _ _ _ _ (.one _ _ _ (by simp) (.int _ _ hr.1 hr.2)) ?_
  boxes := .nil }
 cases hE : atoiE s with
 | true =>
  rw [hE] at hv; obtain ⟨T, x, rfl⟩ := hv; exact .err1 T x _ _ _ _ .nil
 | false =>
  rw [hE] at hv; obtain rfl := hv; exact .err0 _ _ _ _ .nil

theorem atoi_ok : FnOK Tryd.prog 18 atoi_sp := by
 refine ⟨⟨_, Tryd.func18, by kernel_rfl, rfl⟩, ?_⟩; intro A w vs tvs bs hA hbs hnd hargs hpre hG
 cases hargs with
 | val t s v ps vs tvs bs h k =>
 cases k
 cases h with
 | one t s v ht hc =>
 cases hc with
 | str s hs =>
 have hl : s.size ≤ 281474976710656 := by
  have : ((ByteArray.size s : Nat) : Int) ≤ 281474976710656 := hpre; omega
 cases h : Lib.atoiAll s.data.toList
 ·
  rename_i z; have hz := Lib.atoiAll_bounds h; refine (Any.strconv_Atoi_ok Tryd.lays172 s (by omega) z h w).mono ?_; rintro e w' ⟨he, hw⟩
  have hb : Below w.heap.size w w' := by
   rcases hw with rfl | ⟨t, rfl⟩
   · exact Below.refl _ _
   · exact Lib.bytesWorld_below _ _ _
  exact atoi_post (b := false) hA hb he ⟨by simp only [atoiN, h], by simp only [atoiE, h]⟩ hz rfl
 · obtain ⟨ev, e1, e2⟩ := hG.2.2.1; refine (Any.strconv_Atoi_syntax Tryd.lays172 s hl h ev w e1 e2).mono ?_; rintro e w' ⟨N, he, _, _, hb⟩; exact atoi_post (b := true) hA hb he ⟨by simp only [atoiN, h], by simp only [atoiE, h]⟩ ⟨by decide, by decide⟩ ⟨_, _, rfl⟩
 · obtain ⟨ev, e1, e2⟩ := hG.2.2.2; have hz := Lib.atoiSat_bounds s.data.toList; refine (Any.strconv_Atoi_range Tryd.lays172 s hl h ev w e1 e2).mono ?_; rintro e w' ⟨N, he, _, _, hb⟩; exact atoi_post (b := true) hA hb he ⟨by simp only [atoiN, h], by simp only [atoiE, h]⟩ hz ⟨_, _, rfl⟩

end
end Go.Proofs.YtdcnkekcdncelaaDoor
