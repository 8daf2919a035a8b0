/-
  A part of the proof of this claim (AoX): what functions of the program compute, and plain facts of that. No conditions.
-/
import Derived.Test.YtclennmbceaoeaaAoJ
import Derived.Test.YtclennmbceaoeaaAo8
set_option linter.all false
namespace Go.Proofs.Ytclennmbceaoeaa
open Go Go.Am

def sumAt (c : List Int) (mask : Nat) (v : Int) : Int := List.getD c v.toNat 0 + List.getD c (mask - v.toNat) 0

def mn (c : List Int) (mask : Nat) : List Int → Int × Int → Int × Int
 | [], b => b
 | v :: l, b => mn c mask l (bif (bif decide (b.1 < 0) then true else decide (sumAt c mask v < b.1)) then (sumAt c mask v, v) else b)

def val (g : Graph) (mask : Nat) (b : Int × Int) : Int := bif decide (b.1 < 0) then 0 else b.1 + subsetSize g (mask : Int)

def Part (mask : Nat) (v : Int) : Prop := 1 ≤ v ∧ v < (mask : Int) ∧ bits .andNot .i64 v (mask : Int) = 0

def Ok (b : Int × Int) : Prop := (b.1 = -1 ∧ b.2 = 0) ∨ (0 ≤ b.1 ∧ b.2 ≠ 0)

theorem mn_congr {c c' : List Int} {mask : Nat} : ∀ (l : List Int) (b : Int × Int), (∀ v ∈ l, sumAt c mask v = sumAt c' mask v) → mn c mask l b = mn c' mask l b := by
 intro l
 induction l with
 | nil => intro b _; rfl
 | cons v l ih =>
  intro b hl; show mn c mask l _ = mn c' mask l _; rw [hl v (List.mem_cons_self ..)]; exact ih _ (fun x hx => hl x (List.mem_cons_of_mem _ hx))

theorem getD_set_ne (c : List Int) {i j : Nat} (x : Int) (h : i ≠ j) : List.getD (List.set c i x) j 0 = List.getD c j 0 := by
 simp only [List.getD_eq_getElem?_getD, List.getElem?_set]; rw [if_neg h]

theorem getD_set_eq (c : List Int) {i : Nat} (x : Int) (h : i < c.length) : List.getD (List.set c i x) i 0 = x := by
 simp only [List.getD_eq_getElem?_getD, List.getElem?_set]; simp [h]

theorem Part.rest {mask : Nat} (hm : mask < 32) {v : Int} (h : Part mask v) : 1 ≤ v ∧ v < (mask : Int) ∧ Int.toNat (bits .andNot .i64 (mask : Int) v) = mask - v.toNat := by
 have := part_rest (m := (mask : Int)) (p := v) (by omega) h; have h1 := h.1; have h2 := h.2.1; exact ⟨h1, h2, by omega⟩

theorem impl_inner {g : Graph} (hV : VG g) {mask : Nat} (hm : mask < 32) {c f : List Int} (hc : mask < c.length) (hf : mask < f.length) (h0 : ∀ j : Nat, 0 ≤ List.getD c j 0) :
  ∀ (l : List Int) (b : Int × Int), (∀ v ∈ l, Part mask v) → Ok b →
  bestCosts_l1 g mask l (List.set c mask (val g mask b)) (List.set f mask b.2) = (List.set c mask (val g mask (mn c mask l b)), List.set f mask (mn c mask l b).2) := by
 intro l
 induction l with
 | nil => intro b _ _; rfl
 | cons v l ih =>
  intro b hl hb; have hp := (hl v (List.mem_cons_self ..)).rest hm; have hl' : ∀ x ∈ l, Part mask x := fun x hx => hl x (List.mem_cons_of_mem _ hx); have e1 : List.getD (List.set c mask (val g mask b)) (Int.toNat v) 0 = List.getD c (Int.toNat v) 0 := getD_set_ne c _ (by omega); have e2 : List.getD (List.set c mask (val g mask b)) (mask - v.toNat) 0 = List.getD c (mask - v.toNat) 0 := getD_set_ne c _ (by omega); have hs : gSize g (mask : Int) = subsetSize g (mask : Int) := size_eq hV (by omega) (by omega)
  have hsum : gSize g (mask : Int) + List.getD c (Int.toNat v) 0 + List.getD c (mask - v.toNat) 0 = sumAt c mask v + subsetSize g (mask : Int) := by
   rw [hs]; unfold sumAt; omega
  have hn1 := h0 v.toNat; have hn2 := h0 (mask - v.toNat); (have hsn : 0 ≤ sumAt c mask v := by unfold sumAt; omega); unfold bestCosts_l1; rw [getD_set_eq f _ hf, getD_set_eq c _ hc, hp.2.2, e1, e2, hsum, List.set_set, List.set_set]; show _ = (List.set c mask (val g mask (mn c mask l _)), List.set f mask (mn c mask l _).2)
  have hv : val g mask (sumAt c mask v, v) = sumAt c mask v + subsetSize g (mask : Int) := by
   unfold val; rw [show decide ((sumAt c mask v, v).1 < 0) = false from decide_eq_false (by show ¬ sumAt c mask v < 0; omega), cond_false]
  have hok : Ok (sumAt c mask v, v) := .inr ⟨hsn, by show v ≠ 0; omega⟩; have hnew := ih (sumAt c mask v, v) hl' hok; rw [hv] at hnew; rcases hb with ⟨hb1, hb2⟩ | ⟨hb1, hb2⟩
  · rw [hb2, show ((0 : Int) == 0) = true from rfl, cond_true, cond_true, show decide (b.1 < 0) = true from decide_eq_true (by omega), cond_true, cond_true]; exact hnew
  ·
   rw [show (b.2 == 0) = false by simp [hb2], cond_false, show decide (b.1 < 0) = false from decide_eq_false (by omega), cond_false]
   have hvb : val g mask b = b.1 + subsetSize g (mask : Int) := by
    unfold val; rw [show decide (b.1 < 0) = false from decide_eq_false (by omega), cond_false]
   rw [hvb, show decide (sumAt c mask v + subsetSize g (mask : Int) < b.1 + subsetSize g (mask : Int)) = decide (sumAt c mask v < b.1) from decide_eq_decide.2 (by omega)]
   cases decide (sumAt c mask v < b.1) with
   | true => exact hnew
   | false =>
    rw [cond_false, cond_false]; have := ih b hl' (.inr ⟨hb1, hb2⟩)
    rw [hvb] at this
    exact this

def best (c : List Int) (mask : Nat) : Int × Int := mn c mask (parts (mask : Int)) (-1, 0)

theorem parts_part {mask : Nat} {v : Int} (h : v ∈ parts (mask : Int)) : Part mask v := parts_mem h

theorem best_congr {c c' : List Int} {mask : Nat} (h : ∀ j : Nat, j < mask → List.getD c j 0 = List.getD c' j 0) : best c mask = best c' mask := by
 refine mn_congr _ _ fun v hv => ?_; have := parts_part hv; have h1 := this.1; have h2 := this.2.1; unfold sumAt; rw [h v.toNat (by omega), h (mask - v.toNat) (by omega)]

theorem mn_mem {c : List Int} {mask : Nat} : ∀ (l : List Int) (b : Int × Int), (mn c mask l b) = b ∨ ((mn c mask l b).2 ∈ l ∧ (mn c mask l b).1 = sumAt c mask (mn c mask l b).2) := by
 intro l
 induction l with
 | nil => intro b; exact .inl rfl
 | cons v l ih =>
  intro b; show mn c mask l _ = b ∨ ((mn c mask l _).2 ∈ v :: l ∧ (mn c mask l _).1 = sumAt c mask (mn c mask l _).2)
  cases (bif decide (b.1 < 0) then true else decide (sumAt c mask v < b.1)) with
  | false =>
   rcases ih b with h | h
   · exact .inl h
   · exact .inr ⟨List.mem_cons_of_mem _ h.1, h.2⟩
  | true =>
   rcases ih (sumAt c mask v, v) with h | h
   · rw [cond_true, h]; exact .inr ⟨List.mem_cons_self .., rfl⟩
   · exact .inr ⟨List.mem_cons_of_mem _ h.1, h.2⟩

theorem mn_le {c : List Int} {mask : Nat} : ∀ (l : List Int) (b : Int × Int), (∀ v ∈ l, 0 ≤ sumAt c mask v) → (0 ≤ b.1 → (mn c mask l b).1 ≤ b.1) ∧ (∀ v ∈ l, (mn c mask l b).1 ≤ sumAt c mask v) ∧ (0 ≤ b.1 ∨ l ≠ [] → 0 ≤ (mn c mask l b).1) := by
 intro l
 induction l with
 | nil => intro b _; exact ⟨fun _ => Int.le_refl _, ⟨fun v hv => (by cases hv), fun h => h.elim id (fun h => absurd rfl h)⟩⟩
 | cons v l ih =>
  intro b hn; have h0 := hn v (List.mem_cons_self ..); unfold mn; have ih := fun b => ih b (fun w hw => hn w (List.mem_cons_of_mem _ hw)); by_cases h1 : b.1 < 0
  · rw [decide_eq_true h1, cond_true, cond_true]; obtain ⟨i1, i2, i3⟩ := ih (sumAt c mask v, v); exact ⟨fun h => by omega, fun w hw => (List.mem_cons.1 hw).elim (fun e => e ▸ i1 h0) (i2 w), fun _ => i3 (.inl h0)⟩
  ·
   rw [decide_eq_false h1, cond_false]; by_cases h2 : sumAt c mask v < b.1
   · rw [decide_eq_true h2, cond_true]; obtain ⟨i1, i2, i3⟩ := ih (sumAt c mask v, v); have i1 := i1 h0; simp only at i1; exact ⟨fun h => by omega, fun w hw => (List.mem_cons.1 hw).elim (fun e => e ▸ i1) (i2 w), fun _ => i3 (.inl h0)⟩
   · rw [decide_eq_false h2, cond_false]; obtain ⟨i1, i2, i3⟩ := ih b; have i1 := i1 (by omega); exact ⟨fun _ => i1, fun w hw => (List.mem_cons.1 hw).elim (fun e => by subst e; omega) (i2 w), fun _ => i3 (.inl (by omega))⟩

structure Right (g : Graph) (c : List Int) (M : Nat) : Prop where
 nn : ∀ j : Nat, 0 ≤ List.getD c j 0
 zero : List.getD c 0 0 = 0
 eq : ∀ m : Nat, 1 ≤ m → m < M → List.getD c m 0 = val g m (best c m)
 above : ∀ m : Nat, M ≤ m → List.getD c m 0 = 0

theorem val_nn {g : Graph} (hV : VG g) {mask : Nat} (hm : mask < 32) (b : Int × Int) : 0 ≤ val g mask b := by
 have := sSize_b hV (m := (mask : Int)) (by omega) (by omega); unfold val; by_cases h : b.1 < 0
 · rw [decide_eq_true h]; exact Int.le_refl _
 · rw [decide_eq_false h]; show 0 ≤ b.1 + _; omega

theorem Right.step {g : Graph} (hV : VG g) {c : List Int} {M : Nat} (h : Right g c M) (hM : M < 32) (h1 : 1 ≤ M) (hl : M < c.length) : Right g (List.set c M (val g M (best c M))) (M + 1) := by
 have e : ∀ m : Nat, m ≤ M → best (List.set c M (val g M (best c M))) m = best c m := fun m hm => best_congr fun j hj => getD_set_ne c _ (by omega); refine ⟨fun j => ?_, ?_, fun m hm1 hm2 => ?_, fun m hm => ?_⟩
 ·
  by_cases hj : M = j
  · subst hj; rw [getD_set_eq c _ hl]; exact val_nn hV hM _
  · rw [getD_set_ne c _ hj]; exact h.nn j
 · rw [getD_set_ne c _ (by omega)]; exact h.zero
 ·
  rw [e m (by omega)]; by_cases hj : M = m
  · subst hj; rw [getD_set_eq c _ hl]
  · rw [getD_set_ne c _ hj]; exact h.eq m hm1 (by omega)
 · rw [getD_set_ne c _ (by omega)]; exact h.above m (by omega)

theorem Right.one {g : Graph} {n : Nat} : Right g (List.replicate n 0) 1 := by
 have : ∀ j : Nat, List.getD (List.replicate n (0 : Int)) j 0 = 0 := by
  intro j; rw [List.getD_eq_getElem?_getD, List.getElem?_replicate]; split <;> rfl
 exact ⟨fun j => by rw [this]; exact Int.le_refl _, this 0, fun m h1 h2 => by omega, fun m _ => this m⟩

theorem getD_out {c : List Int} {m : Nat} (h : c.length ≤ m) : List.getD c m 0 = 0 := by
 rw [List.getD_eq_getElem?_getD, List.getElem?_eq_none h]; rfl

theorem set_same {c : List Int} {m : Nat} (h : m < c.length) {x : Int} (e : List.getD c m 0 = x) : List.set c m x = c := by
 subst e; rw [List.getD_eq_getElem?_getD, List.getElem?_eq_getElem h]; simp

structure Firsts (c f : List Int) (M : Nat) : Prop where
 zero : List.getD f 0 0 = 0
 eq : ∀ m : Nat, 1 ≤ m → m < M → List.getD f m 0 = (best c m).2
 above : ∀ m : Nat, M ≤ m → List.getD f m 0 = 0

theorem impl_loop {g : Graph} (hV : VG g) : ∀ (k mask : Nat) (c f : List Int), 1 ≤ mask → c.length = Int.toNat (gAll g + 1) → f.length = Int.toNat (gAll g + 1) → Int.toNat (gAll g + 1 - (mask : Int)) < k →
  Right g c mask → Firsts c f mask → ∃ c' f', bestCosts_l0 g k mask c f = (c', f') ∧ c'.length = Int.toNat (gAll g + 1) ∧ f'.length = Int.toNat (gAll g + 1) ∧ Right g c' (Int.toNat (gAll g + 1)) ∧ Firsts c' f' (Int.toNat (gAll g + 1)) := by
 have hA := gAll_b hV; intro k
 induction k with
 | zero => intro mask c f _ _ _ h; omega
 | succ k ih =>
  intro mask c f h1 hc hf hk hr hF; unfold bestCosts_l0; by_cases hlt : ((mask : Nat) : Int) ≤ gAll g
  ·
   rw [decide_eq_true hlt, cond_true]; have hs := set_same (c := c) (m := mask) (by omega) (x := val g mask (-1, 0)) (by rw [hr.above mask (Nat.le_refl _)]; rfl); have hs' := set_same (c := f) (m := mask) (by omega) (x := (((-1 : Int), (0 : Int))).2) (by rw [hF.above mask (Nat.le_refl _)]); have hi := impl_inner hV (mask := mask) (by omega) (c := c) (f := f) (by omega) (by omega) hr.nn (parts (mask : Int)) (-1, 0) (fun v hv => parts_part hv) (.inl ⟨rfl, rfl⟩); rw [hs, hs'] at hi; rw [hi]; have hr' := hr.step hV (by omega) h1 (by omega); refine ih (mask + 1) _ _ (by omega) (by rw [List.length_set]; exact hc) (by rw [List.length_set]; exact hf) (by omega) hr' ⟨by rw [getD_set_ne f _ (by omega)]; exact hF.zero, fun m hm1 hm2 => ?_, fun m hm => ?_⟩
   ·
    rw [show best (List.set c mask (val g mask (mn c mask (parts (mask : Int)) (-1, 0)))) m = best c m from best_congr fun j hj => getD_set_ne c _ (by omega)]; by_cases hj : mask = m
    · subst hj; rw [getD_set_eq f _ (by omega)]; rfl
    · rw [getD_set_ne f _ hj]; exact hF.eq m hm1 (by omega)
   · rw [getD_set_ne f _ (by omega)]; exact hF.above m (by omega)
  ·
   rw [decide_eq_false hlt, cond_false]; refine ⟨c, f, rfl, hc, hf, ?_, ?_⟩
   · refine ⟨hr.nn, hr.zero, fun m h1 h2 => hr.eq m h1 (by omega), fun m h => getD_out (by omega)⟩
   · exact ⟨hF.zero, fun m h1 h2 => hF.eq m h1 (by omega), fun m h => getD_out (by omega)⟩

theorem impl_best {g : Graph} (hV : VG g) : (bestCosts g).1.length = Int.toNat (gAll g + 1) ∧ (bestCosts g).2.length = Int.toNat (gAll g + 1) ∧ Right g (bestCosts g).1 (Int.toNat (gAll g + 1)) ∧ Firsts (bestCosts g).1 (bestCosts g).2 (Int.toNat (gAll g + 1)) := by
 have hA := gAll_b hV
 obtain ⟨c, f, e, h⟩ := impl_loop hV (Int.toNat (gAll g + 1 - (1 : Int)) + 1) 1 (List.replicate (Int.toNat ((gAll g) + 1)) 0 : List Int) (List.replicate (Int.toNat ((gAll g) + 1)) 0 : List Int) (Nat.le_refl _) (by simp) (by simp) (by simp) Right.one
  ⟨by rw [List.getD_eq_getElem?_getD, List.getElem?_replicate]; split <;> rfl, fun m h1 h2 => by omega, fun m _ => by rw [List.getD_eq_getElem?_getD, List.getElem?_replicate]; split <;> rfl⟩
 have : bestCosts g = (c, f) := by
  unfold bestCosts; rw [e]; rfl
 rw [this]; exact h

end Go.Proofs.Ytclennmbceaoeaa


namespace Go.Proofs.Ytclennmbceaoeaa
open Go Go.Am

theorem firsts_ok {g : Graph} (hV : VG g) : (bestCosts g).2.length ≤ 32 ∧ ∀ m : Nat, m < (bestCosts g).2.length → List.getD (bestCosts g).2 m 0 = 0 ∨ Part m (List.getD (bestCosts g).2 m 0) := by
 have hA := gAll_b hV; obtain ⟨h1, h2, h3, h4⟩ := impl_best hV; refine ⟨by omega, fun m hm => ?_⟩; by_cases h0 : m = 0
 · subst h0; exact .inl h4.zero
 ·
  rw [h4.eq m (by omega) (by omega)]; rcases mn_mem (c := (bestCosts g).1) (mask := m) (parts (m : Int)) (-1, 0) with h | h
  · exact .inl (by unfold best; rw [h])
  · exact .inr (parts_part h.1)

end Go.Proofs.Ytclennmbceaoeaa


namespace Go.Proofs.Ytclennmbceaoeaa
open Go Go.Am
noncomputable section

theorem gn5 {g : Graph} (h : VG g) : 1 ≤ List.length g.Rows ∧ List.length g.Rows ≤ 5 := ⟨h.n1, h.n5⟩

def equalInts_l0 (a : List Int) (b : List Int) : Nat → Nat → Unit ⊕ Bool
 | 0, i => .inl ()
 | k + 1, i => (bif (decide (((i : Nat) : Int) < ((List.length a : Nat) : Int))) then (bif ((List.getD a i 0) != (List.getD b i 0)) then (.inr false) else (equalInts_l0 a b k (i + 1))) else (.inl ()))

def equalInts (a : List Int) (b : List Int) : Bool := (bif (((List.length a : Nat) : Int) != ((List.length b : Nat) : Int)) then false else (Sum.elim (fun _ => true) (fun r => r) (equalInts_l0 a b ((List.length a) - 0 + 1) 0)))

def equalInts_sp : FnSpec := mkSpec [.val (.slice (.int .i64)), .val (.slice (.int .i64))] [.val .bool] (fun (a : List Int) (b : List Int) => True) (fun (a : List Int) (b : List Int) => [⟨.bool, (equalInts a b)⟩])

theorem equalInts_ok : FnOK Try.prog 8 equalInts_sp := by
 have hC : CtxOK Try.prog (mkCtx tyL []) := CtxOK.nil tyOK; have hM : Try.prog.follows .mixedOrders = true := Try.checked.mixed; refine FnOK.of_body Try.func8 (by kernel_rfl) rfl (C := (mkCtx tyL [])) hC.ty (by kernel_rfl) ?_; intro (a : List Int) (b : List Int) hwf hpre E; have hpre : True := hpre; have hw_a : Wf ⟨(.slice (.int .i64)), (a : List Int)⟩ := hwf _ (List.Mem.head _); have hl_a : ((List.length a : Nat) : Int) ≤ 9223372036854775807 := hw_a.len; have hw_b : Wf ⟨(.slice (.int .i64)), (b : List Int)⟩ := hwf _ (List.Mem.tail _ (List.Mem.head _)); have hl_b : ((List.length b : Nat) : Int) ≤ 9223372036854775807 := hw_b.len; have e0 : equalInts a b = equalInts a b := rfl; refine AW.seq (AW.r1U hC [0, 1] [] [] [] ?_); refine AW.seq (AW.seq (AW.r1U hC [0, 1, 10] [] [(10, .bool (((List.length a : Nat) : Int) != ((List.length b : Nat) : Int)))] [] ?_)); refine AW.cdE e0 ?_ ?_
 · intro h1q e2; refine AW.seq (AW.r1 hC [4] [] ⟨[(4, .bool false)], []⟩ ?_); exact AW.ret (AW.retE (β := Bool) (fun v => [⟨.bool, v⟩]) (fun v => []) (v := false) e2 (by kernel_rfl) rfl rfl)
 ·
  intro h3q e4; refine AW.kpU [0, 1] [] [] [] ?_; refine AW.skip (AW.seq (AW.seq (AW.r1U hC [0, 1, 5] [] [(5, .int .i64 0)] [] ?_))); refine AW.lpB (ζ := Unit) (fun x => ⟨[], []⟩) (fun x => True) (fun x => (.inl ())) (α := Nat) (fun x => ⟨[(0, .data (.slice (.int .i64)) (a : List Int)), (1, .data (.slice (.int .i64)) (b : List Int)), (5, .int .i64 ((x : Nat) : Int))], []⟩) (fun x => True) (fun x => (List.length a) - x) (fun k x => equalInts_l0 a b k x) 0 (by kernel_rfl) ?_ ?_ ?_
  · first | exact trivial | (refine ⟨?_, ?_⟩ <;> first | omega | (simp; done)) | omega | (simp; done) | (dsimp only; exact trivial) | (dsimp only; (refine ⟨?_, ?_⟩ <;> first | omega | (simp; done))) | (dsimp only; omega) | (dsimp only; (simp; done)) | (show True; exact trivial) | (show True; (refine ⟨?_, ?_⟩ <;> first | omega | (simp; done))) | (show True; omega) | (show True; (simp; done))
  ·
   intro i k34q hI0 hk32 e33; (first | dsimp only at e33 | skip); replace hI0 : True := hI0; refine AW.seq (AW.seq (AW.r1U hC [0, 1, 5, 14] [] [(14, .bool (decide (((i : Nat) : Int) < ((List.length a : Nat) : Int))))] [] ?_)); refine AW.cdE e33 ?_ ?_
   ·
    intro h35q e36; refine AW.kpU [0, 1, 5] [] [] [] ?_; refine AW.skip (AW.seq (AW.block (AW.seq (AW.d0U hC hM [0, 1, 5, 25] [] [(25, .bool ((List.getD a i 0) != (List.getD b i 0)))] [] [(0 ≤ ((i : Nat) : Int) ∧ ((i : Nat) : Int) < ((List.length a : Nat) : Int)), (0 ≤ ((i : Nat) : Int) ∧ ((i : Nat) : Int) < ((List.length b : Nat) : Int))] ?_ ?_))))
    ·
     refine ⟨?_, ?_, trivial⟩
     · first | (omega) | ((dsimp only; omega)) | ((simp only [lens] at *; omega))
     · first | (omega) | ((dsimp only; omega)) | ((simp only [lens] at *; omega))
    refine AW.cdE e36 ?_ ?_
    · intro h37q e38; refine AW.seq (AW.r1 hC [4] [] ⟨[(4, .bool false)], []⟩ ?_); refine AW.ret ?_; have e39 := e4.trans (Go.Am.elim_r e38); exact AW.retE (β := Bool) (fun v => [⟨.bool, v⟩]) (fun v => []) (v := false) e39 (by kernel_rfl) rfl rfl
    ·
     intro h40q e41; refine AW.kpU [0, 1, 5] [] [] [] ?_; refine AW.skip (AW.r0U hC [0, 1, 5] [] [(5, .int .i64 ((i + 1 : Nat) : Int))] [] [(-9223372036854775808 ≤ ((i + 1 : Nat) : Int) ∧ ((i + 1 : Nat) : Int) ≤ 9223372036854775807)] ?_ ?_)
     ·
      refine ⟨?_, trivial⟩
      · first | (omega) | ((dsimp only; omega)) | ((simp only [lens] at *; omega))
     refine AW.bk (i + 1) e41 hk32 ?_ ?_
     · first | assumption | exact trivial | (refine ⟨?_, ?_⟩ <;> first | omega | (simp only [lens] at *; omega)) | omega | (simp only [lens] at *; omega) | (dsimp only; assumption) | (dsimp only; exact trivial) | (dsimp only; (refine ⟨?_, ?_⟩ <;> first | omega | (simp only [lens] at *; omega))) | (dsimp only; omega) | (dsimp only; (simp only [lens] at *; omega)) | (show True; assumption) | (show True; exact trivial) | (show True; (refine ⟨?_, ?_⟩ <;> first | omega | (simp only [lens] at *; omega))) | (show True; omega) | (show True; (simp only [lens] at *; omega))
     · first | omega | (simp only [lens]; omega) | (dsimp only; omega) | (dsimp only; (simp only [lens]; omega)) | (show (List.length a) - (i + 1) < (List.length a) - i; omega) | (show (List.length a) - (i + 1) < (List.length a) - i; (simp only [lens]; omega))
   · intro h42q e43; refine AW.kp [] [] ⟨[], []⟩ ?_; refine AW.exit ?_; refine AW.meet () (by kernel_rfl) ⟨?_, e43⟩; first | assumption | exact trivial | omega | (dsimp only; assumption) | (dsimp only; exact trivial) | (dsimp only; omega) | (show True; assumption) | (show True; exact trivial) | (show True; omega)
  · intro x hJ0 e44; replace hJ0 : True := hJ0; have e45 := e4.trans (Go.Am.elim_l e44); (first | dsimp only at e45 | skip); refine AW.seq (AW.r1 hC [4] [] ⟨[(4, .bool true)], []⟩ ?_); exact AW.ret (AW.retE (β := Bool) (fun v => [⟨.bool, v⟩]) (fun v => []) (v := true) e45 (by kernel_rfl) rfl rfl)

structure FO (f : List Int) : Prop where
 le : f.length ≤ 32
 part : ∀ m : Nat, m < f.length → List.getD f m 0 = 0 ∨ Part m (List.getD f m 0)

theorem FO.at {f : List Int} (h : FO f) {m : Int} (h0 : 0 ≤ m) (hm : m < (f.length : Int)) (hz : List.getD f (Int.toNat m) 0 ≠ 0) :
  (1 ≤ List.getD f (Int.toNat m) 0 ∧ List.getD f (Int.toNat m) 0 < m) ∧ 1 ≤ bits .andNot .i64 m (List.getD f (Int.toNat m) 0) ∧ bits .andNot .i64 m (List.getD f (Int.toNat m) 0) < m := by
 have hl := h.le; have hp := (h.part (Int.toNat m) (by omega)).resolve_left hz; have hm' : ((Int.toNat m : Nat) : Int) = m := by omega
 have hp' : 1 ≤ List.getD f (Int.toNat m) 0 ∧ List.getD f (Int.toNat m) 0 < m ∧ bits .andNot .i64 (List.getD f (Int.toNat m) 0) m = 0 := by
  have := hp
  unfold Part at this
  rwa [hm'] at this
 have hr := part_rest (m := m) (p := List.getD f (Int.toNat m) 0) (by omega) hp'; have h1 := hp.1; have h2 := hp.2.1; omega

theorem sh_lt {m : Int} {l : Nat} (h : 1 < m / 2 ^ l) : m / 2 ^ (l + 1) < m / 2 ^ l := by
 rw [Int.pow_succ, ← Int.ediv_ediv_of_nonneg (by have := Int.pow_pos (n := 2) (m := l) (by decide); omega)]; omega

theorem sh_b {m : Int} (h0 : 0 ≤ m) (h32 : m < 32) {l : Nat} (h : 1 < m / 2 ^ l) : l < 5 := by
 refine Nat.lt_of_not_le fun hl => ?_; have h2 : 2 ^ 5 ≤ 2 ^ l := Nat.pow_le_pow_right (by decide) hl; (have h3 : ((2 : Int) ^ l) = ((2 ^ l : Nat) : Int) := by push_cast; rfl); rw [Int.ediv_eq_zero_of_lt h0 (by omega)] at h; omega

def treeOf_l0 (mask : Int) : Nat → Nat → Nat
 | 0, leaf => leaf
 | k + 1, leaf => (bif (decide (1 < (mask / 2 ^ leaf))) then (treeOf_l0 mask k (leaf + 1)) else leaf)

def treeOf_r : Nat → (List Int) → Int → JoinTree
 | 0, firsts, mask => JoinTree.zero
 | fuel + 1, firsts, mask => (bif ((List.getD firsts (Int.toNat mask) 0) == 0) then (Go.Am.andThen (treeOf_l0 mask (Int.toNat (mask / 2 ^ 0) + 1) 0) (fun z => (fun (leaf : Nat) => (JoinTree.mk ((leaf : Nat) : Int) ([] : List JoinTree))) z)) else (JoinTree.mk 0 ([((treeOf_r fuel) firsts (List.getD firsts (Int.toNat mask) 0)), ((treeOf_r fuel) firsts (bits .andNot .i64 mask (List.getD firsts (Int.toNat mask) 0)))] : List JoinTree)))

def treeOf (firsts : List Int) (mask : Int) : JoinTree := treeOf_r (Int.toNat mask + 1) firsts mask

def treeOf_spn (fuel : Nat) : FnSpec := mkSpec [.val (.slice (.int .i64)), .val (.int .i64)] [.val (.named 3)] (fun (firsts : List Int) (mask : Int) => (FO firsts ∧ 0 ≤ mask ∧ mask < ((List.length firsts : Nat) : Int)) ∧ Int.toNat mask < fuel) (fun (firsts : List Int) (mask : Int) => [⟨(.named 3), (treeOf_r fuel firsts mask)⟩])

def treeOf_sp : FnSpec := mkSpec [.val (.slice (.int .i64)), .val (.int .i64)] [.val (.named 3)] (fun (firsts : List Int) (mask : Int) => FO firsts ∧ 0 ≤ mask ∧ mask < ((List.length firsts : Nat) : Int)) (fun (firsts : List Int) (mask : Int) => [⟨(.named 3), (treeOf firsts mask)⟩])

theorem treeOf_okn (fuel : Nat) : FnOK Try.prog 29 (treeOf_spn fuel) := by
 induction fuel with
 | zero => exact FnOK.never Try.func29 (by kernel_rfl) rfl (fun _ _ h => absurd h.2 (Nat.not_lt_zero _))
 | succ fuel ih => ?_
 have hC : CtxOK Try.prog (mkCtx tyL [(29, (treeOf_spn fuel))]) := CtxOK.cons ih (CtxOK.nil tyOK); refine FnOK.of_body Try.func29 (by kernel_rfl) rfl (C := (mkCtx tyL [(29, (treeOf_spn fuel))])) hC.ty (by kernel_rfl) ?_; intro (firsts : List Int) (mask : Int) hwf hpre E; have hpre : (FO firsts ∧ 0 ≤ mask ∧ mask < ((List.length firsts : Nat) : Int)) ∧ Int.toNat mask < fuel + 1 := hpre; have hw_firsts : Wf ⟨(.slice (.int .i64)), (firsts : List Int)⟩ := hwf _ (List.Mem.head _); have hl_firsts : ((List.length firsts : Nat) : Int) ≤ 9223372036854775807 := hw_firsts.len; have hw_mask : Wf ⟨(.int .i64), (mask : Int)⟩ := hwf _ (List.Mem.tail _ (List.Mem.head _)); have hr_mask : -9223372036854775808 ≤ mask ∧ mask ≤ 9223372036854775807 := hw_mask.int_inv; have hF := hpre.1.1.le; have e0 : treeOf_r (fuel + 1) firsts mask = treeOf_r (fuel + 1) firsts mask := rfl; refine AW.seq (AW.r1U hC [0, 1, 4] [16] [(4, .ref 16 1 0)] [(16, .box 1 [.int .i64 0, .nilsl])] ?_); refine AW.seq (AW.r0U hC [0, 1, 4, 5] [16] [(5, .int .i64 (List.getD firsts (Int.toNat mask) 0))] [] [(0 ≤ mask ∧ mask < ((List.length firsts : Nat) : Int))] ?_ ?_)
 ·
  refine ⟨?_, trivial⟩
  · first | (omega) | ((dsimp only; omega)) | ((simp only [lens] at *; omega))
 refine AW.seq (AW.seq (AW.r1U hC [0, 1, 4, 5, 12] [16] [(12, .bool ((List.getD firsts (Int.toNat mask) 0) == 0))] [] ?_)); refine AW.cdE e0 ?_ ?_
 ·
  intro h1q e2; refine AW.seq (AW.r1U hC [1, 4, 6] [16] [(6, .int .i64 0)] [] ?_); refine AW.seq (AW.lpB (ζ := Nat) (fun x => ⟨[(4, .ref 16 1 0), (6, .int .i64 ((x : Nat) : Int))], [(16, .box 1 [.int .i64 0, .nilsl])]⟩) (fun x => x ≤ 5) (fun x => x) (α := Nat) (fun x => ⟨[(1, .int .i64 mask), (4, .ref 16 1 0), (6, .int .i64 ((x : Nat) : Int))], [(16, .box 1 [.int .i64 0, .nilsl])]⟩) (fun x => x ≤ 5) (fun x => Int.toNat (mask / 2 ^ x)) (fun k x => treeOf_l0 mask k x) 0 (by kernel_rfl) ?_ ?_ ?_)
  · first | exact trivial | (refine ⟨?_, ?_⟩ <;> first | omega | (simp; done)) | omega | (simp; done) | (dsimp only; exact trivial) | (dsimp only; (refine ⟨?_, ?_⟩ <;> first | omega | (simp; done))) | (dsimp only; omega) | (dsimp only; (simp; done)) | (show 0 ≤ 5; exact trivial) | (show 0 ≤ 5; (refine ⟨?_, ?_⟩ <;> first | omega | (simp; done))) | (show 0 ≤ 5; omega) | (show 0 ≤ 5; (simp; done))
  ·
   intro leaf k17q hI0 hk15 e16; (first | dsimp only at e16 | skip); replace hI0 : leaf ≤ 5 := hI0; refine AW.seq (AW.seq (AW.r0U hC [1, 4, 6, 16] [16] [(16, .bool (decide (1 < (mask / 2 ^ leaf))))] [] [(0 ≤ ((leaf : Nat) : Int) ∧ ((leaf : Nat) : Int) ≤ 64)] ?_ ?_))
   ·
    refine ⟨?_, trivial⟩
    · first | (omega) | ((dsimp only; omega)) | ((simp only [lens] at *; omega))
   refine AW.cdE e16 ?_ ?_
   ·
    intro h18q e19; refine AW.kpU [1, 4, 6] [16] [] [] ?_; refine AW.skip (AW.block (AW.r0U hC [1, 4, 6] [16] [(6, .int .i64 ((leaf + 1 : Nat) : Int))] [] [(-9223372036854775808 ≤ ((leaf + 1 : Nat) : Int) ∧ ((leaf + 1 : Nat) : Int) ≤ 9223372036854775807)] ?_ ?_))
    ·
     refine ⟨?_, trivial⟩
     · first | (omega) | ((dsimp only; omega)) | ((simp only [lens] at *; omega))
    refine AW.bk (leaf + 1) e19 hk15 ?_ ?_
    · first | have := sh_b (m := mask) (l := leaf) (by omega) (by omega) (by omega); omega | (dsimp only; have := sh_b (m := mask) (l := leaf) (by omega) (by omega) (by omega); omega) | (show (leaf + 1) ≤ 5; have := sh_b (m := mask) (l := leaf) (by omega) (by omega) (by omega); omega)
    · first | have h := sh_lt (m := mask) (l := leaf) (by omega); omega | (dsimp only; have h := sh_lt (m := mask) (l := leaf) (by omega); omega) | (show Int.toNat (mask / 2 ^ (leaf + 1)) < Int.toNat (mask / 2 ^ leaf); have h := sh_lt (m := mask) (l := leaf) (by omega); omega)
   · intro h20q e21; refine AW.kpU [4, 6] [16] [] [] ?_; refine AW.exit ?_; refine AW.meet leaf (by kernel_rfl) ⟨?_, e21⟩; first | exact hI0 | (dsimp only; exact hI0) | (show leaf ≤ 5; exact hI0)
  · intro leaf hJ0 e22; replace hJ0 : leaf ≤ 5 := hJ0; have e23 := e2.trans (Go.Am.then_eq e22); (first | dsimp only at e23 | skip); refine AW.seq (AW.r1U hC [4] [16] [] [(16, .box 1 [.int .i64 ((leaf : Nat) : Int), .nilsl])] ?_); exact AW.ret (AW.retE (β := JoinTree) (fun v => [⟨(.named 3), v⟩]) (fun v => []) (v := (JoinTree.mk ((leaf : Nat) : Int) ([] : List JoinTree))) e23 (by kernel_rfl) rfl rfl)
 ·
  intro h24q e25; refine AW.kpU [0, 1, 4, 5] [16] [] [] ?_; refine AW.skip (AW.seq (AW.r0U hC [4] [16, 116] [] [(16, .box 1 [.int .i64 0, .arr 116 1]), (116, .arr 1 (.named 3) (([((treeOf_r fuel) firsts (List.getD firsts (Int.toNat mask) 0)), ((treeOf_r fuel) firsts (bits .andNot .i64 mask (List.getD firsts (Int.toNat mask) 0)))] : List JoinTree) : List JoinTree))] [((FO firsts ∧ 0 ≤ (List.getD firsts (Int.toNat mask) 0) ∧ (List.getD firsts (Int.toNat mask) 0) < ((List.length firsts : Nat) : Int)) ∧ Int.toNat (List.getD firsts (Int.toNat mask) 0) < fuel), ((FO firsts ∧ 0 ≤ (bits .andNot .i64 mask (List.getD firsts (Int.toNat mask) 0)) ∧ (bits .andNot .i64 mask (List.getD firsts (Int.toNat mask) 0)) < ((List.length firsts : Nat) : Int)) ∧ Int.toNat (bits .andNot .i64 mask (List.getD firsts (Int.toNat mask) 0)) < fuel)] ?_ ?_))
  ·
   refine ⟨?_, ?_, trivial⟩
   · have hz := hpre.1.1.at hpre.1.2.1 hpre.1.2.2 (by omega); exact ⟨⟨hpre.1.1, by omega⟩, by omega⟩
   · have hz := hpre.1.1.at hpre.1.2.1 hpre.1.2.2 (by omega); exact ⟨⟨hpre.1.1, by omega⟩, by omega⟩
  exact AW.ret (AW.retE (β := JoinTree) (fun v => [⟨(.named 3), v⟩]) (fun v => []) (v := (JoinTree.mk 0 ([((treeOf_r fuel) firsts (List.getD firsts (Int.toNat mask) 0)), ((treeOf_r fuel) firsts (bits .andNot .i64 mask (List.getD firsts (Int.toNat mask) 0)))] : List JoinTree))) e25 (by kernel_rfl) rfl rfl)

theorem treeOf_fu : AllTV (treeOf_sp.ps.map PK.ty) (fun tvs => treeOf_sp.pre tvs → ∃ k, (treeOf_spn k).pre tvs ∧ (treeOf_spn k).fn tvs = treeOf_sp.fn tvs ∧ (treeOf_spn k).bx tvs = treeOf_sp.bx tvs) :=
 (fun (firsts : List Int) (mask : Int) h => ⟨Int.toNat mask + 1, (show (FO firsts ∧ 0 ≤ mask ∧ mask < ((List.length firsts : Nat) : Int)) ∧ Int.toNat mask < Int.toNat mask + 1 from ⟨h, Nat.lt_succ_self _⟩), (show (treeOf_spn (Int.toNat mask + 1)).fn [⟨(.slice (.int .i64)), (firsts : List Int)⟩, ⟨(.int .i64), (mask : Int)⟩] = ([⟨(.named 3), (treeOf_r (Int.toNat mask + 1) firsts mask)⟩] : List TV) from by kernel_rfl).trans (show ([⟨(.named 3), (treeOf_r (Int.toNat mask + 1) firsts mask)⟩] : List TV) = treeOf_sp.fn [⟨(.slice (.int .i64)), (firsts : List Int)⟩, ⟨(.int .i64), (mask : Int)⟩] from by kernel_rfl), by kernel_rfl⟩)

theorem treeOf_ok : FnOK Try.prog 29 treeOf_sp := FnOK.of_fuel treeOf_okn (fun _ => rfl) (fun _ => rfl) (AllTV.get treeOf_fu)

end
end Go.Proofs.Ytclennmbceaoeaa


namespace Go.Proofs.Ytclennmbceaoeaa
open Go Go.Am
noncomputable section

theorem firsts_FO {g : Graph} (hV : VG g) : FO (bestCosts g).2 := ⟨(firsts_ok hV).1, (firsts_ok hV).2⟩

def iBestTree (g : Graph) : JoinTree × Int := (bif (!(ValidGraph g)) then ((JoinTree.mk 0 ([] : List JoinTree)), (-1)) else ((JoinTree.mk (JoinTree.Leaf (treeOf ((bestCosts g).2) (gAll g))) (JoinTree.Kids (treeOf ((bestCosts g).2) (gAll g)))), (List.getD ((bestCosts g).1) (Int.toNat (gAll g)) 0)))

def iBestTree_sp : FnSpec := mkSpec [.val (.named 1)] [.val (.named 3), .val (.int .i64)] (fun (g : Graph) => True) (fun (g : Graph) => [⟨(.named 3), ((iBestTree g).1)⟩, ⟨(.int .i64), ((iBestTree g).2)⟩])

theorem iBestTree_ok : FnOK Try.prog 9 iBestTree_sp := by
 have hC : CtxOK Try.prog (mkCtx tyL [(21, ValidGraph_sp), (23, gAll_sp), (28, bestCosts_sp), (29, treeOf_sp)]) := CtxOK.cons ValidGraph_ok (CtxOK.cons gAll_ok (CtxOK.cons bestCosts_ok (CtxOK.cons treeOf_ok (CtxOK.nil tyOK)))); have hM : Try.prog.follows .mixedOrders = true := Try.checked.mixed; refine FnOK.of_body Try.func9 (by kernel_rfl) rfl (C := (mkCtx tyL [(21, ValidGraph_sp), (23, gAll_sp), (28, bestCosts_sp), (29, treeOf_sp)])) hC.ty (by kernel_rfl) ?_; intro (g : Graph) hwf hpre E; have hpre : True := hpre; have hw_g : Wf ⟨(.named 1), (g : Graph)⟩ := hwf _ (List.Mem.head _); have hl_g_Rows : ((List.length (Graph.Rows g) : Nat) : Int) ≤ 9223372036854775807 := (hw_g.field (tv := ⟨(.slice (.int .i64)), Graph.Rows g⟩) (List.Mem.head _)).len; have hl_g_Edges : ((List.length (Graph.Edges g) : Nat) : Int) ≤ 9223372036854775807 := (hw_g.field (tv := ⟨(.slice (.named 0)), Graph.Edges g⟩) (List.Mem.tail _ (List.Mem.head _))).len; have e0 : iBestTree g = iBestTree g := rfl; refine AW.seq (AW.r1 hC [1, 2] [4, 8] ⟨[(1, .ref 4 1 0), (2, .ref 8 1 0)], [(4, .box 1 [.data (.slice (.int .i64)) ((Graph.Rows g) : List Int), .data (.slice (.named 0)) ((Graph.Edges g) : List Edge)]), (8, .box 1 [.int .i64 0, .nilsl])]⟩ ?_); refine AW.seq (AW.seq (AW.r0U hC [1, 2, 8] [4, 8] [(8, .bool (!(ValidGraph g)))] [] [(True)] ?_ ?_))
 ·
  refine ⟨?_, trivial⟩
  · trivial
 refine AW.cdE e0 ?_ ?_
 · intro h1q e2; refine AW.seq (AW.r1U hC [2, 3] [8] [(3, .int .i64 (-1))] [] ?_); exact AW.ret (AW.retE (β := JoinTree × Int) (fun v => [⟨(.named 3), v.1⟩, ⟨(.int .i64), v.2⟩]) (fun v => []) (v := ((JoinTree.mk 0 ([] : List JoinTree)), (-1))) e2 (by kernel_rfl) rfl rfl)
 ·
  intro h3q e4; refine AW.kpU [1, 2] [4, 8] [] [] ?_; refine AW.skip (AW.seq (AW.r0U hC [1, 2, 4, 5] [4, 8, 44, 45] [(4, .arr 44 1), (5, .arr 45 1)] [(44, .arr 1 (.int .i64) (((bestCosts g).1) : List Int)), (45, .arr 1 (.int .i64) (((bestCosts g).2) : List Int))] [(VG g)] ?_ ?_))
  ·
   refine ⟨?_, trivial⟩
   · exact ValidGraph_iff.1 (by first | exact h3q | exact trivial)
  refine AW.seq (AW.d0U hC hM [2, 3] [8] [(3, .int .i64 (List.getD ((bestCosts g).1) (Int.toNat (gAll g)) 0))] [(8, .box 1 [.int .i64 (JoinTree.Leaf (treeOf ((bestCosts g).2) (gAll g))), .data (.slice (.named 3)) ((JoinTree.Kids (treeOf ((bestCosts g).2) (gAll g))) : List JoinTree)])] [(g.Rows.length ≤ 40), (FO ((bestCosts g).2) ∧ 0 ≤ (gAll g) ∧ (gAll g) < ((List.length ((bestCosts g).2) : Nat) : Int)), (g.Rows.length ≤ 40), (0 ≤ (gAll g) ∧ (gAll g) < ((List.length ((bestCosts g).1) : Nat) : Int))] ?_ ?_)
  ·
   refine ⟨?_, ?_, ?_, ?_, trivial⟩
   · (have hV := ValidGraph_iff.1 (by first | exact h3q | exact trivial)); have := gn5 hV; omega
   · (have hV := ValidGraph_iff.1 (by first | exact h3q | exact trivial)); have hA := gAll_b hV; have hl := (impl_best hV).2.1; exact ⟨firsts_FO hV, by omega, by omega⟩
   · (have hV := ValidGraph_iff.1 (by first | exact h3q | exact trivial)); have := gn5 hV; omega
   · (have hV := ValidGraph_iff.1 (by first | exact h3q | exact trivial)); have hA := gAll_b hV; have hl := (impl_best hV).1; omega
  exact AW.ret (AW.retE (β := JoinTree × Int) (fun v => [⟨(.named 3), v.1⟩, ⟨(.int .i64), v.2⟩]) (fun v => []) (v := ((JoinTree.mk (JoinTree.Leaf (treeOf ((bestCosts g).2) (gAll g))) (JoinTree.Kids (treeOf ((bestCosts g).2) (gAll g)))), (List.getD ((bestCosts g).1) (Int.toNat (gAll g)) 0))) e4 (by kernel_rfl) rfl rfl)

theorem Right.cb {g : Graph} (hV : VG g) {c : List Int} {M : Nat} (hM : M ≤ 32) (h : Right g c M) : CB c := by
 intro m
 induction m using Nat.strongRecOn with
 | _ m ih =>
  refine ⟨h.nn m, ?_⟩; by_cases h0 : m = 0
  · subst h0; rw [h.zero]; decide
  ·
   by_cases hm : m < M
   ·
    rw [h.eq m (by omega) hm]; have hs := (sSize_b hV (m := (m : Int)) (by omega) (by omega)).2; have hb := mn_mem (c := c) (mask := m) (parts (m : Int)) (-1, 0); unfold val; by_cases hn : (best c m).1 < 0
    · rw [decide_eq_true hn, cond_true]; omega
    ·
     rw [decide_eq_false hn, cond_false]; rcases hb with hb | ⟨hb1, hb2⟩
     · exact absurd (by unfold best; rw [hb]; decide) hn
     · have hp := parts_part hb1; have hp1 := hp.1; have hp2 := hp.2.1; have e1 := (ih (Int.toNat (mn c m (parts (m : Int)) (-1, 0)).2) (by omega)).2; have e2 := (ih (m - Int.toNat (mn c m (parts (m : Int)) (-1, 0)).2) (by omega)).2; unfold sumAt at hb2; unfold best; omega
   · rw [h.above m (by omega)]; omega

def Sm (l : List Int) (B : Int) : Prop := l.length ≤ 32 ∧ ∀ j : Nat, -B ≤ List.getD l j 0 ∧ List.getD l j 0 ≤ B

theorem Sm.set {l : List Int} {B : Int} (h : Sm l B) {i : Nat} {v : Int} (h0 : -B ≤ v) (h1 : v ≤ B) : Sm (List.set l i v) B := by
 refine ⟨by rw [List.length_set]; exact h.1, fun j => ?_⟩; rw [List.getD_eq_getElem?_getD, List.getElem?_set]; have := h.2 j
 rw [List.getD_eq_getElem?_getD] at this
 split
 ·
  split
  · exact ⟨h0, h1⟩
  · simp; omega
 · exact this

theorem Sm.mono {l : List Int} {B C : Int} (h : Sm l B) (hB : B ≤ C) : Sm l C := ⟨h.1, fun j => by have := h.2 j; omega⟩


end
end Go.Proofs.Ytclennmbceaoeaa
