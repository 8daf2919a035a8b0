/-
  Am, part G: symbolic values as data; writing operations.
-/
import Derived.Test.YtjcjpeckfikfkaaAmF
set_option linter.all false
namespace Go.Am
variable [U : Univ]

theorem TV.to_some {t u : Ty} {x : u.den} {y : t.den} (h : TV.to t ⟨u, x⟩ = some y) : ∃ e : u = t, y = e ▸ x := by
  simp only [TV.to] at h
  split at h
  · rename_i e
    exact ⟨e, (Option.some.inj h).symm⟩
  · simp at h

theorem RepV.cast {A : Nat → Prop} {w : World} {t u : Ty} {x : u.den} {y : t.den} {v : Value} (h : TV.to t ⟨u, x⟩ = some y) (hv : RepV A w u x v) : RepV A w t y v := by
  obtain ⟨e, rfl⟩ := TV.to_some h
  subst e
  exact hv

section
variable {E : Ent} {N : Nat} {env : Nat → SV} {mem : Nat → Option Blk} {a : Act} {w : World} {β : Nat → Option (Nat × Nat)} {P : Program} {C : Ctx}

theorem repV_arr (h : SimB E N env mem a w β) {B : Nat → Prop} (hB : ∀ b, allow E w β b → B b) {id ep : Nat} {t : Ty} {xs : List t.den} (hm : mem id = some (.arr ep t xs))
    (hid : ∀ b C, β id = some (b, C) → B b) {off len : Nat} {v : Value} (hle : off + len ≤ xs.length) (hv : SliceAt (β id) t.size off len v) :
    RepV B w (.slice t) ((xs.drop off).take len : List t.den) v := by
  obtain ⟨hlim, ⟨hb, hx⟩ | ⟨b, D, cs, el, css, hb, hh, hsz, hD, hel⟩⟩ := h.blk id _ hm
  · rw [hb] at hv
    obtain ⟨rfl, rfl, rfl⟩ := hv
    subst hx
    exact .one _ _ _ (by simp) (by simpa using .nil t)
  · rw [hb] at hv
    obtain ⟨p, rfl, hle2, hp⟩ := hv
    refine .one _ _ _ (by simp) ?_
    have hl : ((xs.drop off).take len).length = len := by simp; omega
    have key := RepC.slice (A := B) (w := w) t ((xs.drop off).take len) p (D - off) (fun i => css (off + i)) (by rw [hl]; unfold lim; omega) (by rw [hl]; omega)
      (fun hne => by
        have : len ≠ 0 := by rintro rfl; simp at hne
        rw [hp (by omega)]
        exact hid b D hb)
      (fun hne => by
        have : len ≠ 0 := by rintro rfl; simp at hne
        rw [hp (by omega)])
      (fun i hi => (hel (off + i) (by omega)).1)
      (fun i j v hi hj => by
        have hne : len ≠ 0 := by omega
        rw [hp (by omega)]
        have := (hel (off + i) (by omega)).2.1 j v hj
        simp only [World.cell?, hh]
        simp only [Option.isSome_none, Bool.false_eq_true, if_false]
        rw [show off * t.size + i * t.size + j = (off + i) * t.size + j by rw [Nat.add_mul]]
        exact this)
      (fun i hi => by
        have := (hel (off + i) (by omega)).2.2
        rw [show ((xs.drop off).take len)[i] = xs[off + i]'(by omega) by simp]
        exact this.mono fun b hb => ⟨hB b hb, rfl⟩)
    rw [hl] at key
    exact key

theorem toFields_sound {B : Nat → Prop} {A : Nat → Prop} {to : (t : Ty) → SV → Rd t.den} {ok : SV → Prop}
    (hto : ∀ {t : Ty} {sv : SV} {v : Value} {x : t.den}, ok sv → RepSV A w β mem sv v → (to t sv).eval mem = some x → RepV B w t x v) :
    ∀ {ts : List Ty} {l : List SV} {vs : List Value} {tvs : List TV}, (∀ sv ∈ l, ok sv) → (∀ l' : List SV, (∀ sv ∈ l', sv ∈ l) → ok (.agg l')) →
      l.length = vs.length → (∀ v ∈ vs, v.oneCell' = true) → (∀ (i : Nat) (sv : SV) (v : Value), l[i]? = some sv → vs[i]? = some v → RepSV A w β mem sv v) →
      (toFields to ts l).eval mem = some tvs → RepL B w tvs vs ∧ tvs.map Sigma.fst = ts := by
  intro ts
  induction ts with
  | nil =>
    intro l vs tvs _ _ hl _ _ h
    cases l with
    | nil =>
      simp only [toFields, Rd.eval, Option.some.injEq] at h
      subst h
      cases vs with
      | nil => exact ⟨.nil, rfl⟩
      | cons => simp at hl
    | cons => simp [toFields, Rd.eval] at h
  | cons t ts ih =>
    intro l vs tvs hok hagg hl h1 hr h
    by_cases ht : ∃ n, t = .named n
    · obtain ⟨n, rfl⟩ := ht
      simp only [toFields] at h
      obtain ⟨x, hx, h⟩ := Rd.bind_some h
      obtain ⟨r, hrr, h⟩ := Rd.bind_some h
      simp only [Rd.eval, Option.some.injEq] at h
      subst h
      have htake : RepV B w (.named n) x (.agg (vs.take (U.sz n)).toArray) := by
        refine hto (hagg _ fun sv hsv => List.mem_of_mem_take hsv) (.agg (l.take (U.sz n)) (vs.take (U.sz n)) (by simp [hl]) (fun v hv => h1 v (List.mem_of_mem_take hv)) ?_) hx
        intro i sv v hi hj
        rw [List.getElem?_take] at hi hj
        split at hi
        · rename_i hlt
          rw [if_pos hlt] at hj
          exact hr i sv v hi hj
        · simp at hi
      obtain ⟨k1, k2⟩ := ih (l := l.drop (U.sz n)) (vs := vs.drop (U.sz n)) (fun sv hsv => hok sv (List.mem_of_mem_drop hsv))
        (fun l' hl' => hagg l' fun sv hsv => List.mem_of_mem_drop (hl' sv hsv)) (by simp [hl]) (fun v hv => h1 v (List.mem_of_mem_drop hv))
        (fun i sv v hi hj => by
          rw [List.getElem?_drop] at hi hj
          exact hr _ sv v hi hj) hrr
      have hc := htake.cells.1
      simp only [Value.cells, List.toList_toArray] at hc
      have := RepL.cons (.named n) x r _ _ hc k1
      rw [List.take_append_drop] at this
      exact ⟨this, by simp [k2]⟩
    · cases l with
      | nil => cases t <;> first | (simp [toFields, Rd.eval] at h; done) | exact absurd ⟨_, rfl⟩ ht
      | cons sv l =>
        have e : toFields to (t :: ts) (sv :: l) = (to t sv).bind fun x => (toFields to ts l).bind fun r => .ret (⟨t, x⟩ :: r) := by
          cases t <;> first | rfl | exact absurd ⟨_, rfl⟩ ht
        rw [e] at h
        obtain ⟨x, hx, h⟩ := Rd.bind_some h
        obtain ⟨r, hrr, h⟩ := Rd.bind_some h
        simp only [Rd.eval, Option.some.injEq] at h
        subst h
        cases vs with
        | nil => simp at hl
        | cons v vs =>
          have hv := hto (hok sv (by simp)) (hr 0 sv v rfl rfl) hx
          obtain ⟨k1, k2⟩ := ih (l := l) (vs := vs) (fun u hu => hok u (by simp [hu])) (fun l' hl' => hagg l' fun u hu => by simp [hl' u hu]) (by simpa using hl) (fun u hu => h1 u (by simp [hu]))
            (fun i sv v hi hj => hr (i + 1) sv v (by simpa using hi) (by simpa using hj)) hrr
          refine ⟨?_, by simp [k2]⟩
          cases hv with
          | agg n x cs hc => exact absurd ⟨_, rfl⟩ ht
          | one t x v _ hc => exact RepL.cons t x r [v] vs hc k1

theorem toD_sound (h : SimB E N env mem a w β) {B : Nat → Prop} (hB : ∀ b, allow E w β b → B b) {lend : Bool} :
    ∀ (f : Nat) {t : Ty} {sv : SV} {v : Value} {x : t.den}, (lend = true → ∀ id ∈ lentIds f sv, ∀ b C, β id = some (b, C) → B b) →
      RepSV (allow E w β) w β mem sv v → (toD lend f t sv).eval mem = some x → RepV B w t x v := by
  intro f
  induction f with
  | zero => intro t sv v x _ _ hx; simp [toD, Rd.eval] at hx
  | succ f ih =>
    intro t sv v x hlend hr hx
    cases hr with
    | int k n lo hi =>
      simp only [toD] at hx
      exact RepV.cast (Rd.opt_some hx) (.one _ _ _ (by simp) (.int k n lo hi))
    | bool b =>
      simp only [toD] at hx
      exact RepV.cast (Rd.opt_some hx) (.one _ _ _ (by simp) (.bool b))
    | str s hs =>
      simp only [toD] at hx
      exact RepV.cast (Rd.opt_some hx) (.one _ _ _ (by simp) (.str s hs))
    | data u y v hv =>
      simp only [toD] at hx
      exact RepV.cast (Rd.opt_some hx) (hv.mono fun b hb => ⟨hB b hb, rfl⟩)
    | nilsl =>
      cases t with
      | slice t =>
        simp only [toD, Rd.eval] at hx
        obtain rfl := Option.some.inj hx
        exact .one _ _ _ (by simp) (.nil t)
      | _ => simp [toD, Rd.eval] at hx
    | arr id ep v hm h1 hv =>
      simp only [toD] at hx
      split at hx
      · rename_i hle
        replace hx := Rd.mem_some hx
        cases hmi : mem id with
        | none => rw [hmi] at hx; simp [Rd.eval] at hx
        | some k =>
          rw [hmi] at hx
          cases k with
          | box => simp [Rd.eval] at hx
          | dead => simp [Rd.eval] at hx
          | arr ep' u xs =>
            simp only at hx
            split at hx
            · rename_i e
              subst e
              refine RepV.cast (Rd.opt_some hx) ?_
              have := repV_arr h hB hmi (fun b C hb => hlend hle id (by simp [lentIds]) b C hb) (by omega) (hv u xs hmi)
              simpa using this
            · simp [Rd.eval] at hx
      · simp [Rd.eval] at hx
    | sub id ep off len v hm h1 hv =>
      simp only [toD] at hx
      split at hx
      · rename_i hle
        replace hx := Rd.mem_some hx
        cases hmi : mem id with
        | none => rw [hmi] at hx; simp [Rd.eval] at hx
        | some k =>
          rw [hmi] at hx
          cases k with
          | box => simp [Rd.eval] at hx
          | dead => simp [Rd.eval] at hx
          | arr ep' u xs =>
            simp only at hx
            split at hx
            · rename_i e
              subst e
              refine RepV.cast (Rd.opt_some hx) ?_
              exact repV_arr h hB hmi (fun b C hb => hlend hle id (by simp [lentIds]) b C hb) (hv u xs hmi).1 (hv u xs hmi).2
            · simp [Rd.eval] at hx
      · simp [Rd.eval] at hx
    | agg l vs hl h1 hr =>
      cases t with
      | named n =>
        simp only [toD] at hx
        obtain ⟨tvs, htv, hx⟩ := Rd.bind_some hx
        obtain rfl := Option.some.inj hx
        obtain ⟨k1, k2⟩ := toFields_sound (B := B) (A := allow E w β) (to := toD lend f)
          (ok := fun sv => lend = true → ∀ id ∈ lentIds f sv, ∀ b C, β id = some (b, C) → B b)
          (fun hok hrep hev => ih hok hrep hev)
          (fun sv hsv hle id hid b C hb => hlend hle id (by simp only [lentIds, List.mem_flatMap]; exact ⟨sv, hsv, hid⟩) b C hb)
          (fun l' hl' hle id hid b C hb => by
            cases f with
            | zero => simp [lentIds] at hid
            | succ f =>
              simp only [lentIds, List.mem_flatMap] at hid
              obtain ⟨sv, hsv, hid⟩ := hid
              refine hlend hle id ?_ b C hb
              simp only [lentIds, List.mem_flatMap]
              refine ⟨sv, hl' sv hsv, ?_⟩
              exact lentIds_mono f sv hid)
          hl h1 hr htv
        refine .agg n _ vs (.named n _ vs ?_)
        rw [U.get_bld n tvs k2]
        exact k1
      | _ => simp [toD, Rd.eval] at hx
    | _ => simp [toD, Rd.eval] at hx
where
  lentIds_mono : ∀ (f : Nat) (sv : SV) {id : Nat}, id ∈ lentIds f sv → id ∈ lentIds (f + 1) sv := by
    intro f
    induction f with
    | zero =>
      intro sv id h
      cases sv <;> simp [lentIds] at h ⊢ <;> assumption
    | succ f ih =>
      intro sv id h
      cases sv with
      | agg l =>
        simp only [lentIds, List.mem_flatMap] at h ⊢
        obtain ⟨sv, hsv, h⟩ := h
        exact ⟨sv, hsv, ih sv h⟩
      | _ => simp [lentIds] at h ⊢ <;> assumption

theorem toTV_sound (h : SimB E N env mem a w β) {t : Ty} {sv : SV} {v : Value} {tv : TV} (hr : RepSV (allow E w β) w β mem sv v)
    (hx : (toTV false t sv).eval mem = some tv) : ∃ x, tv = ⟨t, x⟩ ∧ RepV (allow E w β) w t x v := by
  obtain ⟨x, hx, h2⟩ := Rd.bind_some hx
  simp only [Rd.eval, Option.some.injEq] at h2
  exact ⟨x, h2.symm, toD_sound h (fun _ hb => hb) fuel (by simp) hr hx⟩

end
end Go.Am
