/-
  Am, part H: writing operations.
-/
import Derived.Test.YtjcjpeckfikfkaaAmF
import Derived.Great.FillDense
import Derived.Laws.Append
set_option linter.all false
namespace Go.Am
open List
variable [U : Univ]

theorem TV.to_some {t u : Ty} {x : u.den} {y : t.den} (h : TV.to t ⟨u, x⟩ = some y) : ∃ e : u = t, y = e ▸ x := by
  simp only [TV.to] at h; split at h
  · rename_i e; exact ⟨e, (Option.some.inj h).symm⟩
  · simp at h

theorem RepV.cast {A : Nat → Prop} {w : World} {t u : Ty} {x : u.den} {y : t.den} {v : Value} (h : TV.to t ⟨u, x⟩ = some y) (hv : RepV A w u x v) : RepV A w t y v := by
  obtain ⟨e, rfl⟩ := TV.to_some h; subst e; exact hv

section
variable {E : Ent} {N : Nat} {env : Nat → SV} {mem : Nat → Option Blk} {a : Act} {w : World} {β : Bind} {P : Program} {C : Ctx}

theorem repV_arr (h : SimB E N env mem a w β) {B : Nat → Prop} (hB : ∀ b, allow E w β b → B b) {id ep : Nat} {t : Ty} {xs : List t.den} (hm : mem id = some (.arr ep t xs))
    (hid : ∀ b C, β id = some (b, C) → B b) {off len : Nat} {v : Value} (hle : off + len ≤ xs.length) (hv : SliceAt (β id) t.size off len v) :
    RepV B w (.slice t) ((xs.drop off).take len : List t.den) v := by
  obtain ⟨hlim, ⟨hb, hx⟩ | ⟨b, D, cs, el, css, hb, hh, hsz, hD, hel⟩⟩ := h.blk id _ hm
  · rw [hb] at hv; obtain ⟨rfl, rfl, rfl⟩ := hv; subst hx; exact .one _ _ _ (by simp) (by simpa using .nil t)
  · rw [hb] at hv; obtain ⟨p, rfl, hle2, hp⟩ := hv; refine .one _ _ _ (by simp) ?_; have hl : ((xs.drop off).take len).length = len := by simp; omega
    have key := RepC.slice (A := B) (w := w) t ((xs.drop off).take len) p (D - off) (fun i => css (off + i)) (by rw [hl]; unfold lim; omega) (by rw [hl]; omega)
      (fun hne => by
        (have : len ≠ 0 := by rintro rfl; simp at hne); rw [hp (by omega)]
        exact hid b D hb)
      (fun hne => by
        have : len ≠ 0 := by rintro rfl; simp at hne
        rw [hp (by omega)])
      (fun i hi => (hel (off + i) (by omega)).1)
      (fun i j v hi hj => by
        (have hne : len ≠ 0 := by omega); rw [hp (by omega)]; have := (hel (off + i) (by omega)).2.1 j v hj; simp only [World.cell?, hh]; simp only [Option.isSome_none, Bool.false_eq_true, if_false]; rw [show off * t.size + i * t.size + j = (off + i) * t.size + j by rw [Nat.add_mul]]
        exact this)
      (fun i hi => by
        have := (hel (off + i) (by omega)).2.2; rw [show ((xs.drop off).take len)[i] = xs[off + i]'(by omega) by simp]
        exact this.mono fun b hb => ⟨hB b hb, rfl⟩)
    rw [hl] at key; exact key

theorem Held.inj (h : SimB E N env mem a w β) {i j b : Nat} (hi : Held β i b) (hj : Held β j b) : i = j := by
  rcases hi with ⟨C, hi⟩ | hi <;> rcases hj with ⟨D, hj⟩ | hj
  · exact h.inj i j b C D hi hj
  · exact absurd hi ((h.own b j hj).2.2.2 i C)
  · exact absurd hj ((h.own b i hi).2.2.2 j D)
  · rw [hi] at hj; exact Option.some.inj hj

theorem repO_tr (h : SimB E N env mem a w β) {id ep : Nat} {t : Ty} {xs : List t.den} (hm : mem id = some (.tree ep t xs)) {v : Value} (hv : SliceAt (β id) t.size 0 xs.length v) :
    RepO w (.slice t) xs [v] (Held β id) := by
  obtain ⟨hlim, ⟨hb, hx⟩ | ⟨b, D, cs, el, css, T, hb, hh, hsz, hD, hT1, hT2, hel⟩⟩ := h.blk id _ hm
  · rw [hb] at hv; obtain ⟨_, _, rfl⟩ := hv; subst hx; exact .nil t _
  · rw [hb] at hv; obtain ⟨p, rfl, hle2, hp⟩ := hv; obtain rfl := hp (.inl rfl)
    have := RepO.slice (w := w) t xs b D cs el css T (Held β id) hlim hh hsz hD (.inl ⟨D, hb⟩) (fun i hi => (hel i hi).1) (fun i j v hi hj => (hel i hi).2.1 j v hj)
      (fun i c hi hc => ⟨.inr (hT1 i c hi hc), fun e => (h.own c id (hT1 i c hi hc)).2.2.2 id D (by rw [e]; exact hb)⟩) (fun i j c hi hj => hT2 i j c hi hj) (fun i hi => (hel i hi).2.2)
    simpa using this

theorem repO_arr (h : SimB E N env mem a w β) {id ep : Nat} {t : Ty} {xs : List t.den} (hf : t.flatN fuel = true) (hm : mem id = some (.arr ep t xs)) {v : Value} (hv : SliceAt (β id) t.size 0 xs.length v) :
    RepO w (.slice t) xs [v] (Held β id) := by
  obtain ⟨hlim, ⟨hb, hx⟩ | ⟨b, D, cs, el, css, hb, hh, hsz, hD, hel⟩⟩ := h.blk id _ hm
  · rw [hb] at hv; obtain ⟨_, _, rfl⟩ := hv; subst hx; exact .nil t _
  · rw [hb] at hv; obtain ⟨p, rfl, hle2, hp⟩ := hv; obtain rfl := hp (.inl rfl)
    have := RepO.slice (w := w) t xs b D cs el css (fun _ _ => False) (Held β id) hlim hh hsz hD (.inl ⟨D, hb⟩) (fun i hi => (hel i hi).1) (fun i j v hi hj => (hel i hi).2.1 j v hj)
      (fun i c _ hc => hc.elim) (fun i j c _ _ hc => hc.elim) (fun i hi => (hel i hi).2.2.toO fuel hf)
    simpa using this

inductive RepVO (w : World) : (t : Ty) → t.den → Value → (Nat → Prop) → Prop
  | agg (n : Nat) (x : U.R n) (cs : List Value) (S : Nat → Prop) (h : RepO w (.named n) x cs S) : RepVO w (.named n) x (.agg cs.toArray) S
  | one (t : Ty) (x : t.den) (v : Value) (S : Nat → Prop) (ht : ∀ n, t ≠ .named n) (h : RepO w t x [v] S) : RepVO w t x v S

theorem RepVO.cast {w : World} {t u : Ty} {x : u.den} {y : t.den} {v : Value} {S : Nat → Prop} (h : TV.to t ⟨u, x⟩ = some y) (hv : RepVO w u x v S) : RepVO w t y v S := by
  obtain ⟨e, rfl⟩ := TV.to_some h; subst e; exact hv

theorem RepVO.mono {w w' : World} {t : Ty} {x : t.den} {v : Value} {S S' : Nat → Prop} (h : RepVO w t x v S) (hS : ∀ b, S b → S' b ∧ w'.heap[b]? = w.heap[b]?) : RepVO w' t x v S' := by
  cases h with
  | agg n x cs S h => exact .agg n x cs S' (h.mono hS)
  | one t x v S ht h => exact .one t x v S' ht (h.mono hS)

theorem RepVO.cells {w : World} {t : Ty} {x : t.den} {v : Value} {S : Nat → Prop} (h : RepVO w t x v S) : RepO w t x v.cells.toList S ∧ v.cells.size = t.size := by
  cases h with
  | agg n x cs S h => exact ⟨by simpa [Value.cells] using h, by simpa [Value.cells] using h.length⟩
  | one t x v S ht h =>
    have h1 := h.one v (by simp); (have e : v.cells = #[v] := by cases v <;> simp_all [Value.cells, Value.oneCell']); exact ⟨by simpa [e] using h, by rw [e]; simpa using h.length⟩

theorem RepV.toO {w w' : World} {A : Nat → Prop} {t : Ty} {x : t.den} {v : Value} {S : Nat → Prop} (hf : t.flatN fuel = true) (h : RepV A w t x v) : RepVO w' t x v S := by
  cases h with
  | agg n x cs h => exact .agg n x cs S (h.toO fuel hf)
  | one t x v ht h => exact .one t x v S ht (h.toO fuel hf)

theorem Moved.mono {β : Bind} {ids jds : List Nat} (hs : ∀ i, i ∈ ids → i ∈ jds) {b : Nat} : Moved β ids b → Moved β jds b := fun ⟨i, hi, hb⟩ => ⟨i, hs i hi, hb⟩

theorem lentIds_sub : ∀ (f : Nat) (sv : SV), (lentIds f sv).Sublist (lentIds (f + 1) sv) := by
  have fm : ∀ (g g' : SV → List Nat), (∀ sv, (g sv).Sublist (g' sv)) → ∀ l : List SV, (l.flatMap g).Sublist (l.flatMap g') := by
    intro g g' hg l
    induction l with
    | nil => exact List.Sublist.refl _
    | cons x l ih => simp only [flatMap_cons]; exact (hg x).append ih
  intro f
  induction f with
  | zero =>
    intro sv; cases sv <;> first | exact List.Sublist.refl _ | exact nil_sublist _
  | succ f ih =>
    intro sv
    cases sv with
    | agg l => simp only [lentIds]; exact fm _ _ ih l
    | _ => exact List.Sublist.refl _

theorem toFieldsO_sound (h : SimB E N env mem a w β) {A : Nat → Prop} {to : (t : Ty) → SV → Rd t.den} {ids : SV → List Nat}
    (hto : ∀ {t : Ty} {sv : SV} {v : Value} {x : t.den}, (ids sv).Nodup → RepSV A w β mem sv v → (to t sv).eval mem = some x → RepVO w t x v (Moved β (ids sv)))
    (hagg : ∀ l' : List SV, (ids (.agg l')).Sublist (l'.flatMap ids)) :
    ∀ {ts : List Ty} {l : List SV} {vs : List Value} {tvs : List TV}, (l.flatMap ids).Nodup →
      l.length = vs.length → (∀ v ∈ vs, v.oneCell' = true) → (∀ (i : Nat) (sv : SV) (v : Value), l[i]? = some sv → vs[i]? = some v → RepSV A w β mem sv v) →
      (toFields to ts l).eval mem = some tvs → RepOL w tvs vs (Moved β (l.flatMap ids)) ∧ tvs.map Sigma.fst = ts := by
  have dis : ∀ {p q : List Nat}, (p ++ q).Nodup → ∀ c, Moved β p c → ¬ Moved β q c := by
    rintro p q hnd c ⟨i, hi, h1⟩ ⟨j, hj, h2⟩; have := Held.inj h h1 h2
    subst this
    exact (nodup_append.1 hnd).2.2 i hi i hj rfl
  intro ts
  induction ts with
  | nil =>
    intro l vs tvs _ hl _ _ h
    cases l with
    | nil =>
      simp only [toFields, Rd.eval, Option.some.injEq] at h; subst h
      cases vs with
      | nil => exact ⟨.nil _, rfl⟩
      | cons => simp at hl
    | cons => simp [toFields, Rd.eval] at h
  | cons t ts ih =>
    intro l vs tvs hnd hl h1 hr h; by_cases ht : ∃ n, t = .named n
    · obtain ⟨n, rfl⟩ := ht; simp only [toFields] at h; obtain ⟨x, hx, h⟩ := Rd.bind_some h; obtain ⟨r, hrr, h⟩ := Rd.bind_some h; simp only [Rd.eval, Option.some.injEq] at h; subst h; (have hsplit : l.flatMap ids = (l.take (U.sz n)).flatMap ids ++ (l.drop (U.sz n)).flatMap ids := by rw [← flatMap_append, take_append_drop]); have hnd2 := hnd; rw [hsplit] at hnd2
      have htake : RepVO w (.named n) x (.agg (vs.take (U.sz n)).toArray) (Moved β (ids (.agg (l.take (U.sz n))))) := by
        refine hto ((nodup_append.1 hnd2).1.sublist (hagg _)) (.agg (l.take (U.sz n)) (vs.take (U.sz n)) (by simp [hl]) (fun v hv => h1 v (mem_of_mem_take hv)) ?_) hx; intro i sv v hi hj; rw [getElem?_take] at hi hj; split at hi
        · rename_i hlt; rw [if_pos hlt] at hj; exact hr i sv v hi hj
        · simp at hi
      obtain ⟨k1, k2⟩ := ih (l := l.drop (U.sz n)) (vs := vs.drop (U.sz n)) (nodup_append.1 hnd2).2.1 (by simp [hl]) (fun v hv => h1 v (mem_of_mem_drop hv))
        (fun i sv v hi hj => by
          rw [getElem?_drop] at hi hj
          exact hr _ sv v hi hj) hrr
      have hc := htake.cells.1; simp only [Value.cells, toList_toArray] at hc; have hm1 : ∀ c, Moved β (ids (.agg (l.take (U.sz n)))) c → Moved β ((l.take (U.sz n)).flatMap ids) c := fun c => Moved.mono fun i hi => (hagg _).subset hi
      have := RepOL.cons (w := w) (.named n) x r _ _ _ _ (Moved β (l.flatMap ids)) hc k1 (fun c hc => Moved.mono (fun i hi => by rw [hsplit]; exact mem_append_left _ hi) (hm1 c hc))
        (fun c hc => Moved.mono (fun i hi => by rw [hsplit]; exact mem_append_right _ hi) hc) (fun c hc => dis hnd2 c (hm1 c hc))
      rw [take_append_drop] at this
      exact ⟨this, by simp [k2]⟩
    · cases l with
      | nil => cases t <;> first | (simp [toFields, Rd.eval] at h; done) | exact absurd ⟨_, rfl⟩ ht
      | cons sv l =>
        have e : toFields to (t :: ts) (sv :: l) = (to t sv).bind fun x => (toFields to ts l).bind fun r => .ret (⟨t, x⟩ :: r) := by
          cases t <;> first | rfl | exact absurd ⟨_, rfl⟩ ht
        rw [e] at h; obtain ⟨x, hx, h⟩ := Rd.bind_some h; obtain ⟨r, hrr, h⟩ := Rd.bind_some h; simp only [Rd.eval, Option.some.injEq] at h; subst h
        cases vs with
        | nil => simp at hl
        | cons v vs =>
          simp only [flatMap_cons] at hnd; have hv := hto (nodup_append.1 hnd).1 (hr 0 sv v rfl rfl) hx
          obtain ⟨k1, k2⟩ := ih (l := l) (vs := vs) (nodup_append.1 hnd).2.1 (by simpa using hl) (fun u hu => h1 u (by simp [hu]))
            (fun i sv v hi hj => hr (i + 1) sv v (by simpa using hi) (by simpa using hj)) hrr
          refine ⟨?_, by simp [k2]⟩; simp only [flatMap_cons]
          cases hv with
          | agg n x cs S hc => exact absurd ⟨_, rfl⟩ ht
          | one t x v S _ hc => exact RepOL.cons t x r [v] vs _ _ _ hc k1 (fun c hc => Moved.mono (fun i hi => mem_append_left _ hi) hc) (fun c hc => Moved.mono (fun i hi => mem_append_right _ hi) hc) (dis hnd)

theorem ownD_sound (h : SimB E N env mem a w β) {A : Nat → Prop} :
    ∀ (f : Nat) {t : Ty} {sv : SV} {v : Value} {x : t.den}, (lentIds f sv).Nodup → RepSV A w β mem sv v → (ownD f t sv).eval mem = some x → RepVO w t x v (Moved β (lentIds f sv)) := by
  intro f
  induction f with
  | zero => intro t sv v x _ _ hx; simp [ownD, Rd.eval] at hx
  | succ f ih =>
    intro t sv v x hnd hr hx
    cases hr with
    | int k n lo hi =>
      simp only [ownD] at hx; exact RepVO.cast (Rd.opt_some hx) (.one _ _ _ _ (by simp) (.int k n _ lo hi))
    | bool b =>
      simp only [ownD] at hx; exact RepVO.cast (Rd.opt_some hx) (.one _ _ _ _ (by simp) (.bool b _))
    | str s hs =>
      simp only [ownD] at hx; exact RepVO.cast (Rd.opt_some hx) (.one _ _ _ _ (by simp) (.str s _ hs))
    | data u y v hv =>
      simp only [ownD] at hx; split at hx
      · rename_i hf; exact RepVO.cast (Rd.opt_some hx) (hv.toO hf)
      · simp [Rd.eval] at hx
    | nilsl =>
      cases t with
      | slice t =>
        simp only [ownD, Rd.eval] at hx; obtain rfl := Option.some.inj hx; exact .one _ _ _ _ (by simp) (.nil t _)
      | _ => simp [ownD, Rd.eval] at hx
    | arr id ep v hm h1 hv =>
      simp only [ownD] at hx; replace hx := Rd.mem_some hx
      cases hmi : mem id with
      | none => rw [hmi] at hx; simp [Rd.eval] at hx
      | some k =>
        rw [hmi] at hx
        cases k with
        | box => simp [Rd.eval] at hx
        | tree => simp [Rd.eval] at hx
        | dead => simp [Rd.eval] at hx
        | mp => simp [Rd.eval] at hx
        | hole => simp [Rd.eval] at hx
        | arr ep' u xs =>
          simp only at hx; split at hx
          · rename_i e; obtain ⟨rfl, hf⟩ := e; refine RepVO.cast (Rd.opt_some hx) (.one _ _ _ _ (by simp) ?_); exact (repO_arr h hf hmi (hv u xs hmi)).mono fun b hb => ⟨⟨id, by simp [lentIds], hb⟩, rfl⟩
          · simp [Rd.eval] at hx
    | tr id ep v hm h1 hv =>
      simp only [ownD] at hx; replace hx := Rd.mem_some hx
      cases hmi : mem id with
      | none => rw [hmi] at hx; simp [Rd.eval] at hx
      | some k =>
        rw [hmi] at hx
        cases k with
        | box => simp [Rd.eval] at hx
        | arr => simp [Rd.eval] at hx
        | dead => simp [Rd.eval] at hx
        | mp => simp [Rd.eval] at hx
        | hole => simp [Rd.eval] at hx
        | tree ep' u xs =>
          simp only at hx; split at hx
          · rename_i e; subst e; refine RepVO.cast (Rd.opt_some hx) (.one _ _ _ _ (by simp) ?_); exact (repO_tr h hmi (hv u xs (.of hmi))).mono fun b hb => ⟨⟨id, by simp [lentIds], hb⟩, rfl⟩
          · simp [Rd.eval] at hx
    | agg l vs hl h1 hr =>
      cases t with
      | named n =>
        simp only [ownD] at hx; obtain ⟨tvs, htv, hx⟩ := Rd.bind_some hx; obtain rfl := Option.some.inj hx; simp only [lentIds] at hnd
        obtain ⟨k1, k2⟩ := toFieldsO_sound h (A := A) (to := ownD f) (ids := lentIds f) (fun hnd hrep hev => ih hnd hrep hev)
          (fun l' => by
            cases f with
            | zero => exact nil_sublist _
            | succ f =>
              have : ∀ l' : List SV, (l'.flatMap (lentIds f)).Sublist (l'.flatMap (lentIds (f + 1))) := by
                intro l'
                induction l' with
                | nil => exact List.Sublist.refl _
                | cons x l' ih => simp only [flatMap_cons]; exact (lentIds_sub f x).append ih
              exact this l') hnd hl h1 hr htv
        refine .agg n _ vs _ (.named n _ vs _ ?_); rw [U.get_bld n tvs k2]; simp only [lentIds]; exact k1
      | _ => simp [ownD, Rd.eval] at hx
    | _ => simp [ownD, Rd.eval] at hx

theorem toFields_sound {B : Nat → Prop} {A : Nat → Prop} {to : (t : Ty) → SV → Rd t.den} {ok : SV → Prop}
    (hto : ∀ {t : Ty} {sv : SV} {v : Value} {x : t.den}, ok sv → RepSV A w β mem sv v → (to t sv).eval mem = some x → RepV B w t x v) :
    ∀ {ts : List Ty} {l : List SV} {vs : List Value} {tvs : List TV}, (∀ sv ∈ l, ok sv) → (∀ l' : List SV, (∀ sv ∈ l', sv ∈ l) → ok (.agg l')) →
      l.length = vs.length → (∀ v ∈ vs, v.oneCell' = true) → (∀ (i : Nat) (sv : SV) (v : Value), l[i]? = some sv → vs[i]? = some v → RepSV A w β mem sv v) →
      (toFields to ts l).eval mem = some tvs → RepL B w tvs vs ∧ tvs.map Sigma.fst = ts := by
  intro ts
  induction ts with
  | nil =>
    intro l vs tvs _ _ hl _ _ h
    cases l with
    | nil =>
      simp only [toFields, Rd.eval, Option.some.injEq] at h; subst h
      cases vs with
      | nil => exact ⟨.nil, rfl⟩
      | cons => simp at hl
    | cons => simp [toFields, Rd.eval] at h
  | cons t ts ih =>
    intro l vs tvs hok hagg hl h1 hr h; by_cases ht : ∃ n, t = .named n
    · obtain ⟨n, rfl⟩ := ht; simp only [toFields] at h; obtain ⟨x, hx, h⟩ := Rd.bind_some h; obtain ⟨r, hrr, h⟩ := Rd.bind_some h; simp only [Rd.eval, Option.some.injEq] at h; subst h
      have htake : RepV B w (.named n) x (.agg (vs.take (U.sz n)).toArray) := by
        refine hto (hagg _ fun sv hsv => mem_of_mem_take hsv) (.agg (l.take (U.sz n)) (vs.take (U.sz n)) (by simp [hl]) (fun v hv => h1 v (mem_of_mem_take hv)) ?_) hx; intro i sv v hi hj; rw [getElem?_take] at hi hj; split at hi
        · rename_i hlt; rw [if_pos hlt] at hj; exact hr i sv v hi hj
        · simp at hi
      obtain ⟨k1, k2⟩ := ih (l := l.drop (U.sz n)) (vs := vs.drop (U.sz n)) (fun sv hsv => hok sv (mem_of_mem_drop hsv))
        (fun l' hl' => hagg l' fun sv hsv => mem_of_mem_drop (hl' sv hsv)) (by simp [hl]) (fun v hv => h1 v (mem_of_mem_drop hv))
        (fun i sv v hi hj => by
          rw [getElem?_drop] at hi hj
          exact hr _ sv v hi hj) hrr
      have hc := htake.cells.1; simp only [Value.cells, toList_toArray] at hc; have := RepL.cons (.named n) x r _ _ hc k1
      rw [take_append_drop] at this
      exact ⟨this, by simp [k2]⟩
    · cases l with
      | nil => cases t <;> first | (simp [toFields, Rd.eval] at h; done) | exact absurd ⟨_, rfl⟩ ht
      | cons sv l =>
        have e : toFields to (t :: ts) (sv :: l) = (to t sv).bind fun x => (toFields to ts l).bind fun r => .ret (⟨t, x⟩ :: r) := by
          cases t <;> first | rfl | exact absurd ⟨_, rfl⟩ ht
        rw [e] at h; obtain ⟨x, hx, h⟩ := Rd.bind_some h; obtain ⟨r, hrr, h⟩ := Rd.bind_some h; simp only [Rd.eval, Option.some.injEq] at h; subst h
        cases vs with
        | nil => simp at hl
        | cons v vs =>
          have hv := hto (hok sv (by simp)) (hr 0 sv v rfl rfl) hx
          obtain ⟨k1, k2⟩ := ih (l := l) (vs := vs) (fun u hu => hok u (by simp [hu])) (fun l' hl' => hagg l' fun u hu => by simp [hl' u hu]) (by simpa using hl) (fun u hu => h1 u (by simp [hu]))
            (fun i sv v hi hj => hr (i + 1) sv v (by simpa using hi) (by simpa using hj)) hrr
          refine ⟨?_, by simp [k2]⟩
          cases hv with
          | agg n x cs hc => exact absurd ⟨_, rfl⟩ ht
          | one t x v _ hc => exact RepL.cons t x r [v] vs hc k1

theorem toD_sound (h : SimB E N env mem a w β) {B : Nat → Prop} (hB : ∀ b, allow E w β b → B b) {lend : Bool} :
    ∀ (f : Nat) {t : Ty} {sv : SV} {v : Value} {x : t.den}, (lend = true → ∀ id ∈ lentIds f sv, ∀ b, Held β id b → B b) →
      RepSV (allow E w β) w β mem sv v → (toD lend f t sv).eval mem = some x → RepV B w t x v := by
  intro f
  induction f with
  | zero => intro t sv v x _ _ hx; simp [toD, Rd.eval] at hx
  | succ f ih =>
    intro t sv v x hlend hr hx
    cases hr with
    | int k n lo hi =>
      simp only [toD] at hx; exact RepV.cast (Rd.opt_some hx) (.one _ _ _ (by simp) (.int k n lo hi))
    | bool b =>
      simp only [toD] at hx; exact RepV.cast (Rd.opt_some hx) (.one _ _ _ (by simp) (.bool b))
    | str s hs =>
      simp only [toD] at hx; exact RepV.cast (Rd.opt_some hx) (.one _ _ _ (by simp) (.str s hs))
    | data u y v hv =>
      simp only [toD] at hx; exact RepV.cast (Rd.opt_some hx) (hv.mono fun b hb => ⟨hB b hb, rfl⟩)
    | nilsl =>
      cases t with
      | slice t =>
        simp only [toD, Rd.eval] at hx; obtain rfl := Option.some.inj hx; exact .one _ _ _ (by simp) (.nil t)
      | _ => simp [toD, Rd.eval] at hx
    | arr id ep v hm h1 hv =>
      simp only [toD] at hx; split at hx
      · rename_i hle; replace hx := Rd.mem_some hx
        cases hmi : mem id with
        | none => rw [hmi] at hx; simp [Rd.eval] at hx
        | some k =>
          rw [hmi] at hx
          cases k with
          | box => simp [Rd.eval] at hx
          | tree => simp [Rd.eval] at hx
          | dead => simp [Rd.eval] at hx
          | mp => simp [Rd.eval] at hx
          | hole => simp [Rd.eval] at hx
          | arr ep' u xs =>
            simp only at hx; split at hx
            · rename_i e; subst e; refine RepV.cast (Rd.opt_some hx) ?_; have := repV_arr h hB hmi (fun b C hb => hlend hle id (by simp [lentIds]) b (.inl ⟨C, hb⟩)) (by omega) (hv u xs hmi)
              simpa using this
            · simp [Rd.eval] at hx
      · simp [Rd.eval] at hx
    | sub id ep off len v hm h1 hv =>
      simp only [toD] at hx; split at hx
      · rename_i hle; replace hx := Rd.mem_some hx
        cases hmi : mem id with
        | none => rw [hmi] at hx; simp [Rd.eval] at hx
        | some k =>
          rw [hmi] at hx
          cases k with
          | box => simp [Rd.eval] at hx
          | tree => simp [Rd.eval] at hx
          | dead => simp [Rd.eval] at hx
          | mp => simp [Rd.eval] at hx
          | hole => simp [Rd.eval] at hx
          | arr ep' u xs =>
            simp only at hx; split at hx
            · rename_i e; subst e; refine RepV.cast (Rd.opt_some hx) ?_; exact repV_arr h hB hmi (fun b C hb => hlend hle id (by simp [lentIds]) b (.inl ⟨C, hb⟩)) (hv u xs hmi).1 (hv u xs hmi).2
            · simp [Rd.eval] at hx
      · simp [Rd.eval] at hx
    | tr id ep v hm h1 hv =>
      simp only [toD] at hx; split at hx
      · rename_i hle; replace hx := Rd.mem_some hx
        cases hmi : mem id with
        | none => rw [hmi] at hx; simp [Rd.eval] at hx
        | some k =>
          rw [hmi] at hx
          cases k with
          | box => simp [Rd.eval] at hx
          | arr => simp [Rd.eval] at hx
          | dead => simp [Rd.eval] at hx
          | mp => simp [Rd.eval] at hx
          | hole => simp [Rd.eval] at hx
          | tree ep' u xs =>
            simp only at hx; split at hx
            · rename_i e; subst e; refine RepV.cast (Rd.opt_some hx) (.one _ _ _ (by simp) ?_); exact (repO_tr h hmi (hv u xs (.of hmi))).repC fun b hb => hlend hle id (by simp [lentIds]) b hb
            · simp [Rd.eval] at hx
      · simp [Rd.eval] at hx
    | agg l vs hl h1 hr =>
      cases t with
      | named n =>
        simp only [toD] at hx; obtain ⟨tvs, htv, hx⟩ := Rd.bind_some hx; obtain rfl := Option.some.inj hx
        obtain ⟨k1, k2⟩ := toFields_sound (B := B) (A := allow E w β) (to := toD lend f)
          (ok := fun sv => lend = true → ∀ id ∈ lentIds f sv, ∀ b, Held β id b → B b)
          (fun hok hrep hev => ih hok hrep hev)
          (fun sv hsv hle id hid b hb => hlend hle id (by simp only [lentIds, mem_flatMap]; exact ⟨sv, hsv, hid⟩) b hb)
          (fun l' hl' hle id hid b hb => by
            cases f with
            | zero => simp [lentIds] at hid
            | succ f =>
              simp only [lentIds, mem_flatMap] at hid; obtain ⟨sv, hsv, hid⟩ := hid; refine hlend hle id ?_ b hb; simp only [lentIds, mem_flatMap]; refine ⟨sv, hl' sv hsv, ?_⟩
              exact lentIds_mono f sv hid)
          hl h1 hr htv
        refine .agg n _ vs (.named n _ vs ?_); rw [U.get_bld n tvs k2]; exact k1
      | _ => simp [toD, Rd.eval] at hx
    | _ => simp [toD, Rd.eval] at hx
where
  lentIds_mono : ∀ (f : Nat) (sv : SV) {id : Nat}, id ∈ lentIds f sv → id ∈ lentIds (f + 1) sv := by
    intro f
    induction f with
    | zero =>
      intro sv id h; cases sv <;> simp [lentIds] at h ⊢ <;> assumption
    | succ f ih =>
      intro sv id h
      cases sv with
      | agg l =>
        simp only [lentIds, mem_flatMap] at h ⊢; obtain ⟨sv, hsv, h⟩ := h; exact ⟨sv, hsv, ih sv h⟩
      | _ => simp [lentIds] at h ⊢ <;> assumption

theorem toTV_sound (h : SimB E N env mem a w β) {t : Ty} {sv : SV} {v : Value} {tv : TV} (hr : RepSV (allow E w β) w β mem sv v)
    (hx : (toTV false t sv).eval mem = some tv) : ∃ x, tv = ⟨t, x⟩ ∧ RepV (allow E w β) w t x v := by
  obtain ⟨x, hx, h2⟩ := Rd.bind_some hx; simp only [Rd.eval, Option.some.injEq] at h2; exact ⟨x, h2.symm, toD_sound h (fun _ hb => hb) fuel (by simp) hr hx⟩

end
end Go.Am


namespace Go.Am
variable [U : Univ]

section
variable {E : Ent} {N : Nat} {env : Nat → SV} {mem : Nat → Option Blk} {a : Act} {w : World} {β : Bind} {P : Program} {C : Ctx}

theorem cellsOf_rep {A : Nat → Prop} : ∀ (f : Nat) {t : Ty} {x : t.den} {cs : List Value}, RepC A w t x cs →
    (cellsOf f ⟨t, x⟩).length = cs.length ∧ ∀ (i : Nat) (sv : SV) (v : Value), (cellsOf f ⟨t, x⟩)[i]? = some sv → cs[i]? = some v → RepSV A w β mem sv v := by
  have one : ∀ {sv : SV} {v : Value}, RepSV A w β mem sv v → ∀ (i : Nat) (sv' : SV) (v' : Value), [sv][i]? = some sv' → [v][i]? = some v' → RepSV A w β mem sv' v' := by
    intro sv v h i sv' v' hi hj
    match i, hi, hj with
    | 0, hi, hj =>
      simp only [List.getElem?_cons_zero, Option.some.injEq] at hi hj; subst hi hj; exact h
  intro f
  induction f with
  | zero =>
    intro t x cs h
    cases h with
    | int k n lo hi => exact ⟨rfl, one (.int k n lo hi)⟩
    | bool b => exact ⟨rfl, one (.bool b)⟩
    | str s hs => exact ⟨rfl, one (.str s hs)⟩
    | named n x cs h =>
      have hl := (RepC.named n x cs h).length; refine ⟨by simp only [cellsOf, List.length_replicate]; exact hl.symm, fun i sv v hi _ => ?_⟩; simp only [cellsOf, List.getElem?_replicate] at hi; split at hi
      · obtain rfl := Option.some.inj hi; exact .top v
      · simp at hi
    | nil t => exact ⟨rfl, one (.data _ _ _ (.one _ _ _ (by simp) (.nil t)))⟩
    | slice t xs p cap css hl hcap hA hs hlen hc hr => exact ⟨rfl, one (.data _ _ _ (.one _ _ _ (by simp) (.slice t xs p cap css hl hcap hA hs hlen hc hr)))⟩
  | succ f ih =>
    intro t x cs h
    cases h with
    | int k n lo hi => exact ⟨rfl, one (.int k n lo hi)⟩
    | bool b => exact ⟨rfl, one (.bool b)⟩
    | str s hs => exact ⟨rfl, one (.str s hs)⟩
    | named n x cs h =>
      simp only [cellsOf]; generalize U.get n x = l at h; clear x
      induction l generalizing cs with
      | nil => cases h; exact ⟨rfl, fun i sv v hi _ => by simp at hi⟩
      | cons tv r ihr =>
        obtain ⟨t, x⟩ := tv
        cases h with
        | cons _ _ _ cs ds h k =>
          obtain ⟨h1, h2⟩ := ih h; obtain ⟨k1, k2⟩ := ihr k; refine ⟨by simp only [List.flatMap_cons, List.length_append]; omega, fun i sv v hi hj => ?_⟩; simp only [List.flatMap_cons] at hi; by_cases hlt : i < cs.length
          · rw [List.getElem?_append_left (by omega)] at hi hj; exact h2 i sv v hi hj
          · rw [List.getElem?_append_right (by omega)] at hi hj; rw [h1] at hi; exact k2 _ sv v hi hj
    | nil t => exact ⟨rfl, one (.data _ _ _ (.one _ _ _ (by simp) (.nil t)))⟩
    | slice t xs p cap css hl hcap hA hs hlen hc hr => exact ⟨rfl, one (.data _ _ _ (.one _ _ _ (by simp) (.slice t xs p cap css hl hcap hA hs hlen hc hr)))⟩

theorem RepSV.cells_rep {A : Nat → Prop} {sv : SV} {v : Value} {l : List SV} (hr : RepSV A w β mem sv v) (h : sv.cells = some l) :
    l.length = v.cells.size ∧ (∀ u ∈ v.cells.toList, u.oneCell' = true) ∧ ∀ (i : Nat) (sv : SV) (u : Value), l[i]? = some sv → v.cells.toList[i]? = some u → RepSV A w β mem sv u := by
  have one : v.oneCell' = true → sv.cells = some [sv] → l.length = v.cells.size ∧ (∀ u ∈ v.cells.toList, u.oneCell' = true) ∧ ∀ (i : Nat) (sv : SV) (u : Value), l[i]? = some sv → v.cells.toList[i]? = some u → RepSV A w β mem sv u := by
    intro h1 hc; rw [hc] at h; obtain rfl := Option.some.inj h; (have e : v.cells = #[v] := by cases v <;> simp_all [Value.cells, Value.oneCell']); rw [e]; refine ⟨rfl, by simpa using h1, fun i sv' u hi hj => ?_⟩
    match i, hi, hj with
    | 0, hi, hj =>
      simp only [List.getElem?_cons_zero, Option.some.injEq] at hi hj; subst hi hj; exact hr
  cases hr with
  | top v => simp [SV.cells] at h
  | int k n lo hi => exact one rfl rfl
  | bool b => exact one rfl rfl
  | str s hs => exact one rfl rfl
  | data t x v hv =>
    cases hv with
    | agg n x cs hc =>
      simp only [SV.cells, Option.some.injEq] at h; subst h; obtain ⟨k1, k2⟩ := cellsOf_rep (β := β) (mem := mem) fuel hc; exact ⟨by simpa [Value.cells] using k1, by simpa [Value.cells] using hc.one, by simpa [Value.cells] using k2⟩
    | one t x v ht hc =>
      refine one (hc.one v (by simp)) ?_; cases t <;> first | rfl | exact absurd rfl (ht _)
  | nilsl => exact one rfl rfl
  | nilptr => exact one rfl rfl
  | err0 => exact one rfl rfl
  | err1 T v => exact one rfl rfl
  | el id i cs => simp [SV.cells] at h
  | mp id ep b hm hv => exact one rfl rfl
  | arr id ep v hm h1 hv => exact one h1 rfl
  | sub id ep off len v hm h1 hv => exact one h1 rfl
  | ref id ep off b hm hv => exact one rfl rfl
  | bsl id ep off len b cap hle hm hv => exact one rfl rfl
  | eref id ep i p b o hm hv => exact one rfl rfl
  | tr id ep v hm h1 hv => exact one h1 rfl
  | tref id ep i p b o hm hv => exact one rfl rfl
  | dref t x b off cs hA hc hr => exact one rfl rfl
  | agg l' vs hl h1 hr =>
    simp only [SV.cells, Option.some.injEq] at h; subst h; exact ⟨by simpa [Value.cells] using hl, by simpa [Value.cells] using h1, by simpa [Value.cells] using hr⟩
  | tup l' vs hl hr => simp [SV.cells] at h
  | clo f l' vs hl hr => exact one rfl rfl
  | cnd p sv v _ _ => simp [SV.cells] at h

def Gives (P : Program) (E : Ent) (N : Nat) (env : Nat → SV) (mem' : Nat → Option Blk) (a : Act) (x : Sem Value) (w : World) (sv : SV) : Prop :=
  ∃ v w' β', x.run P w = .ok v w' ∧ SimB E N env mem' a w' β' ∧ RepSV (allow E w' β') w' β' mem' sv v

omit U in
theorem run_newRow (T : TypeId) (cs : Array Value) (w : World) : (newRow T cs).run P w = .ok ⟨w.heap.size, 0, none⟩ (w.alloc (.cells cs T)) := by
  rfl

theorem newVar_gives (h : SimB E N env mem a w β) {T id ep : Nat} {v : Value} {l : List SV} (hep : (freshEp id).eval mem = some ep) (hl : l.length = v.cells.size)
    (h1 : ∀ u ∈ v.cells.toList, u.oneCell' = true) (hr : ∀ (i : Nat) (sv : SV) (u : Value), l[i]? = some sv → v.cells.toList[i]? = some u → RepSV (allow E w β) w β mem sv u) :
    Gives P E N env (updm mem [(id, .box ep l)]) a (do pure (.pointer (some (← newVar T v)))) w (.ref id ep 0) := by
  have hf := freshEp_some hep
  have hs := h.alloc (k := .box ep l) v.cells T 0 hf (fun w' β' mem' hA hm hb hh => ⟨w.heap.size, 0, v.cells, T, hb, hh, hl.symm, fun j sv hj => by
    have hj' : j < l.length := (List.getElem?_eq_some_iff.1 hj).1; have hj2 : j < v.cells.toList.length := by simpa [← hl] using hj'
    exact ⟨v.cells.toList[j], by simp, h1 _ (List.getElem_mem hj2), (hr j sv _ hj (List.getElem?_eq_getElem hj2)).mono hA hm⟩⟩)
  refine ⟨.pointer (some ⟨w.heap.size, 0, none⟩), _, _, by simp only [newVar, Sem.run_bind, run_newRow, Result.andThen_ok, Sem.run_pure], hs, ?_⟩; rw [updm_one]; exact .ref id ep 0 _ ⟨_, setm_same _ _ _, Nat.le_refl _⟩ fun cells hc => ⟨0, Bind.set_same _ _ _⟩

inductive Cells2 (A : Nat → Prop) (w : World) (β : Bind) (mem : Nat → Option Blk) : List SV → List Value → Prop
  | nil : Cells2 A w β mem [] []
  | cons (sv : SV) (v : Value) (l : List SV) (vs : List Value) (h : RepSV A w β mem sv v) (h1 : v.oneCell' = true) (k : Cells2 A w β mem l vs) : Cells2 A w β mem (sv :: l) (v :: vs)

theorem Cells2.append {A : Nat → Prop} {l l' : List SV} {vs vs' : List Value} (h : Cells2 A w β mem l vs) (h' : Cells2 A w β mem l' vs') : Cells2 A w β mem (l ++ l') (vs ++ vs') := by
  induction h with
  | nil => exact h'
  | cons sv v l vs h h1 _ ih => exact .cons sv v _ _ h h1 ih

theorem Cells2.get {A : Nat → Prop} {l : List SV} {vs : List Value} (h : Cells2 A w β mem l vs) : l.length = vs.length ∧ (∀ v ∈ vs, v.oneCell' = true) ∧ ∀ (i : Nat) (sv : SV) (v : Value), l[i]? = some sv → vs[i]? = some v → RepSV A w β mem sv v := by
  induction h with
  | nil => exact ⟨rfl, by simp, by simp⟩
  | cons sv v l vs h h1 _ ih =>
    obtain ⟨a, b, c⟩ := ih; refine ⟨by simp [a], fun u hu => ?_, fun i s u hi hj => ?_⟩
    · rcases List.mem_cons.1 hu with rfl | hu
      · exact h1
      · exact b u hu
    · cases i with
      | zero =>
        simp only [List.getElem?_cons_zero, Option.some.injEq] at hi hj; subst hi hj; exact h
      | succ i => exact c i s u (by simpa using hi) (by simpa using hj)

theorem zcells_rep {A : Nat → Prop} : ∀ (f : Nat) (t : Ty), Cells2 A w β mem (zcells f t) (zeroCells f t) := by
  intro f
  induction f with
  | zero =>
    intro t
    cases t with
    | int k => exact .cons _ _ _ _ (.int k 0 (by cases k <;> decide) (by cases k <;> decide)) rfl .nil
    | bool => exact .cons _ _ _ _ (.bool false) rfl .nil
    | str => exact .cons _ _ _ _ (.str ByteArray.empty (by simp [lim])) rfl .nil
    | slice e => exact .cons _ _ _ _ .nilsl rfl .nil
    | named n => exact .nil
  | succ f ih =>
    intro t
    cases t with
    | int k => exact .cons _ _ _ _ (.int k 0 (by cases k <;> decide) (by cases k <;> decide)) rfl .nil
    | bool => exact .cons _ _ _ _ (.bool false) rfl .nil
    | str => exact .cons _ _ _ _ (.str ByteArray.empty (by simp [lim])) rfl .nil
    | slice e => exact .cons _ _ _ _ .nilsl rfl .nil
    | named n =>
      simp only [zcells, zeroCells]; generalize U.tys n = l
      induction l with
      | nil => exact .nil
      | cons u l ihl =>
        simp only [List.flatMap_cons]; exact (ih u).append ihl

theorem alloc_gives (h : SimB E N env mem a w β) {T id ep : Nat} {t : Ty} (ht : TyOK P C T t) (hep : (freshEp id).eval mem = some ep) :
    Gives P E N env (updm mem [(id, .box ep (zcells fuel t))]) a (Instr.alloc T true (.tuple #[])) w (.ref id ep 0) := by
  obtain ⟨i, z, hi, _, _, _, hz, _⟩ := ht.info; (have hrun0 : (zeroValue T).run P w = .ok z w := by simp [zeroValue, typeInfo, hi, hz]); obtain ⟨k1, k0, k2⟩ := (zcells_rep (A := allow E w β) (w := w) (β := β) (mem := mem) fuel t).get; rw [← ht.zc i z hi hz] at k1 k0 k2; obtain ⟨v, w', β', hrun, hs, hv⟩ := newVar_gives (P := P) h (T := T) (v := z) hep (by simpa using k1) k0 k2; refine ⟨v, w', β', ?_, hs, hv⟩; simp only [Instr.alloc, Sem.run_bind, hrun0, Result.andThen_ok]; exact hrun

omit U in
theorem flatten_get {α : Type} {l : List α} {n : Nat} : ∀ {k j : Nat}, k < n → j < l.length → (List.replicate n l).flatten[k * l.length + j]? = l[j]? := by
  induction n with
  | zero => intro k j hk; omega
  | succ n ih =>
    intro k j hk hj; rw [List.replicate_succ, List.flatten_cons]
    cases k with
    | zero => rw [Nat.zero_mul, Nat.zero_add, List.getElem?_append_left hj]
    | succ k =>
      rw [List.getElem?_append_right (by rw [Nat.add_mul]; omega), ← ih (k := k) (by omega) hj]; congr 1; rw [Nat.add_mul]; omega

theorem allocArr_gives (h : SimB E N env mem a w β) {T e n id ep : Nat} {t : Ty} (he : C.ty e = some t) (hte : TyOK P C e t) (ha : ArrAt P C T e n) (hep : (freshEp id).eval mem = some ep) :
    Gives P E N env (updm mem [(id, .arr ep t (List.replicate n t.zero))]) a (Instr.alloc T true (.tuple #[])) w (.eref id ep 0 []) := by
  obtain ⟨ie, ze, hie, _, _, _, hze, hzr⟩ := hte.info; obtain ⟨i, z, hi, hz, hzc⟩ := ha.zero; have hzc := hzc t he; (have hrun0 : (zeroValue T).run P w = .ok z w := by simp [zeroValue, typeInfo, hi, hz]); have hel := hte.zc ie ze hie hze
  have hlen : (zeroCells fuel t).length = t.size := by
    rw [← hel, Array.length_toList]; exact ((hzr (allow E w β) w).cells).2
  have hs := h.alloc (k := .arr ep t (List.replicate n t.zero)) z.cells T n (freshEp_some hep) (fun w' β' mem' hA hm hb hh =>
    ⟨by simp; have := ha.pos; omega, .inr ⟨w.heap.size, n, _, T, fun _ => zeroCells fuel t, hb, hh, by
      have : z.cells.toList.length = n * t.size := by rw [hzc, List.length_flatten, List.map_replicate, List.sum_replicate_nat, hlen]
      rw [← Array.length_toList, this], by simp, fun k hk => by
      (have hk' : k < n := by simpa using hk); refine ⟨hlen, fun j v hj => ?_, ?_⟩
      · have hjs : j < (zeroCells fuel t).length := (List.getElem?_eq_some_iff.1 hj).1; have := flatten_get (l := zeroCells fuel t) (n := n) hk' hjs
        rw [← hzc, hlen, hj] at this
        rw [← this, Array.getElem?_toList]
      · have := (hzr (allow E w' β') w').cells.1
        rw [hel] at this
        simpa using this⟩⟩)
  refine ⟨.pointer (some ⟨w.heap.size, 0, none⟩), _, _, by simp only [Instr.alloc, Sem.run_bind, hrun0, Result.andThen_ok, newVar, run_newRow, Sem.run_pure], hs, ?_⟩; rw [updm_one]; refine .eref _ _ _ _ _ _ ⟨_, setm_same _ _ _, Nat.le_refl _⟩ fun t' xs' hm' => ?_; rw [setm_same] at hm'; simp only [Option.some.injEq, Blk.arr.injEq, true_and] at hm'; obtain ⟨rfl, hxs⟩ := hm'; obtain rfl := eq_of_heq hxs; exact ⟨by have := ha.pos; simp; omega, n, 0, _, Bind.set_same _ _ _, rfl, by simp⟩

theorem box_gives (h : SimB E N env mem a w β) {T id ep : Nat} {sv : SV} {v : Value} {l : List SV} (hr : RepSV (allow E w β) w β mem sv v) (hl : sv.cells = some l)
    (hep : (freshEp id).eval mem = some ep) : Gives P E N env (updm mem [(id, .box ep l)]) a (Instr.box T v) w (.ref id ep 0) := by
  obtain ⟨k1, k2, k3⟩ := hr.cells_rep hl; exact newVar_gives h hep k1 k2 k3

def cat (css : Nat → List Value) (n : Nat) : List Value := (List.range n).flatMap css

omit U in
theorem cat_length {css : Nat → List Value} {s : Nat} : ∀ {n : Nat}, (∀ k, k < n → (css k).length = s) → (cat css n).length = n * s
  | 0, _ => by simp [cat]
  | n + 1, h => by
    have ih := cat_length (css := css) (s := s) (n := n) (fun k hk => h k (by omega)); (have e : cat css (n + 1) = cat css n ++ css n := by simp [cat, List.range_succ]); rw [e, List.length_append, ih, h n (by omega), Nat.add_mul, Nat.one_mul]

omit U in
theorem cat_get {css : Nat → List Value} {s : Nat} : ∀ {n k j : Nat}, (∀ k, k < n → (css k).length = s) → k < n → j < s → (cat css n)[k * s + j]? = (css k)[j]?
  | 0, _, _, _, hk, _ => by omega
  | n + 1, k, j, h, hk, hj => by
    (have e : cat css (n + 1) = cat css n ++ css n := by simp [cat, List.range_succ]); have hl := cat_length (css := css) (s := s) (n := n) (fun k hk => h k (by omega)); rw [e]; by_cases hkn : k < n
    · have : k * s + j < n * s := by
        have : (k + 1) * s ≤ n * s := Nat.mul_le_mul_right _ (by omega); rw [Nat.add_mul] at this; omega
      rw [List.getElem?_append_left (by omega)]; exact cat_get (fun k hk => h k (by omega)) hkn hj
    · have : k = n := by omega
      subst this
      rw [List.getElem?_append_right (by omega), hl]; congr 1; omega

omit U in
theorem cat_get' {css : Nat → List Value} {s n i : Nat} {v : Value} (h : ∀ k, k < n → (css k).length = s) (hi : (cat css n)[i]? = some v) :
    ∃ k j, k < n ∧ j < s ∧ i = k * s + j ∧ (css k)[j]? = some v := by
  have hlt : i < (cat css n).length := (List.getElem?_eq_some_iff.1 hi).1; rw [cat_length h] at hlt
  have hs : 0 < s := by
    rcases Nat.eq_zero_or_pos s with e | e
    · subst e; simp at hlt
    · exact e
  have hk : i / s < n := (Nat.div_lt_iff_lt_mul hs).2 hlt; have hj := Nat.mod_lt i hs; (have e : i = i / s * s + i % s := by rw [Nat.mul_comm]; exact (Nat.div_add_mod i s).symm); refine ⟨i / s, i % s, hk, hj, e, ?_⟩; rw [← cat_get h hk hj, ← e]; exact hi

structure Src (P : Program) (A : Nat → Prop) (w : World) (t : Ty) (ys : List t.den) (x : Value) (css : Nat → List Value) : Prop where
  len : ∀ w', (Builtin.lenOf x).run P w' = .ok ys.length w'
  cl : ∀ k, k < ys.length → (css k).length = t.size
  cells : ∀ w' : World, w'.heap = w.heap → (Builtin.firstCells t.size ys.length x).run P w' = .ok (cat css ys.length).toArray w'
  rep : ∀ k (h : k < ys.length), RepC A w t ys[k] (css k)

theorem Src.of_nil {A : Nat → Prop} (t : Ty) : Src P A w t ([] : List t.den) (.slice none 0 0) (fun _ => []) :=
  ⟨fun _ => rfl, by simp, fun _ _ => by simp [Builtin.firstCells, cat], by simp⟩

theorem Src.of_cells {A : Nat → Prop} {t : Ty} {ys : List t.den} {p : Addr} {cap : Nat} {css : Nat → List Value} (hs : ys ≠ [] → p.spot = none)
    (hcl : ∀ k, k < ys.length → (css k).length = t.size) (hc : ∀ (i j : Nat) (v : Value), i < ys.length → (css i)[j]? = some v → w.cell? ⟨p.block, p.off + i * t.size + j, none⟩ = some v)
    (hr : ∀ k (h : k < ys.length), RepC A w t ys[k] (css k)) : Src P A w t ys (.slice (some p) ys.length cap) css := by
  refine ⟨fun _ => rfl, hcl, fun w' hw' => ?_, hr⟩; refine run_firstCells_some w' t.size ys.length p ys.length cap _ (cat_length hcl) fun i v hi => ?_; obtain ⟨k, j, hk, hj, rfl, hv⟩ := cat_get' hcl hi; have hsp := hs (by intro e; simp [e] at hk); obtain ⟨b, off, sp⟩ := p; simp only at hsp; subst hsp; rw [Addr.add_lit]; have := hc k j v hk hv; simp only [World.cell?, hw'] at this ⊢
  rw [Nat.add_assoc] at this
  exact this

theorem listOf_src (h : SimB E N env mem a w β) {t : Ty} {sv : SV} {x : Value} {ys : List t.den} (hr : RepSV (allow E w β) w β mem sv x)
    (hl : (listOf t sv).eval mem = some ys) : ∃ css, Src P (allow E w β) w t ys x css := by
  have dat : ∀ {u : Ty} {z : u.den} {x : Value}, TV.toL t ⟨u, z⟩ = some ys → RepV (allow E w β) w u z x → ∃ css, Src P (allow E w β) w t ys x css := by
    intro u z x hz hv; obtain ⟨e, rfl⟩ := TV.to_some hz; subst e
    cases hv with
    | one _ _ _ _ hc =>
      cases hc with
      | nil => exact ⟨_, Src.of_nil t⟩
      | slice _ xs p cap css hlim hcap hA hs hlen hc hr => exact ⟨css, Src.of_cells hs hlen hc hr⟩
  have own : ∀ {id ep off len : Nat} {u : Ty} {xs : List u.den} {v : Value} {ys : List t.den}, mem id = some (.arr ep u xs) → off + len ≤ xs.length → SliceAt (β id) u.size off len v →
      TV.toL t ⟨.slice u, ((xs.drop off).take len : List u.den)⟩ = some ys → ∃ css, Src P (allow E w β) w t ys v css := by
    intro id ep off len u xs v ys hm hle hv hz; obtain ⟨e, rfl⟩ := TV.to_some hz; (obtain rfl : u = t := by injection e); (have hll : ((xs.drop off).take len).length = len := by simp; omega); obtain ⟨_, ⟨hb, rfl⟩ | ⟨b, D, cs, el, css, hb, hh, hsz, hD, hel⟩⟩ := h.blk id _ hm
    · rw [hb] at hv; obtain ⟨rfl, rfl, rfl⟩ := hv; have := Src.of_nil (P := P) (w := w) (A := allow E w β) u; exact ⟨_, by simpa using this⟩
    · rw [hb] at hv; obtain ⟨p, rfl, hle2, hp⟩ := hv
      have key := Src.of_cells (P := P) (A := allow E w β) (w := w) (ys := (xs.drop off).take len) (p := p) (cap := D - off) (css := fun i => css (off + i))
        (fun hne => by
          have : len ≠ 0 := by rintro rfl; simp at hne
          rw [hp (by omega)])
        (fun k hk => (hel (off + k) (by omega)).1)
        (fun i j v hi hj => by
          rw [hp (by omega)]; have := (hel (off + i) (by omega)).2.1 j v hj; simp only [World.cell?, hh, Option.isSome_none, Bool.false_eq_true, if_false]; rw [show off * u.size + i * u.size + j = (off + i) * u.size + j by rw [Nat.add_mul]]
          exact this)
        (fun k hk => by
          have := (hel (off + k) (by omega)).2.2
          rwa [show ((xs.drop off).take len)[k] = xs[off + k]'(by omega) by simp])
      rw [hll] at key; exact ⟨_, key⟩
  cases hr with
  | data u z v hv => exact dat (Rd.opt_some hl) hv
  | nilsl =>
    simp only [listOf, Rd.eval, Option.some.injEq] at hl; subst hl; exact ⟨_, Src.of_nil t⟩
  | arr id ep v hm h1 hv =>
    simp only [listOf] at hl; replace hl := Rd.mem_some hl
    cases hmi : mem id with
    | none => rw [hmi] at hl; simp [Rd.eval] at hl
    | some k =>
      rw [hmi] at hl
      cases k with
      | box => simp [Rd.eval] at hl
      | tree => simp [Rd.eval] at hl
      | dead => simp [Rd.eval] at hl
      | mp => simp [Rd.eval] at hl
      | hole => simp [Rd.eval] at hl
      | arr ep' u xs =>
        simp only at hl; split at hl
        · rename_i e; subst e; have := hv u xs hmi; exact own (off := 0) (len := xs.length) hmi (by omega) this (by simpa using Rd.opt_some hl)
        · simp [Rd.eval] at hl
  | sub id ep off len v hm h1 hv =>
    simp only [listOf] at hl; replace hl := Rd.mem_some hl
    cases hmi : mem id with
    | none => rw [hmi] at hl; simp [Rd.eval] at hl
    | some k =>
      rw [hmi] at hl
      cases k with
      | box => simp [Rd.eval] at hl
      | tree => simp [Rd.eval] at hl
      | dead => simp [Rd.eval] at hl
      | mp => simp [Rd.eval] at hl
      | hole => simp [Rd.eval] at hl
      | arr ep' u xs =>
        simp only at hl; split at hl
        · rename_i e; subst e; obtain ⟨h2, h3⟩ := hv u xs hmi; exact own hmi h2 h3 (Rd.opt_some hl)
        · simp [Rd.eval] at hl
  | _ => simp [listOf, Rd.eval] at hl

end
end Go.Am
