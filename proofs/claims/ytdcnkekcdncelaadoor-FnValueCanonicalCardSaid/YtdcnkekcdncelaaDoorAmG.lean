/-
  Am, part G: symbolic values as data; writing operations.
-/
import Derived.Test.YtdcnkekcdncelaaDoorAmF
set_option linter.all false
namespace Go.Am
open List
variable [U : Univ]

theorem TV.to_some {t u : Ty} {x : u.den} {y : t.den} (h : TV.to t ⟨u, x⟩ = some y) : ∃ e : u = t, y = e ▸ x := by
  simp only [TV.to] at h; split at h
  · rename_i e; exact ⟨e, (Option.some.inj h).symm⟩
  · simp at h

theorem RepV.cast {A : Nat → Prop} {w : World} {t u : Ty} {x : u.den} {y : t.den} {v : Value} (h : TV.to t ⟨u, x⟩ = some y) (hv : RepV A w u x v) : RepV A w t y v := by
  obtain ⟨e, rfl⟩ := TV.to_some h; subst e; exact hv

section
variable {E : Ent} {N : Nat} {env : Nat → SV} {mem : Nat → Option Blk} {a : Act} {w : World} {β : Bind} {P : Program} {C : Ctx}

theorem repV_arr (h : SimB E N env mem a w β) {B : Nat → Prop} (hB : ∀ b, allow E w β b → B b) {id ep : Nat} {t : Ty} {xs : List t.den} (hm : mem id = some (.arr ep t xs))
    (hid : ∀ b C, β id = some (b, C) → B b) {off len : Nat} {v : Value} (hle : off + len ≤ xs.length) (hv : SliceAt (β id) t.size off len v) :
    RepV B w (.slice t) ((xs.drop off).take len : List t.den) v := by
  obtain ⟨hlim, ⟨hb, hx⟩ | ⟨b, D, cs, el, css, hb, hh, hsz, hD, hel⟩⟩ := h.blk id _ hm
  · rw [hb] at hv; obtain ⟨rfl, rfl, rfl⟩ := hv; subst hx; exact .one _ _ _ (by simp) (by simpa using .nil t)
  · rw [hb] at hv; obtain ⟨p, rfl, hle2, hp⟩ := hv; refine .one _ _ _ (by simp) ?_; have hl : ((xs.drop off).take len).length = len := by simp; omega
    have key := RepC.slice (A := B) (w := w) t ((xs.drop off).take len) p (D - off) (fun i => css (off + i)) (by rw [hl]; unfold lim; omega) (by rw [hl]; omega)
      (fun hne => by
        (have : len ≠ 0 := by rintro rfl; simp at hne); rw [hp (by omega)]
        exact hid b D hb)
      (fun hne => by
        have : len ≠ 0 := by rintro rfl; simp at hne
        rw [hp (by omega)])
      (fun i hi => (hel (off + i) (by omega)).1)
      (fun i j v hi hj => by
        (have hne : len ≠ 0 := by omega); rw [hp (by omega)]; have := (hel (off + i) (by omega)).2.1 j v hj; simp only [World.cell?, hh]; simp only [Option.isSome_none, Bool.false_eq_true, if_false]; rw [show off * t.size + i * t.size + j = (off + i) * t.size + j by rw [Nat.add_mul]]
        exact this)
      (fun i hi => by
        have := (hel (off + i) (by omega)).2.2; rw [show ((xs.drop off).take len)[i] = xs[off + i]'(by omega) by simp]
        exact this.mono fun b hb => ⟨hB b hb, rfl⟩)
    rw [hl] at key; exact key

theorem Held.inj (h : SimB E N env mem a w β) {i j b : Nat} (hi : Held β i b) (hj : Held β j b) : i = j := by
  rcases hi with ⟨C, hi⟩ | hi <;> rcases hj with ⟨D, hj⟩ | hj
  · exact h.inj i j b C D hi hj
  · exact absurd hi ((h.own b j hj).2.2.2 i C)
  · exact absurd hj ((h.own b i hi).2.2.2 j D)
  · rw [hi] at hj; exact Option.some.inj hj

theorem repO_tr (h : SimB E N env mem a w β) {id ep : Nat} {t : Ty} {xs : List t.den} (hm : mem id = some (.tree ep t xs)) {v : Value} (hv : SliceAt (β id) t.size 0 xs.length v) :
    RepO w (.slice t) xs [v] (Held β id) := by
  obtain ⟨hlim, ⟨hb, hx⟩ | ⟨b, D, cs, el, css, T, hb, hh, hsz, hD, hT1, hT2, hel⟩⟩ := h.blk id _ hm
  · rw [hb] at hv; obtain ⟨_, _, rfl⟩ := hv; subst hx; exact .nil t _
  · rw [hb] at hv; obtain ⟨p, rfl, hle2, hp⟩ := hv; obtain rfl := hp (.inl rfl)
    have := RepO.slice (w := w) t xs b D cs el css T (Held β id) hlim hh hsz hD (.inl ⟨D, hb⟩) (fun i hi => (hel i hi).1) (fun i j v hi hj => (hel i hi).2.1 j v hj)
      (fun i c hi hc => ⟨.inr (hT1 i c hi hc), fun e => (h.own c id (hT1 i c hi hc)).2.2.2 id D (by rw [e]; exact hb)⟩) (fun i j c hi hj => hT2 i j c hi hj) (fun i hi => (hel i hi).2.2)
    simpa using this

theorem repO_arr (h : SimB E N env mem a w β) {id ep : Nat} {t : Ty} {xs : List t.den} (hf : t.flatN fuel = true) (hm : mem id = some (.arr ep t xs)) {v : Value} (hv : SliceAt (β id) t.size 0 xs.length v) :
    RepO w (.slice t) xs [v] (Held β id) := by
  obtain ⟨hlim, ⟨hb, hx⟩ | ⟨b, D, cs, el, css, hb, hh, hsz, hD, hel⟩⟩ := h.blk id _ hm
  · rw [hb] at hv; obtain ⟨_, _, rfl⟩ := hv; subst hx; exact .nil t _
  · rw [hb] at hv; obtain ⟨p, rfl, hle2, hp⟩ := hv; obtain rfl := hp (.inl rfl)
    have := RepO.slice (w := w) t xs b D cs el css (fun _ _ => False) (Held β id) hlim hh hsz hD (.inl ⟨D, hb⟩) (fun i hi => (hel i hi).1) (fun i j v hi hj => (hel i hi).2.1 j v hj)
      (fun i c _ hc => hc.elim) (fun i j c _ _ hc => hc.elim) (fun i hi => (hel i hi).2.2.toO fuel hf)
    simpa using this

inductive RepVO (w : World) : (t : Ty) → t.den → Value → (Nat → Prop) → Prop
  | agg (n : Nat) (x : U.R n) (cs : List Value) (S : Nat → Prop) (h : RepO w (.named n) x cs S) : RepVO w (.named n) x (.agg cs.toArray) S
  | one (t : Ty) (x : t.den) (v : Value) (S : Nat → Prop) (ht : ∀ n, t ≠ .named n) (h : RepO w t x [v] S) : RepVO w t x v S

theorem RepVO.cast {w : World} {t u : Ty} {x : u.den} {y : t.den} {v : Value} {S : Nat → Prop} (h : TV.to t ⟨u, x⟩ = some y) (hv : RepVO w u x v S) : RepVO w t y v S := by
  obtain ⟨e, rfl⟩ := TV.to_some h; subst e; exact hv

theorem RepVO.mono {w w' : World} {t : Ty} {x : t.den} {v : Value} {S S' : Nat → Prop} (h : RepVO w t x v S) (hS : ∀ b, S b → S' b ∧ w'.heap[b]? = w.heap[b]?) : RepVO w' t x v S' := by
  cases h with
  | agg n x cs S h => exact .agg n x cs S' (h.mono hS)
  | one t x v S ht h => exact .one t x v S' ht (h.mono hS)

theorem RepVO.cells {w : World} {t : Ty} {x : t.den} {v : Value} {S : Nat → Prop} (h : RepVO w t x v S) : RepO w t x v.cells.toList S ∧ v.cells.size = t.size := by
  cases h with
  | agg n x cs S h => exact ⟨by simpa [Value.cells] using h, by simpa [Value.cells] using h.length⟩
  | one t x v S ht h =>
    have h1 := h.one v (by simp); (have e : v.cells = #[v] := by cases v <;> simp_all [Value.cells, Value.oneCell']); exact ⟨by simpa [e] using h, by rw [e]; simpa using h.length⟩

theorem RepV.toO {w w' : World} {A : Nat → Prop} {t : Ty} {x : t.den} {v : Value} {S : Nat → Prop} (hf : t.flatN fuel = true) (h : RepV A w t x v) : RepVO w' t x v S := by
  cases h with
  | agg n x cs h => exact .agg n x cs S (h.toO fuel hf)
  | one t x v ht h => exact .one t x v S ht (h.toO fuel hf)

theorem Moved.mono {β : Bind} {ids jds : List Nat} (hs : ∀ i, i ∈ ids → i ∈ jds) {b : Nat} : Moved β ids b → Moved β jds b := fun ⟨i, hi, hb⟩ => ⟨i, hs i hi, hb⟩

theorem lentIds_sub : ∀ (f : Nat) (sv : SV), (lentIds f sv).Sublist (lentIds (f + 1) sv) := by
  have fm : ∀ (g g' : SV → List Nat), (∀ sv, (g sv).Sublist (g' sv)) → ∀ l : List SV, (l.flatMap g).Sublist (l.flatMap g') := by
    intro g g' hg l
    induction l with
    | nil => exact List.Sublist.refl _
    | cons x l ih => simp only [flatMap_cons]; exact (hg x).append ih
  intro f
  induction f with
  | zero =>
    intro sv; cases sv <;> first | exact List.Sublist.refl _ | exact nil_sublist _
  | succ f ih =>
    intro sv
    cases sv with
    | agg l => simp only [lentIds]; exact fm _ _ ih l
    | _ => exact List.Sublist.refl _

theorem toFieldsO_sound (h : SimB E N env mem a w β) {A : Nat → Prop} {to : (t : Ty) → SV → Rd t.den} {ids : SV → List Nat}
    (hto : ∀ {t : Ty} {sv : SV} {v : Value} {x : t.den}, (ids sv).Nodup → RepSV A w β mem sv v → (to t sv).eval mem = some x → RepVO w t x v (Moved β (ids sv)))
    (hagg : ∀ l' : List SV, (ids (.agg l')).Sublist (l'.flatMap ids)) :
    ∀ {ts : List Ty} {l : List SV} {vs : List Value} {tvs : List TV}, (l.flatMap ids).Nodup →
      l.length = vs.length → (∀ v ∈ vs, v.oneCell' = true) → (∀ (i : Nat) (sv : SV) (v : Value), l[i]? = some sv → vs[i]? = some v → RepSV A w β mem sv v) →
      (toFields to ts l).eval mem = some tvs → RepOL w tvs vs (Moved β (l.flatMap ids)) ∧ tvs.map Sigma.fst = ts := by
  have dis : ∀ {p q : List Nat}, (p ++ q).Nodup → ∀ c, Moved β p c → ¬ Moved β q c := by
    rintro p q hnd c ⟨i, hi, h1⟩ ⟨j, hj, h2⟩; have := Held.inj h h1 h2
    subst this
    exact (nodup_append.1 hnd).2.2 i hi i hj rfl
  intro ts
  induction ts with
  | nil =>
    intro l vs tvs _ hl _ _ h
    cases l with
    | nil =>
      simp only [toFields, Rd.eval, Option.some.injEq] at h; subst h
      cases vs with
      | nil => exact ⟨.nil _, rfl⟩
      | cons => simp at hl
    | cons => simp [toFields, Rd.eval] at h
  | cons t ts ih =>
    intro l vs tvs hnd hl h1 hr h; by_cases ht : ∃ n, t = .named n
    · obtain ⟨n, rfl⟩ := ht; simp only [toFields] at h; obtain ⟨x, hx, h⟩ := Rd.bind_some h; obtain ⟨r, hrr, h⟩ := Rd.bind_some h; simp only [Rd.eval, Option.some.injEq] at h; subst h; (have hsplit : l.flatMap ids = (l.take (U.sz n)).flatMap ids ++ (l.drop (U.sz n)).flatMap ids := by rw [← flatMap_append, take_append_drop]); have hnd2 := hnd; rw [hsplit] at hnd2
      have htake : RepVO w (.named n) x (.agg (vs.take (U.sz n)).toArray) (Moved β (ids (.agg (l.take (U.sz n))))) := by
        refine hto ((nodup_append.1 hnd2).1.sublist (hagg _)) (.agg (l.take (U.sz n)) (vs.take (U.sz n)) (by simp [hl]) (fun v hv => h1 v (mem_of_mem_take hv)) ?_) hx; intro i sv v hi hj; rw [getElem?_take] at hi hj; split at hi
        · rename_i hlt; rw [if_pos hlt] at hj; exact hr i sv v hi hj
        · simp at hi
      obtain ⟨k1, k2⟩ := ih (l := l.drop (U.sz n)) (vs := vs.drop (U.sz n)) (nodup_append.1 hnd2).2.1 (by simp [hl]) (fun v hv => h1 v (mem_of_mem_drop hv))
        (fun i sv v hi hj => by
          rw [getElem?_drop] at hi hj
          exact hr _ sv v hi hj) hrr
      have hc := htake.cells.1; simp only [Value.cells, toList_toArray] at hc; have hm1 : ∀ c, Moved β (ids (.agg (l.take (U.sz n)))) c → Moved β ((l.take (U.sz n)).flatMap ids) c := fun c => Moved.mono fun i hi => (hagg _).subset hi
      have := RepOL.cons (w := w) (.named n) x r _ _ _ _ (Moved β (l.flatMap ids)) hc k1 (fun c hc => Moved.mono (fun i hi => by rw [hsplit]; exact mem_append_left _ hi) (hm1 c hc))
        (fun c hc => Moved.mono (fun i hi => by rw [hsplit]; exact mem_append_right _ hi) hc) (fun c hc => dis hnd2 c (hm1 c hc))
      rw [take_append_drop] at this
      exact ⟨this, by simp [k2]⟩
    · cases l with
      | nil => cases t <;> first | (simp [toFields, Rd.eval] at h; done) | exact absurd ⟨_, rfl⟩ ht
      | cons sv l =>
        have e : toFields to (t :: ts) (sv :: l) = (to t sv).bind fun x => (toFields to ts l).bind fun r => .ret (⟨t, x⟩ :: r) := by
          cases t <;> first | rfl | exact absurd ⟨_, rfl⟩ ht
        rw [e] at h; obtain ⟨x, hx, h⟩ := Rd.bind_some h; obtain ⟨r, hrr, h⟩ := Rd.bind_some h; simp only [Rd.eval, Option.some.injEq] at h; subst h
        cases vs with
        | nil => simp at hl
        | cons v vs =>
          simp only [flatMap_cons] at hnd; have hv := hto (nodup_append.1 hnd).1 (hr 0 sv v rfl rfl) hx
          obtain ⟨k1, k2⟩ := ih (l := l) (vs := vs) (nodup_append.1 hnd).2.1 (by simpa using hl) (fun u hu => h1 u (by simp [hu]))
            (fun i sv v hi hj => hr (i + 1) sv v (by simpa using hi) (by simpa using hj)) hrr
          refine ⟨?_, by simp [k2]⟩; simp only [flatMap_cons]
          cases hv with
          | agg n x cs S hc => exact absurd ⟨_, rfl⟩ ht
          | one t x v S _ hc => exact RepOL.cons t x r [v] vs _ _ _ hc k1 (fun c hc => Moved.mono (fun i hi => mem_append_left _ hi) hc) (fun c hc => Moved.mono (fun i hi => mem_append_right _ hi) hc) (dis hnd)

theorem ownD_sound (h : SimB E N env mem a w β) {A : Nat → Prop} :
    ∀ (f : Nat) {t : Ty} {sv : SV} {v : Value} {x : t.den}, (lentIds f sv).Nodup → RepSV A w β mem sv v → (ownD f t sv).eval mem = some x → RepVO w t x v (Moved β (lentIds f sv)) := by
  intro f
  induction f with
  | zero => intro t sv v x _ _ hx; simp [ownD, Rd.eval] at hx
  | succ f ih =>
    intro t sv v x hnd hr hx
    cases hr with
    | int k n lo hi =>
      simp only [ownD] at hx; exact RepVO.cast (Rd.opt_some hx) (.one _ _ _ _ (by simp) (.int k n _ lo hi))
    | bool b =>
      simp only [ownD] at hx; exact RepVO.cast (Rd.opt_some hx) (.one _ _ _ _ (by simp) (.bool b _))
    | str s hs =>
      simp only [ownD] at hx; exact RepVO.cast (Rd.opt_some hx) (.one _ _ _ _ (by simp) (.str s _ hs))
    | data u y v hv =>
      simp only [ownD] at hx; split at hx
      · rename_i hf; exact RepVO.cast (Rd.opt_some hx) (hv.toO hf)
      · simp [Rd.eval] at hx
    | nilsl =>
      cases t with
      | slice t =>
        simp only [ownD, Rd.eval] at hx; obtain rfl := Option.some.inj hx; exact .one _ _ _ _ (by simp) (.nil t _)
      | _ => simp [ownD, Rd.eval] at hx
    | arr id ep v hm h1 hv =>
      simp only [ownD] at hx; replace hx := Rd.mem_some hx
      cases hmi : mem id with
      | none => rw [hmi] at hx; simp [Rd.eval] at hx
      | some k =>
        rw [hmi] at hx
        cases k with
        | box => simp [Rd.eval] at hx
        | tree => simp [Rd.eval] at hx
        | dead => simp [Rd.eval] at hx
        | arr ep' u xs =>
          simp only at hx; split at hx
          · rename_i e; obtain ⟨rfl, hf⟩ := e; refine RepVO.cast (Rd.opt_some hx) (.one _ _ _ _ (by simp) ?_); exact (repO_arr h hf hmi (hv u xs hmi)).mono fun b hb => ⟨⟨id, by simp [lentIds], hb⟩, rfl⟩
          · simp [Rd.eval] at hx
    | tr id ep v hm h1 hv =>
      simp only [ownD] at hx; replace hx := Rd.mem_some hx
      cases hmi : mem id with
      | none => rw [hmi] at hx; simp [Rd.eval] at hx
      | some k =>
        rw [hmi] at hx
        cases k with
        | box => simp [Rd.eval] at hx
        | arr => simp [Rd.eval] at hx
        | dead => simp [Rd.eval] at hx
        | tree ep' u xs =>
          simp only at hx; split at hx
          · rename_i e; subst e; refine RepVO.cast (Rd.opt_some hx) (.one _ _ _ _ (by simp) ?_); exact (repO_tr h hmi (hv u xs hmi)).mono fun b hb => ⟨⟨id, by simp [lentIds], hb⟩, rfl⟩
          · simp [Rd.eval] at hx
    | agg l vs hl h1 hr =>
      cases t with
      | named n =>
        simp only [ownD] at hx; obtain ⟨tvs, htv, hx⟩ := Rd.bind_some hx; obtain rfl := Option.some.inj hx; simp only [lentIds] at hnd
        obtain ⟨k1, k2⟩ := toFieldsO_sound h (A := A) (to := ownD f) (ids := lentIds f) (fun hnd hrep hev => ih hnd hrep hev)
          (fun l' => by
            cases f with
            | zero => exact nil_sublist _
            | succ f =>
              have : ∀ l' : List SV, (l'.flatMap (lentIds f)).Sublist (l'.flatMap (lentIds (f + 1))) := by
                intro l'
                induction l' with
                | nil => exact List.Sublist.refl _
                | cons x l' ih => simp only [flatMap_cons]; exact (lentIds_sub f x).append ih
              exact this l') hnd hl h1 hr htv
        refine .agg n _ vs _ (.named n _ vs _ ?_); rw [U.get_bld n tvs k2]; simp only [lentIds]; exact k1
      | _ => simp [ownD, Rd.eval] at hx
    | _ => simp [ownD, Rd.eval] at hx

theorem toFields_sound {B : Nat → Prop} {A : Nat → Prop} {to : (t : Ty) → SV → Rd t.den} {ok : SV → Prop}
    (hto : ∀ {t : Ty} {sv : SV} {v : Value} {x : t.den}, ok sv → RepSV A w β mem sv v → (to t sv).eval mem = some x → RepV B w t x v) :
    ∀ {ts : List Ty} {l : List SV} {vs : List Value} {tvs : List TV}, (∀ sv ∈ l, ok sv) → (∀ l' : List SV, (∀ sv ∈ l', sv ∈ l) → ok (.agg l')) →
      l.length = vs.length → (∀ v ∈ vs, v.oneCell' = true) → (∀ (i : Nat) (sv : SV) (v : Value), l[i]? = some sv → vs[i]? = some v → RepSV A w β mem sv v) →
      (toFields to ts l).eval mem = some tvs → RepL B w tvs vs ∧ tvs.map Sigma.fst = ts := by
  intro ts
  induction ts with
  | nil =>
    intro l vs tvs _ _ hl _ _ h
    cases l with
    | nil =>
      simp only [toFields, Rd.eval, Option.some.injEq] at h; subst h
      cases vs with
      | nil => exact ⟨.nil, rfl⟩
      | cons => simp at hl
    | cons => simp [toFields, Rd.eval] at h
  | cons t ts ih =>
    intro l vs tvs hok hagg hl h1 hr h; by_cases ht : ∃ n, t = .named n
    · obtain ⟨n, rfl⟩ := ht; simp only [toFields] at h; obtain ⟨x, hx, h⟩ := Rd.bind_some h; obtain ⟨r, hrr, h⟩ := Rd.bind_some h; simp only [Rd.eval, Option.some.injEq] at h; subst h
      have htake : RepV B w (.named n) x (.agg (vs.take (U.sz n)).toArray) := by
        refine hto (hagg _ fun sv hsv => mem_of_mem_take hsv) (.agg (l.take (U.sz n)) (vs.take (U.sz n)) (by simp [hl]) (fun v hv => h1 v (mem_of_mem_take hv)) ?_) hx; intro i sv v hi hj; rw [getElem?_take] at hi hj; split at hi
        · rename_i hlt; rw [if_pos hlt] at hj; exact hr i sv v hi hj
        · simp at hi
      obtain ⟨k1, k2⟩ := ih (l := l.drop (U.sz n)) (vs := vs.drop (U.sz n)) (fun sv hsv => hok sv (mem_of_mem_drop hsv))
        (fun l' hl' => hagg l' fun sv hsv => mem_of_mem_drop (hl' sv hsv)) (by simp [hl]) (fun v hv => h1 v (mem_of_mem_drop hv))
        (fun i sv v hi hj => by
          rw [getElem?_drop] at hi hj
          exact hr _ sv v hi hj) hrr
      have hc := htake.cells.1; simp only [Value.cells, toList_toArray] at hc; have := RepL.cons (.named n) x r _ _ hc k1
      rw [take_append_drop] at this
      exact ⟨this, by simp [k2]⟩
    · cases l with
      | nil => cases t <;> first | (simp [toFields, Rd.eval] at h; done) | exact absurd ⟨_, rfl⟩ ht
      | cons sv l =>
        have e : toFields to (t :: ts) (sv :: l) = (to t sv).bind fun x => (toFields to ts l).bind fun r => .ret (⟨t, x⟩ :: r) := by
          cases t <;> first | rfl | exact absurd ⟨_, rfl⟩ ht
        rw [e] at h; obtain ⟨x, hx, h⟩ := Rd.bind_some h; obtain ⟨r, hrr, h⟩ := Rd.bind_some h; simp only [Rd.eval, Option.some.injEq] at h; subst h
        cases vs with
        | nil => simp at hl
        | cons v vs =>
          have hv := hto (hok sv (by simp)) (hr 0 sv v rfl rfl) hx
          obtain ⟨k1, k2⟩ := ih (l := l) (vs := vs) (fun u hu => hok u (by simp [hu])) (fun l' hl' => hagg l' fun u hu => by simp [hl' u hu]) (by simpa using hl) (fun u hu => h1 u (by simp [hu]))
            (fun i sv v hi hj => hr (i + 1) sv v (by simpa using hi) (by simpa using hj)) hrr
          refine ⟨?_, by simp [k2]⟩
          cases hv with
          | agg n x cs hc => exact absurd ⟨_, rfl⟩ ht
          | one t x v _ hc => exact RepL.cons t x r [v] vs hc k1

theorem toD_sound (h : SimB E N env mem a w β) {B : Nat → Prop} (hB : ∀ b, allow E w β b → B b) {lend : Bool} :
    ∀ (f : Nat) {t : Ty} {sv : SV} {v : Value} {x : t.den}, (lend = true → ∀ id ∈ lentIds f sv, ∀ b, Held β id b → B b) →
      RepSV (allow E w β) w β mem sv v → (toD lend f t sv).eval mem = some x → RepV B w t x v := by
  intro f
  induction f with
  | zero => intro t sv v x _ _ hx; simp [toD, Rd.eval] at hx
  | succ f ih =>
    intro t sv v x hlend hr hx
    cases hr with
    | int k n lo hi =>
      simp only [toD] at hx; exact RepV.cast (Rd.opt_some hx) (.one _ _ _ (by simp) (.int k n lo hi))
    | bool b =>
      simp only [toD] at hx; exact RepV.cast (Rd.opt_some hx) (.one _ _ _ (by simp) (.bool b))
    | str s hs =>
      simp only [toD] at hx; exact RepV.cast (Rd.opt_some hx) (.one _ _ _ (by simp) (.str s hs))
    | data u y v hv =>
      simp only [toD] at hx; exact RepV.cast (Rd.opt_some hx) (hv.mono fun b hb => ⟨hB b hb, rfl⟩)
    | nilsl =>
      cases t with
      | slice t =>
        simp only [toD, Rd.eval] at hx; obtain rfl := Option.some.inj hx; exact .one _ _ _ (by simp) (.nil t)
      | _ => simp [toD, Rd.eval] at hx
    | arr id ep v hm h1 hv =>
      simp only [toD] at hx; split at hx
      · rename_i hle; replace hx := Rd.mem_some hx
        cases hmi : mem id with
        | none => rw [hmi] at hx; simp [Rd.eval] at hx
        | some k =>
          rw [hmi] at hx
          cases k with
          | box => simp [Rd.eval] at hx
          | tree => simp [Rd.eval] at hx
          | dead => simp [Rd.eval] at hx
          | arr ep' u xs =>
            simp only at hx; split at hx
            · rename_i e; subst e; refine RepV.cast (Rd.opt_some hx) ?_; have := repV_arr h hB hmi (fun b C hb => hlend hle id (by simp [lentIds]) b (.inl ⟨C, hb⟩)) (by omega) (hv u xs hmi)
              simpa using this
            · simp [Rd.eval] at hx
      · simp [Rd.eval] at hx
    | sub id ep off len v hm h1 hv =>
      simp only [toD] at hx; split at hx
      · rename_i hle; replace hx := Rd.mem_some hx
        cases hmi : mem id with
        | none => rw [hmi] at hx; simp [Rd.eval] at hx
        | some k =>
          rw [hmi] at hx
          cases k with
          | box => simp [Rd.eval] at hx
          | tree => simp [Rd.eval] at hx
          | dead => simp [Rd.eval] at hx
          | arr ep' u xs =>
            simp only at hx; split at hx
            · rename_i e; subst e; refine RepV.cast (Rd.opt_some hx) ?_; exact repV_arr h hB hmi (fun b C hb => hlend hle id (by simp [lentIds]) b (.inl ⟨C, hb⟩)) (hv u xs hmi).1 (hv u xs hmi).2
            · simp [Rd.eval] at hx
      · simp [Rd.eval] at hx
    | tr id ep v hm h1 hv =>
      simp only [toD] at hx; split at hx
      · rename_i hle; replace hx := Rd.mem_some hx
        cases hmi : mem id with
        | none => rw [hmi] at hx; simp [Rd.eval] at hx
        | some k =>
          rw [hmi] at hx
          cases k with
          | box => simp [Rd.eval] at hx
          | arr => simp [Rd.eval] at hx
          | dead => simp [Rd.eval] at hx
          | tree ep' u xs =>
            simp only at hx; split at hx
            · rename_i e; subst e; refine RepV.cast (Rd.opt_some hx) (.one _ _ _ (by simp) ?_); exact (repO_tr h hmi (hv u xs hmi)).repC fun b hb => hlend hle id (by simp [lentIds]) b hb
            · simp [Rd.eval] at hx
      · simp [Rd.eval] at hx
    | agg l vs hl h1 hr =>
      cases t with
      | named n =>
        simp only [toD] at hx; obtain ⟨tvs, htv, hx⟩ := Rd.bind_some hx; obtain rfl := Option.some.inj hx
        obtain ⟨k1, k2⟩ := toFields_sound (B := B) (A := allow E w β) (to := toD lend f)
          (ok := fun sv => lend = true → ∀ id ∈ lentIds f sv, ∀ b, Held β id b → B b)
          (fun hok hrep hev => ih hok hrep hev)
          (fun sv hsv hle id hid b hb => hlend hle id (by simp only [lentIds, mem_flatMap]; exact ⟨sv, hsv, hid⟩) b hb)
          (fun l' hl' hle id hid b hb => by
            cases f with
            | zero => simp [lentIds] at hid
            | succ f =>
              simp only [lentIds, mem_flatMap] at hid; obtain ⟨sv, hsv, hid⟩ := hid; refine hlend hle id ?_ b hb; simp only [lentIds, mem_flatMap]; refine ⟨sv, hl' sv hsv, ?_⟩
              exact lentIds_mono f sv hid)
          hl h1 hr htv
        refine .agg n _ vs (.named n _ vs ?_); rw [U.get_bld n tvs k2]; exact k1
      | _ => simp [toD, Rd.eval] at hx
    | _ => simp [toD, Rd.eval] at hx
where
  lentIds_mono : ∀ (f : Nat) (sv : SV) {id : Nat}, id ∈ lentIds f sv → id ∈ lentIds (f + 1) sv := by
    intro f
    induction f with
    | zero =>
      intro sv id h; cases sv <;> simp [lentIds] at h ⊢ <;> assumption
    | succ f ih =>
      intro sv id h
      cases sv with
      | agg l =>
        simp only [lentIds, mem_flatMap] at h ⊢; obtain ⟨sv, hsv, h⟩ := h; exact ⟨sv, hsv, ih sv h⟩
      | _ => simp [lentIds] at h ⊢ <;> assumption

theorem toTV_sound (h : SimB E N env mem a w β) {t : Ty} {sv : SV} {v : Value} {tv : TV} (hr : RepSV (allow E w β) w β mem sv v)
    (hx : (toTV false t sv).eval mem = some tv) : ∃ x, tv = ⟨t, x⟩ ∧ RepV (allow E w β) w t x v := by
  obtain ⟨x, hx, h2⟩ := Rd.bind_some hx; simp only [Rd.eval, Option.some.injEq] at h2; exact ⟨x, h2.symm, toD_sound h (fun _ hb => hb) fuel (by simp) hr hx⟩

end
end Go.Am
