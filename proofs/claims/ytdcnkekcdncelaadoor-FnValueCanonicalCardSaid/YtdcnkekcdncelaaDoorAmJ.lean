/-
  Am, part J: literals, make, stores.
-/
import Derived.Test.YtdcnkekcdncelaaDoorAmI
import Derived.Lib.AppendZerosOnto
set_option linter.all false
namespace Go.Am
variable [U : Univ]

theorem RepL.set {A : Nat → Prop} {w : World} {l : List TV} {cs : List Value} (h : RepL A w l cs) (f : Nat) {t : Ty} {x y : t.den} {ds : List Value} (hf : l[f]? = some ⟨t, x⟩) (hd : RepC A w t y ds) :
    RepL A w (l.set f ⟨t, y⟩) (cs.take ((((l.map Sigma.fst).take f).map Ty.size).sum) ++ ds ++ cs.drop ((((l.map Sigma.fst).take f).map Ty.size).sum + t.size)) := by
  induction f generalizing l cs with
  | zero =>
    cases h with
    | nil => simp at hf
    | cons u z r cs es h k =>
      simp only [List.getElem?_cons_zero, Option.some.injEq] at hf; obtain rfl : u = t := congrArg Sigma.fst hf; have hl := h.length; simp only [List.set_cons_zero, List.take_zero, List.map_nil, List.sum_nil, List.nil_append, Nat.zero_add]; rw [← hl, List.drop_left]; exact .cons u y r ds es hd k
  | succ f ih =>
    cases h with
    | nil => simp at hf
    | cons u z r cs es h k =>
      simp only [List.getElem?_cons_succ] at hf; have hl := h.length; have := ih k hf; simp only [List.set_cons_succ, List.map_cons, List.take_succ_cons, List.sum_cons]
      have e1 : (cs ++ es).take (u.size + (((r.map Sigma.fst).take f).map Ty.size).sum) = cs ++ es.take ((((r.map Sigma.fst).take f).map Ty.size).sum) := by
        rw [← hl, List.take_append, List.take_of_length_le (by omega)]; congr 2; omega
      have e2 : (cs ++ es).drop (u.size + (((r.map Sigma.fst).take f).map Ty.size).sum + t.size) = es.drop ((((r.map Sigma.fst).take f).map Ty.size).sum + t.size) := by
        rw [← hl, Nat.add_assoc, List.drop_append]; simp
      rw [e1, e2, List.append_assoc, List.append_assoc]
      rw [List.append_assoc] at this
      exact .cons u z _ cs _ h this

theorem updAt_rep {A : Nat → Prop} {w : World} (p : List Nat) : ∀ {t : Ty} {x : t.den} {cs : List Value} {u : Ty} {y : u.den} {ds : List Value} {tv : TV}, RepC A w t x cs → RepC A w u y ds → updAt ⟨t, x⟩ p ⟨u, y⟩ = some tv →
    ∃ (o : Nat) (x' : t.den), tv = ⟨t, x'⟩ ∧ pathOff t p = some (o, u) ∧ o + u.size ≤ cs.length ∧ RepC A w t x' (cs.take o ++ ds ++ cs.drop (o + u.size)) := by
  induction p with
  | nil =>
    intro t x cs u y ds tv h hd hu; simp only [updAt] at hu; split at hu
    · rename_i e; subst e; obtain rfl := Option.some.inj hu; refine ⟨0, y, rfl, rfl, by simp [h.length], ?_⟩; (have : cs.drop (0 + u.size) = [] := by rw [Nat.zero_add, ← h.length]; simp); rw [this]; simpa using hd
    · simp at hu
  | cons f p ih =>
    intro t x cs u y ds tv h hd hu
    cases t with
    | named n =>
      obtain ⟨x, rfl⟩ : ∃ y : U.R n, y = x := ⟨x, rfl⟩; simp only [updAt] at hu; split at hu
      · rename_i tv0 htv; obtain ⟨t', x'⟩ := tv0; split at hu
        · rename_i tv1 htv1; obtain rfl := Option.some.inj hu; obtain ⟨h1, h2⟩ := h.field htv; obtain ⟨o, z, rfl, ho, hle, hr⟩ := ih h1 hd htv1; (have ht : (U.tys n)[f]? = some t' := by rw [← U.get_tys n x, List.getElem?_map, htv]; rfl); have hl1 : ((cs.drop (offsetOf n f)).take t'.size).length = t'.size := h1.length; refine ⟨offsetOf n f + o, _, rfl, by simp [pathOff, ht, ho], by omega, ?_⟩
          cases h with
          | named n x cs h =>
            have hset := h.set f htv hr; have hgt : (U.get n x).map Sigma.fst = U.tys n := U.get_tys n x; (have hof : offsetOf n f = ((((U.get n x).map Sigma.fst).take f).map Ty.size).sum := by rw [hgt]; rfl); rw [← hof] at hset; change RepL A w _ (cs.take (offsetOf n f) ++ _ ++ cs.drop (offsetOf n f + t'.size)) at hset
            have hget : U.get n (U.bld n ((U.get n x).set f ⟨t', z⟩)) = (U.get n x).set f ⟨t', z⟩ := by
              refine U.get_bld n _ ?_; have hlt : f < (U.get n x).length := (List.getElem?_eq_some_iff.1 htv).1; have he := (List.getElem?_eq_some_iff.1 htv).2; rw [List.map_set, U.get_tys]; apply List.ext_getElem?; intro i; rw [List.getElem?_set]; split
              · rename_i e; subst e; rw [ht]; have : f < (U.tys n).length := (List.getElem?_eq_some_iff.1 ht).1; simp [this]
              · rfl
            refine .named n _ _ ?_; rw [hget]
            have e : cs.take (offsetOf n f) ++ (((cs.drop (offsetOf n f)).take t'.size).take o ++ ds ++ ((cs.drop (offsetOf n f)).take t'.size).drop (o + u.size)) ++ cs.drop (offsetOf n f + t'.size) =
                cs.take (offsetOf n f + o) ++ ds ++ cs.drop (offsetOf n f + o + u.size) := by
              rw [List.take_take, Nat.min_eq_left (by omega), List.take_add]; simp only [List.append_assoc]; congr 3; rw [List.drop_take, List.drop_drop]
              have : cs.drop (offsetOf n f + t'.size) = (cs.drop (offsetOf n f + (o + u.size))).drop (t'.size - (o + u.size)) := by
                rw [List.drop_drop]; congr 1; omega
              rw [this, List.take_append_drop]; congr 1; omega
            rw [e] at hset; exact hset
        · simp at hu
      · simp at hu
    | _ => simp [updAt] at hu

theorem RepOL.set {w : World} {l : List TV} {cs : List Value} {S Sy : Nat → Prop} (h : RepOL w l cs S) (f : Nat) {t : Ty} {x y : t.den} {ds : List Value} (hf : l[f]? = some ⟨t, x⟩) (hdis : ∀ c, S c → ¬ Sy c)
    (hd : ∀ S1 : Nat → Prop, (∀ c, S1 c → S c) → RepO w t x ((cs.drop ((((l.map Sigma.fst).take f).map Ty.size).sum)).take t.size) S1 → RepO w t y ds (fun c => S1 c ∨ Sy c)) :
    RepOL w (l.set f ⟨t, y⟩) (cs.take ((((l.map Sigma.fst).take f).map Ty.size).sum) ++ ds ++ cs.drop ((((l.map Sigma.fst).take f).map Ty.size).sum + t.size)) (fun c => S c ∨ Sy c) := by
  induction f generalizing l cs S with
  | zero =>
    cases h with
    | nil => simp at hf
    | cons u z r cs es S1 S2 S h k h1 h2 hd12 =>
      simp only [List.getElem?_cons_zero, Option.some.injEq] at hf; obtain rfl : u = t := congrArg Sigma.fst hf; (obtain rfl : z = x := by simpa using hf); have hl := h.length; simp only [List.set_cons_zero, List.take_zero, List.map_nil, List.sum_nil, List.nil_append, Nat.zero_add, List.drop_zero] at hd ⊢; rw [List.take_append_of_le_length (by omega), List.take_of_length_le (by omega)] at hd; rw [← hl, List.drop_left]; refine .cons u y r ds es (fun c => S1 c ∨ Sy c) S2 _ (hd S1 h1 h) k ?_ (fun c hc => .inl (h2 c hc)) ?_
      · rintro c (hc | hc)
        · exact .inl (h1 c hc)
        · exact .inr hc
      · rintro c (hc | hc) h3
        · exact hd12 c hc h3
        · exact hdis c (h2 c h3) hc
  | succ f ih =>
    cases h with
    | nil => simp at hf
    | cons u z r cs es S1 S2 S h k h1 h2 hd12 =>
      simp only [List.getElem?_cons_succ] at hf; have hl := h.length
      have := ih k hf (fun c hc => hdis c (h2 c hc)) (fun S3 h3 hr => by
        refine hd S3 (fun c hc => h2 c (h3 c hc)) ?_; simp only [List.map_cons, List.take_succ_cons, List.sum_cons]; rw [← hl, ← List.drop_drop, List.drop_left]
        exact hr)
      simp only [List.set_cons_succ, List.map_cons, List.take_succ_cons, List.sum_cons]
      have e1 : (cs ++ es).take (u.size + (((r.map Sigma.fst).take f).map Ty.size).sum) = cs ++ es.take ((((r.map Sigma.fst).take f).map Ty.size).sum) := by
        rw [← hl, List.take_append, List.take_of_length_le (by omega)]; congr 2; omega
      have e2 : (cs ++ es).drop (u.size + (((r.map Sigma.fst).take f).map Ty.size).sum + t.size) = es.drop ((((r.map Sigma.fst).take f).map Ty.size).sum + t.size) := by
        rw [← hl, Nat.add_assoc, List.drop_append]; simp
      rw [e1, e2, List.append_assoc, List.append_assoc]
      rw [List.append_assoc] at this
      refine .cons u z _ cs _ S1 (fun c => S2 c ∨ Sy c) _ h this (fun c hc => .inl (h1 c hc)) ?_ ?_
      · rintro c (hc | hc)
        · exact .inl (h2 c hc)
        · exact .inr hc
      · rintro c hc (h3 | h3)
        · exact hd12 c hc h3
        · exact hdis c (h1 c hc) h3

theorem updAt_repO {w : World} (p : List Nat) : ∀ {t : Ty} {x : t.den} {cs : List Value} {u : Ty} {y : u.den} {ds : List Value} {tv : TV} {S Sy : Nat → Prop}, RepO w t x cs S → RepO w u y ds Sy → (∀ c, S c → ¬ Sy c) → updAt ⟨t, x⟩ p ⟨u, y⟩ = some tv →
    ∃ (o : Nat) (x' : t.den), tv = ⟨t, x'⟩ ∧ pathOff t p = some (o, u) ∧ o + u.size ≤ cs.length ∧ RepO w t x' (cs.take o ++ ds ++ cs.drop (o + u.size)) (fun c => S c ∨ Sy c) := by
  induction p with
  | nil =>
    intro t x cs u y ds tv S Sy h hd hdis hu; simp only [updAt] at hu; split at hu
    · rename_i e; subst e; obtain rfl := Option.some.inj hu; refine ⟨0, y, rfl, rfl, by simp [h.length], ?_⟩; (have : cs.drop (0 + u.size) = [] := by rw [Nat.zero_add, ← h.length]; simp); rw [this]; simpa using hd.mono fun c hc => ⟨.inr hc, rfl⟩
    · simp at hu
  | cons f p ih =>
    intro t x cs u y ds tv S Sy h hd hdis hu
    cases t with
    | named n =>
      obtain ⟨x, rfl⟩ : ∃ y : U.R n, y = x := ⟨x, rfl⟩; simp only [updAt] at hu; split at hu
      · rename_i tv0 htv; obtain ⟨t', x'⟩ := tv0; split at hu
        · rename_i tv1 htv1; obtain rfl := Option.some.inj hu; obtain ⟨h1, h2⟩ := (h.repC (A := S) fun _ h => h).field htv; obtain ⟨o, z, rfl, ho, hle, hr0⟩ := updAt_rep (A := fun _ => True) p (h1.mono fun _ _ => ⟨trivial, rfl⟩) (hd.repC (A := fun _ => True) fun _ _ => trivial) htv1; (have ht : (U.tys n)[f]? = some t' := by rw [← U.get_tys n x, List.getElem?_map, htv]; rfl); have hl1 : ((cs.drop (offsetOf n f)).take t'.size).length = t'.size := h1.length; refine ⟨offsetOf n f + o, _, rfl, by simp [pathOff, ht, ho], by omega, ?_⟩
          cases h with
          | named n x cs S h =>
            have hgt : (U.get n x).map Sigma.fst = U.tys n := U.get_tys n x; have hof : offsetOf n f = ((((U.get n x).map Sigma.fst).take f).map Ty.size).sum := by rw [hgt]; rfl
            have hset := h.set (y := z) (Sy := Sy) (ds := ((cs.drop (offsetOf n f)).take t'.size).take o ++ ds ++ ((cs.drop (offsetOf n f)).take t'.size).drop (o + u.size)) f htv hdis (fun S1 hS1 hr1 => by
              rw [← hof] at hr1; obtain ⟨o2, z2, e1, ho2, _, hr2⟩ := ih hr1 hd (fun c hc => hdis c (hS1 c hc)) htv1; (obtain rfl : z = z2 := by simpa using e1); rw [ho] at ho2; obtain rfl : o = o2 := by simpa using ho2
              exact hr2)
            rw [← hof] at hset; change RepOL w _ (cs.take (offsetOf n f) ++ _ ++ cs.drop (offsetOf n f + t'.size)) _ at hset
            have hget : U.get n (U.bld n ((U.get n x).set f ⟨t', z⟩)) = (U.get n x).set f ⟨t', z⟩ := by
              refine U.get_bld n _ ?_; have hlt : f < (U.get n x).length := (List.getElem?_eq_some_iff.1 htv).1; have he := (List.getElem?_eq_some_iff.1 htv).2; rw [List.map_set, U.get_tys]; apply List.ext_getElem?; intro i; rw [List.getElem?_set]; split
              · rename_i e; subst e; rw [ht]; have : f < (U.tys n).length := (List.getElem?_eq_some_iff.1 ht).1; simp [this]
              · rfl
            refine .named n _ _ _ ?_; rw [hget]
            have e : cs.take (offsetOf n f) ++ (((cs.drop (offsetOf n f)).take t'.size).take o ++ ds ++ ((cs.drop (offsetOf n f)).take t'.size).drop (o + u.size)) ++ cs.drop (offsetOf n f + t'.size) =
                cs.take (offsetOf n f + o) ++ ds ++ cs.drop (offsetOf n f + o + u.size) := by
              rw [List.take_take, Nat.min_eq_left (by omega), List.take_add]; simp only [List.append_assoc]; congr 3; rw [List.drop_take, List.drop_drop]
              have : cs.drop (offsetOf n f + t'.size) = (cs.drop (offsetOf n f + (o + u.size))).drop (t'.size - (o + u.size)) := by
                rw [List.drop_drop]; congr 1; omega
              rw [this, List.take_append_drop]; congr 1; omega
            rw [e] at hset; exact hset
        · simp at hu
      · simp at hu
    | _ => simp [updAt] at hu

theorem zero_repO {A : Nat → Prop} {w w' : World} {S : Nat → Prop} : ∀ (f : Nat) {t : Ty} {x : t.den}, RepC A w t x (zeroCells f t) → RepO w' t x (zeroCells f t) S := by
  have key : ∀ {t : Ty} {x : t.den} {cs : List Value}, RepC A w t x cs → (∀ p l c, Value.slice (some p) l c ∉ cs) → ∀ S : Nat → Prop, RepO w' t x cs S := by
    intro t x cs h; refine RepC.rec (motive_1 := fun t x cs _ => (∀ p l c, Value.slice (some p) l c ∉ cs) → ∀ S : Nat → Prop, RepO w' t x cs S) (motive_2 := fun l cs _ => (∀ p l c, Value.slice (some p) l c ∉ cs) → ∀ S : Nat → Prop, RepOL w' l cs S) ?_ ?_ ?_ ?_ ?_ ?_ ?_ ?_ h
    · intro k n lo hi _ S; exact .int k n S lo hi
    · intro b _ S; exact .bool b S
    · intro s h _ S; exact .str s S h
    · intro n x cs _ ih hn S; exact .named n x cs S (ih hn S)
    · intro t _ S; exact .nil t S
    · intro t xs a cap css _ _ _ _ _ _ _ _ hn; exact absurd (List.mem_singleton.2 rfl) (hn a xs.length cap)
    · intro _ S; exact .nil S
    · intro t x r cs ds _ _ ih1 ih2 hn S; exact .cons t x r cs ds (fun _ => False) (fun _ => False) S (ih1 (fun p l c hm => hn p l c (List.mem_append_left _ hm)) _) (ih2 (fun p l c hm => hn p l c (List.mem_append_right _ hm)) _) (fun _ h => h.elim) (fun _ h => h.elim) (fun _ h => h.elim)
  have hz : ∀ (f : Nat) (t : Ty) p l c, Value.slice (some p) l c ∉ zeroCells f t := by
    intro f
    induction f with
    | zero => intro t p l c hm; cases t <;> simp [zeroCells] at hm
    | succ f ih =>
      intro t p l c hm
      cases t with
      | named n =>
        simp only [zeroCells, List.mem_flatMap] at hm; obtain ⟨u, _, hm⟩ := hm; exact ih u p l c hm
      | _ => simp [zeroCells] at hm
  intro f t x h; exact key h (hz f t) S

section
variable {E : Ent} {N : Nat} {env : Nat → SV} {mem : Nat → Option Blk} {a : Act} {w : World} {β : Bind} {P : Program} {C : Ctx}

theorem buildElems_sound (h : SimB E N env mem a w β) {B : Nat → Prop} (hB : ∀ b, allow E w β b → B b) {t : Ty} : ∀ (l : List (Nat × Operand)) (i : Nat) {ps : List (Nat × SV)} {ob : List Prop} {xs : List t.den}, partsOf env l = (ps, ob) → (∀ p ∈ ob, p) →
    (∀ p ∈ ps, ∀ id ∈ lentIds fuel p.2, ∀ b, Held β id b → B b) → (buildElems t i ps).eval mem = some xs → ∃ vs : List Value, (l.map fun p => (p.1, a.eval p.2)) = (vs.zipIdx i).map (fun x => (x.2, x.1)) ∧ vs.length = xs.length ∧ ps.length = vs.length ∧
      ∀ k (h1 : k < xs.length) (h2 : k < vs.length), RepV B w t xs[k] vs[k] := by
  intro l
  induction l with
  | nil =>
    intro i ps ob xs hp _ _ hb; simp only [partsOf, Prod.mk.injEq] at hp; obtain ⟨rfl, rfl⟩ := hp; simp only [buildElems, Rd.eval, Option.some.injEq] at hb; subst hb; exact ⟨[], rfl, rfl, rfl, by simp⟩
  | cons q l ih =>
    obtain ⟨j, x⟩ := q; intro i ps ob xs hp hob hlend hb; simp only [partsOf] at hp; generalize hv : opv env x = vp at hp; obtain ⟨v, p⟩ := vp; generalize hr : partsOf env l = rp at hp; obtain ⟨r, rob⟩ := rp; simp only [Prod.mk.injEq] at hp; obtain ⟨rfl, rfl⟩ := hp; simp only [buildElems] at hb; split at hb
    · rename_i e; subst e; obtain ⟨y, hy, hb⟩ := Rd.bind_some hb; obtain ⟨ys, hys, hb⟩ := Rd.bind_some hb; simp only [Rd.eval, Option.some.injEq] at hb; subst hb; obtain ⟨vs, k1, k2, k3, k4⟩ := ih (j + 1) hr (fun p hp => hob p (by simp [hp])) (fun p hp => hlend p (by simp [hp])) hys; have hxv := opv_rep h hv (fun p hp => hob p (by simp [hp])); refine ⟨a.eval x :: vs, by simp [k1], by simp [k2], by simp [k3], fun k h1 h2 => ?_⟩
      cases k with
      | zero => exact toD_sound h hB fuel (fun _ => hlend (j, v) (by simp)) hxv hy
      | succ k => exact k4 k (by simpa using h1) (by simpa using h2)
    · simp [Rd.eval] at hb

omit U in
theorem oneCell_cells {v : Value} (h : v.oneCell' = true) : v.cells = #[v] := by cases v <;> first | rfl | cases h

theorem oneAll_sound (h : SimB E N env mem a w β) : ∀ (l : List (Nat × Operand)) (i : Nat) {ps : List (Nat × SV)} {ob : List Prop}, partsOf env l = (ps, ob) → (∀ p ∈ ob, p) → oneAll i ps = true →
    ∃ vs : List Value, (l.map fun p => (p.1, a.eval p.2)) = (vs.zipIdx i).map (fun x => (x.2, x.1)) ∧ vs.length = ps.length ∧
      ∀ (k : Nat) (sv : SV) (v : Value), (ps.map (·.2))[k]? = some sv → vs[k]? = some v → v.oneCell' = true ∧ RepSV (allow E w β) w β mem sv v := by
  intro l
  induction l with
  | nil =>
    intro i ps ob hp _ _; simp only [partsOf, Prod.mk.injEq] at hp; obtain ⟨rfl, rfl⟩ := hp; exact ⟨[], rfl, rfl, by simp⟩
  | cons q l ih =>
    obtain ⟨j, x⟩ := q; intro i ps ob hp hob hall; simp only [partsOf] at hp; generalize hv : opv env x = vp at hp; obtain ⟨v, p⟩ := vp; generalize hr : partsOf env l = rp at hp; obtain ⟨r, rob⟩ := rp; simp only [Prod.mk.injEq] at hp; obtain ⟨rfl, rfl⟩ := hp; have hxv := opv_rep h hv (fun p hp => hob p (by simp [hp]))
    have key : j = i ∧ oneAll (i + 1) r = true ∧ (a.eval x).oneCell' = true := by
      cases v with
      | arr id ep =>
        simp only [oneAll, Bool.and_eq_true] at hall; refine ⟨Nat.eq_of_beq_eq_true hall.1, hall.2, ?_⟩; generalize a.eval x = y at hxv; cases hxv; assumption
      | sub id ep off len =>
        simp only [oneAll, Bool.and_eq_true] at hall; refine ⟨Nat.eq_of_beq_eq_true hall.1, hall.2, ?_⟩; generalize a.eval x = y at hxv; cases hxv; assumption
      | _ => simp [oneAll] at hall
    obtain ⟨rfl, hall, h1⟩ := key; obtain ⟨vs, k1, k2, k3⟩ := ih (j + 1) hr (fun p hp => hob p (by simp [hp])) hall; refine ⟨a.eval x :: vs, by simp [k1], by simp [k2], fun k sv u hk hu => ?_⟩
    cases k with
    | zero =>
      obtain rfl := Option.some.inj hk; obtain rfl := Option.some.inj hu; exact ⟨h1, hxv⟩
    | succ k => exact k3 k sv u (by simpa using hk) (by simpa using hu)

theorem buildSliceB_gives (h : SimB E N env mem a w β) (hty : CtxTy P C) {T id ep len : Nat} {t : Ty} (hT : C.ty T = some (.slice t)) (ht1 : t.size = 1) {parts : Array (Nat × Operand)} {svs : List SV} {vs : List Value}
    (h1 : (parts.toList.map fun p => (p.1, a.eval p.2)) = (vs.zipIdx 0).map (fun x => (x.2, x.1))) (h2 : vs.length = svs.length)
    (h4 : ∀ (k : Nat) (sv : SV) (v : Value), svs[k]? = some sv → vs[k]? = some v → v.oneCell' = true ∧ RepSV (allow E w β) w β mem sv v)
    (hln : len = vs.length) (hle : len ≤ 1000) (hep : (freshEp id).eval mem = some ep) :
    Gives P E N env (updm mem [(id, .box ep svs)]) a (Instr.buildSlice T len (parts.map fun p => (p.1, a.eval p.2))) w (.bsl id ep 0 len) := by
  obtain ⟨e, hu, he⟩ := (hty T _ hT).und; have hte := hty e t he; obtain ⟨i, z, hi, hisz, hi4, _, hz, hzr⟩ := hte.info
  have hone : ∀ v ∈ vs, v.oneCell' = true := by
    intro v hv; obtain ⟨k, hk, rfl⟩ := List.mem_iff_getElem.1 hv; exact (h4 k _ _ (List.getElem?_eq_getElem (show k < svs.length by omega)) (List.getElem?_eq_getElem hk)).1
  have hvs : ∀ v ∈ vs, v.cells.size = t.size := fun v hv => by rw [oneCell_cells (hone v hv), ht1]; rfl
  have hflat : (vs.flatMap fun v => v.cells.toList) = vs := by
    clear h1 h2 h4 hln hvs
    induction vs with
    | nil => rfl
    | cons v vs ih => rw [List.flatMap_cons, ih fun u hu => hone u (List.mem_cons_of_mem _ hu), oneCell_cells (hone v (List.mem_cons_self ..))]; rfl
  (have hzv : ∀ w, (zeroValue e).run P w = .ok z w := fun w => by simp [zeroValue, typeInfo, hi, hz]); have hsmall : ¬ (len * t.size > 2 ^ 24) := by rw [ht1]; omega
  have hfill : ∀ zs : Array Value, Instr.fill (fun i => some (i * t.size, t.size)) ((Array.range (len * t.size)).map (zs[· % zs.size]!)) (parts.map fun p => (p.1, a.eval p.2)).toList = some vs.toArray := by
    intro zs; rw [Array.toList_map, h1, ← hflat]; (conv => lhs; rw [hflat]); exact Great.fill_whole t.size_pos vs _ hvs (by simp [hln])
  have hrun : (Instr.buildSlice T len (parts.map fun p => (p.1, a.eval p.2))).run P w = .ok (.slice (some ⟨w.heap.size, 0, none⟩) len len) (w.alloc (.cells vs.toArray e)) := by
    simp only [Instr.buildSlice, Sem.run_bind, run_underlying hu, Result.andThen_ok, hte.size, hsmall, if_false, Sem.run_pure]; by_cases h0 : len * t.size = 0
    · simp only [h0, if_true, Sem.run_pure, Result.andThen_ok]; have := hfill #[]
      rw [h0] at this
      simp only [this, Sem.run_bind, run_newRow, Result.andThen_ok, Sem.run_pure]
    · simp only [h0, if_false, Sem.run_bind, hzv, Result.andThen_ok, Sem.run_pure]; simp only [hfill, Sem.run_bind, run_newRow, Result.andThen_ok, Sem.run_pure]
  have hs := h.alloc (k := .box ep svs) vs.toArray e len (freshEp_some hep) (fun w' β' mem' hA hm hb hh =>
    ⟨w.heap.size, len, _, e, hb, hh, by simp [h2], fun j sv hj => by
      have hjs : j < svs.length := (List.getElem?_eq_some_iff.1 hj).1; (have hjv : j < vs.length := by omega); obtain ⟨q1, q2⟩ := h4 j sv _ hj (List.getElem?_eq_getElem hjv)
      exact ⟨vs[j], by simp [hjv], q1, q2.mono hA hm⟩⟩)
  refine ⟨_, _, _, hrun, hs, ?_⟩; rw [updm_one]; exact .bsl _ _ _ _ _ len (Nat.le_refl _) ⟨_, setm_same _ _ _, Nat.le_refl _⟩ fun cells hc => ⟨len, Bind.set_same _ _ _⟩

theorem buildSlice_gives (h : SimB E N env mem a w β) (hty : CtxTy P C) {T id ep len : Nat} {t : Ty} (hT : C.ty T = some (.slice t)) {parts : Array (Nat × Operand)} {xs : List t.den} {vs : List Value}
    (h1 : (parts.toList.map fun p => (p.1, a.eval p.2)) = (vs.zipIdx 0).map (fun x => (x.2, x.1))) (h2 : vs.length = xs.length)
    (h4 : ∀ k (h1 : k < xs.length) (h2 : k < vs.length), RepV (allow E w β) w t xs[k] vs[k])
    (hln : len = vs.length) (hle : len ≤ 1000) (hep : (freshEp id).eval mem = some ep) :
    Gives P E N env (updm mem [(id, .arr ep t xs)]) a (Instr.buildSlice T len (parts.map fun p => (p.1, a.eval p.2))) w (.arr id ep) := by
  obtain ⟨e, hu, he⟩ := (hty T _ hT).und; have hte := hty e t he; obtain ⟨i, z, hi, hisz, hi4, _, hz, hzr⟩ := hte.info; have hpos := t.size_pos
  have hvs : ∀ v ∈ vs, v.cells.size = t.size := by
    intro v hv; obtain ⟨k, hk, rfl⟩ := List.mem_iff_getElem.1 hv; exact (h4 k (by omega) hk).cells.2
  have hzv : ∀ w, (zeroValue e).run P w = .ok z w := fun w => by simp [zeroValue, typeInfo, hi, hz]
  have hsmall : ¬ (len * t.size > 2 ^ 24) := by
    have : len * t.size ≤ 1000 * 4096 := Nat.mul_le_mul hle (by omega); omega
  have hfill : ∀ zs : Array Value, Instr.fill (fun i => some (i * t.size, t.size)) ((Array.range (len * t.size)).map (zs[· % zs.size]!)) (parts.map fun p => (p.1, a.eval p.2)).toList = some (vs.flatMap fun v => v.cells.toList).toArray := by
    intro zs; rw [Array.toList_map, h1]; exact Great.fill_whole hpos vs _ hvs (by simp [hln])
  have hrun : (Instr.buildSlice T len (parts.map fun p => (p.1, a.eval p.2))).run P w = .ok (.slice (some ⟨w.heap.size, 0, none⟩) len len) (w.alloc (.cells (vs.flatMap fun v => v.cells.toList).toArray e)) := by
    simp only [Instr.buildSlice, Sem.run_bind, run_underlying hu, Result.andThen_ok, hte.size, hsmall, if_false, Sem.run_pure]; by_cases h0 : len * t.size = 0
    · simp only [h0, if_true, Sem.run_pure, Result.andThen_ok]; have := hfill #[]
      rw [h0] at this
      simp only [this, Sem.run_bind, run_newRow, Result.andThen_ok, Sem.run_pure]
    · simp only [h0, if_false, Sem.run_bind, hzv, Result.andThen_ok, Sem.run_pure]; simp only [hfill, Sem.run_bind, run_newRow, Result.andThen_ok, Sem.run_pure]
  have hflen : (vs.flatMap fun v => v.cells.toList).length = len * t.size := by
    rw [List.length_flatMap, hln]; clear h1 h4 hfill hrun hsmall h2 hln
    induction vs with
    | nil => simp
    | cons v vs ih =>
      simp only [List.map_cons, List.sum_cons, List.length_cons]; rw [ih (fun u hu => hvs u (by simp [hu])), Array.length_toList, hvs v (by simp), Nat.add_mul]; omega
  have hs := h.alloc (k := .arr ep t xs) (vs.flatMap fun v => v.cells.toList).toArray e len (freshEp_some hep) (fun w' β' mem' hA hm hb hh =>
    ⟨by omega, .inr ⟨w.heap.size, len, _, e, fun k => (vs.getD k undef).cells.toList, hb, hh, by simpa using hflen, by omega, fun k hk => by
      (have hkv : k < vs.length := by omega); have hr := (h4 k hk hkv).cells.1; (have e1 : vs.getD k undef = vs[k] := by simp [hkv]); dsimp only; rw [e1]; refine ⟨by rw [Array.length_toList]; exact hvs _ (List.getElem_mem hkv), fun j v hj => ?_, hr.mono hA⟩
      have hjs : j < t.size := by
        have := (List.getElem?_eq_some_iff.1 hj).1
        rw [Array.length_toList, hvs _ (List.getElem_mem hkv)] at this
        exact this
      have := Great.flat_get hpos vs hvs (k * t.size + j)
      rw [Nat.mul_comm k, Nat.mul_add_div hpos, Nat.div_eq_of_lt hjs, Nat.mul_add_mod, Nat.mod_eq_of_lt hjs, Nat.add_zero, List.getElem?_eq_getElem hkv] at this
      rw [Nat.mul_comm k]
      simpa [this] using hj⟩⟩)
  refine ⟨_, _, _, hrun, hs, ?_⟩; rw [updm_one]; refine .arr _ ep _ ⟨_, setm_same _ _ _, Nat.le_refl _⟩ rfl fun u zs hm => ?_; rw [setm_same] at hm; simp only [Option.some.injEq, Blk.arr.injEq, true_and] at hm; obtain ⟨rfl, hm⟩ := hm; obtain rfl := eq_of_heq hm; rw [Bind.set_same, ← h2, ← hln]; exact ⟨⟨w.heap.size, 0, none⟩, rfl, by omega, fun _ => by simp⟩

theorem makeSlice_gives (h : SimB E N env mem a w β) (hty : CtxTy P C) {T id ep : Nat} {t : Ty} (hT : C.ty T = some (.slice t)) {k1 k2 : IntKind} {n m : Int} (hnm : 0 ≤ n ∧ n ≤ m ∧ m ≤ 4294967296)
    (hep : (freshEp id).eval mem = some ep) :
    Gives P E N env (updm mem [(id, .arr ep t (List.replicate n.toNat t.zero))]) a (Instr.makeSlice T (.int k1 n) (.int k2 m)) w (.arr id ep) := by
  obtain ⟨e, hu, he⟩ := (hty T _ hT).und; have hte := hty e t he; obtain ⟨i, z, hi, hisz, hi4, hby, hz, hzr⟩ := hte.info
  have hrun := run_make (P := P) w T e i z hu hi hz k1 k2 n m hnm.1 hnm.2.1 (by
    have : (i.bytes : Int) * m ≤ 4096 * 4294967296 := Int.mul_le_mul (by omega) hnm.2.2 (by omega) (by omega)
    rw [Int.mul_comm] at this
    first | omega | (rw [Int.mul_comm]; omega)) (by omega)
  have hzc := (hzr (allow E w β) w).cells; rw [hisz] at hrun
  have hs := h.alloc (k := .arr ep t (List.replicate n.toNat t.zero)) (madeCells z.cells (m.toNat * t.size)) e m.toNat (freshEp_some hep) (fun w' β' mem' hA hm hb hh =>
    ⟨by simp; omega, .inr ⟨w.heap.size, m.toNat, _, e, fun _ => z.cells.toList, hb, hh, by simp [madeCells], by simp; omega, fun k hk => by
      (have hk' : k < n.toNat := by simpa using hk); refine ⟨by rw [Array.length_toList]; exact hzc.2, fun j v hj => ?_, by simpa using (hzr (allow E w' β') w').cells.1⟩
      have hjs : j < t.size := by
        have := (List.getElem?_eq_some_iff.1 hj).1
        rwa [Array.length_toList, hzc.2] at this
      have hlt : k * t.size + j < m.toNat * t.size := by
        have : (k + 1) * t.size ≤ m.toNat * t.size := Nat.mul_le_mul_right _ (by omega); rw [Nat.add_mul] at this; omega
      (have hj2 : j < z.cells.size := by rw [hzc.2]; exact hjs); (have : (k * t.size + j) % z.cells.size = j := by rw [hzc.2, Nat.mul_comm, Nat.mul_add_mod, Nat.mod_eq_of_lt hjs]); simp only [madeCells, Array.getElem?_map, Array.getElem?_range, hlt, if_true, Option.map_some, this]; simp at hj; simp [hj2] at hj ⊢
      exact hj⟩⟩)
  refine ⟨_, _, _, hrun, hs, ?_⟩; rw [updm_one]; refine .arr _ ep _ ⟨_, setm_same _ _ _, Nat.le_refl _⟩ rfl fun u zs hm => ?_; rw [setm_same] at hm; simp only [Option.some.injEq, Blk.arr.injEq, true_and] at hm; obtain ⟨rfl, hm⟩ := hm; obtain rfl := eq_of_heq hm; rw [Bind.set_same]; exact ⟨⟨w.heap.size, 0, none⟩, by simp, by simp; omega, fun _ => by simp⟩


theorem buildOwned_sound (h : SimB E N env mem a w β) {t : Ty} : ∀ (l : List (Nat × Operand)) (i : Nat) {ps : List (Nat × SV)} {ob : List Prop} {xs : List t.den}, partsOf env l = (ps, ob) → (∀ p ∈ ob, p) →
    (ps.flatMap fun p => lentIds fuel p.2).Nodup → (buildOwned t i ps).eval mem = some xs → ∃ (vs : List Value) (T : Nat → Nat → Prop), (l.map fun p => (p.1, a.eval p.2)) = (vs.zipIdx i).map (fun x => (x.2, x.1)) ∧ vs.length = xs.length ∧ ps.length = vs.length ∧
      (∀ k c, k < xs.length → T k c → Moved β (ps.flatMap fun p => lentIds fuel p.2) c) ∧ (∀ j k c, j < xs.length → k < xs.length → T j c → T k c → j = k) ∧
      ∀ k (h1 : k < xs.length) (h2 : k < vs.length), RepVO w t xs[k] vs[k] (T k) := by
  intro l
  induction l with
  | nil =>
    intro i ps ob xs hp _ _ hb; simp only [partsOf, Prod.mk.injEq] at hp; obtain ⟨rfl, rfl⟩ := hp; simp only [buildOwned, Rd.eval, Option.some.injEq] at hb; subst hb; exact ⟨[], fun _ _ => False, rfl, rfl, rfl, by simp, by simp, by simp⟩
  | cons q l ih =>
    obtain ⟨j, x⟩ := q; intro i ps ob xs hp hob hnd hb; simp only [partsOf] at hp; generalize hv : opv env x = vp at hp; obtain ⟨v, p⟩ := vp; generalize hr : partsOf env l = rp at hp; obtain ⟨r, rob⟩ := rp; simp only [Prod.mk.injEq] at hp; obtain ⟨rfl, rfl⟩ := hp; simp only [buildOwned] at hb; simp only [List.flatMap_cons] at hnd ⊢; split at hb
    · rename_i e; subst e; obtain ⟨y, hy, hb⟩ := Rd.bind_some hb; obtain ⟨ys, hys, hb⟩ := Rd.bind_some hb; simp only [Rd.eval, Option.some.injEq] at hb; subst hb; obtain ⟨vs, T, k1, k2, k3, k4, k5, k6⟩ := ih (j + 1) hr (fun p hp => hob p (by simp [hp])) (List.nodup_append.1 hnd).2.1 hys; have hxv := opv_rep h hv (fun p hp => hob p (by simp [hp])); have hO := ownD_sound h (A := allow E w β) fuel (List.nodup_append.1 hnd).1 hxv hy
      have hdis : ∀ c, Moved β (lentIds fuel v) c → ¬ Moved β (r.flatMap fun p => lentIds fuel p.2) c := by
        rintro c ⟨i, hi, h1⟩ ⟨j, hj, h2⟩; have := Held.inj h h1 h2
        subst this
        exact (List.nodup_append.1 hnd).2.2 i hi i hj rfl
      refine ⟨a.eval x :: vs, fun k => match k with | 0 => Moved β (lentIds fuel v) | k + 1 => T k, by simp [k1], by simp [k2], by simp [k3], fun k c hk hc => ?_, fun k m c hk hm h1 h2 => ?_, fun k h1 h2 => ?_⟩
      · cases k with
        | zero => exact Moved.mono (fun i hi => List.mem_append_left _ hi) hc
        | succ k => exact Moved.mono (fun i hi => List.mem_append_right _ hi) (k4 k c (by simpa using hk) hc)
      · cases k with
        | zero =>
          cases m with
          | zero => rfl
          | succ m => exact absurd (k4 m c (by simpa using hm) h2) (hdis c h1)
        | succ k =>
          cases m with
          | zero => exact absurd (k4 k c (by simpa using hk) h1) (hdis c h2)
          | succ m => exact congrArg (· + 1) (k5 k m c (by simpa using hk) (by simpa using hm) h1 h2)
      · cases k with
        | zero => exact hO
        | succ k => exact k6 k (by simpa using h1) (by simpa using h2)
    · simp [Rd.eval] at hb

theorem buildSliceT_gives (h : SimB E N env mem a w β) (hty : CtxTy P C) {T id ep len : Nat} {t : Ty} (hT : C.ty T = some (.slice t)) {parts : Array (Nat × Operand)} {xs : List t.den} {vs : List Value}
    (h1 : (parts.toList.map fun p => (p.1, a.eval p.2)) = (vs.zipIdx 0).map (fun x => (x.2, x.1))) (h2 : vs.length = xs.length)
    {ids : List Nat} {ks : List (Nat × Blk)} {T' : Nat → Nat → Prop} (hT1 : ∀ k c, k < xs.length → T' k c → Moved β ids c) (hT2 : ∀ j k c, j < xs.length → k < xs.length → T' j c → T' k c → j = k)
    (hnd : nodupN ids = true) (hks : (killed ids).eval mem = some ks) (hid : id ∉ ids)
    (h4 : ∀ k (h1 : k < xs.length) (h2 : k < vs.length), RepVO w t xs[k] vs[k] (T' k))
    (hln : len = vs.length) (hle : len ≤ 1000) (hep : (freshEp id).eval mem = some ep) :
    Gives P E N env (updm mem (ks ++ [(id, .tree ep t xs)])) a (Instr.buildSlice T len (parts.map fun p => (p.1, a.eval p.2))) w (.tr id ep) := by
  obtain ⟨e, hu, he⟩ := (hty T _ hT).und; have hte := hty e t he; obtain ⟨i, z, hi, hisz, hi4, _, hz, hzr⟩ := hte.info; have hpos := t.size_pos
  have hvs : ∀ v ∈ vs, v.cells.size = t.size := by
    intro v hv; obtain ⟨k, hk, rfl⟩ := List.mem_iff_getElem.1 hv; exact (h4 k (by omega) hk).cells.2
  have hzv : ∀ w, (zeroValue e).run P w = .ok z w := fun w => by simp [zeroValue, typeInfo, hi, hz]
  have hsmall : ¬ (len * t.size > 2 ^ 24) := by
    have : len * t.size ≤ 1000 * 4096 := Nat.mul_le_mul hle (by omega); omega
  have hfill : ∀ zs : Array Value, Instr.fill (fun i => some (i * t.size, t.size)) ((Array.range (len * t.size)).map (zs[· % zs.size]!)) (parts.map fun p => (p.1, a.eval p.2)).toList = some (vs.flatMap fun v => v.cells.toList).toArray := by
    intro zs; rw [Array.toList_map, h1]; exact Great.fill_whole hpos vs _ hvs (by simp [hln])
  have hrun : (Instr.buildSlice T len (parts.map fun p => (p.1, a.eval p.2))).run P w = .ok (.slice (some ⟨w.heap.size, 0, none⟩) len len) (w.alloc (.cells (vs.flatMap fun v => v.cells.toList).toArray e)) := by
    simp only [Instr.buildSlice, Sem.run_bind, run_underlying hu, Result.andThen_ok, hte.size, hsmall, if_false, Sem.run_pure]; by_cases h0 : len * t.size = 0
    · simp only [h0, if_true, Sem.run_pure, Result.andThen_ok]; have := hfill #[]
      rw [h0] at this
      simp only [this, Sem.run_bind, run_newRow, Result.andThen_ok, Sem.run_pure]
    · simp only [h0, if_false, Sem.run_bind, hzv, Result.andThen_ok, Sem.run_pure]; simp only [hfill, Sem.run_bind, run_newRow, Result.andThen_ok, Sem.run_pure]
  have hflen : (vs.flatMap fun v => v.cells.toList).length = len * t.size := by
    rw [List.length_flatMap, hln]; clear h1 h4 hfill hrun hsmall h2 hln
    induction vs with
    | nil => simp
    | cons v vs ih =>
      simp only [List.map_cons, List.sum_cons, List.length_cons]; rw [ih (fun u hu => hvs u (by simp [hu])), Array.length_toList, hvs v (by simp), Nat.add_mul]; omega
  generalize hrow : (vs.flatMap fun v => v.cells.toList) = row at hrun hflen; have hsz1 : (w.alloc (.cells row.toArray e)).heap.size = w.heap.size + 1 := by show (w.heap.push _).size = _; simp
  have hget : ∀ b, b < w.heap.size → (w.alloc (.cells row.toArray e)).heap[b]? = w.heap[b]? := fun b hb => by
    show (w.heap.push _)[b]? = _; rw [Array.getElem?_push, if_neg (by omega)]
  have hnew : (w.alloc (.cells row.toArray e)).heap[w.heap.size]? = some (.cells row.toArray e (0, 0)) := by show (w.heap.push _)[w.heap.size]? = _; simp
  have ht := h.take (w' := w.alloc (.cells row.toArray e)) (ids := ids) (id := id) (k := .tree ep t xs) (bc := some (w.heap.size, len)) hnd hks hid rfl
    (fun k0 hk0 => .inl ((freshEp_some hep).2 k0 hk0)) rfl rfl ⟨rfl, Nat.le_refl _⟩ (by rw [hsz1]; omega) (fun b C e => by
      simp only [Option.some.injEq, Prod.mk.injEq] at e; obtain ⟨rfl, rfl⟩ := e
      exact ⟨by rw [hsz1]; omega, .inl (Nat.le_refl _)⟩) (fun b hb _ => hget b hb)
    (fun hO => ⟨by omega, .inr ⟨w.heap.size, len, _, e, fun k => (vs.getD k undef).cells.toList, T', Bind.take_same _ _ _ _, hnew, by simpa using hflen, by omega,
      fun k c hk hc => Bind.take_own (hT1 k c hk hc), hT2, fun k hk => by
      (have hkv : k < vs.length := by omega); have hr := (h4 k hk hkv).cells.1; (have e1 : vs.getD k undef = vs[k] := by simp [hkv]); dsimp only; rw [e1]; refine ⟨by rw [Array.length_toList]; exact hvs _ (List.getElem_mem hkv), fun j v hj => ?_, hr.mono fun c hc => ⟨hc, hO c (.inl (hT1 k c hk hc))⟩⟩
      have hjs : j < t.size := by
        have := (List.getElem?_eq_some_iff.1 hj).1
        rw [Array.length_toList, hvs _ (List.getElem_mem hkv)] at this
        exact this
      have := Great.flat_get hpos vs hvs (k * t.size + j)
      rw [Nat.mul_comm k, Nat.mul_add_div hpos, Nat.div_eq_of_lt hjs, Nat.mul_add_mod, Nat.mod_eq_of_lt hjs, Nat.add_zero, List.getElem?_eq_getElem hkv] at this
      rw [Nat.mul_comm k, ← hrow]
      simpa [this] using hj⟩⟩)
  (have hmemw : updm mem (ks ++ [(id, .tree ep t xs)]) = setm (updm mem ks) id (.tree ep t xs) := by rw [updm_append, updm_one]); refine ⟨_, _, _, hrun, by rw [hmemw]; exact ht.1, ?_⟩; rw [hmemw]; refine tr_rep rfl ?_; rw [Bind.take_same, ← h2, ← hln]; exact ⟨⟨w.heap.size, 0, none⟩, rfl, by omega, fun _ => by simp⟩

theorem makeSliceT_gives (h : SimB E N env mem a w β) (hty : CtxTy P C) {T id ep : Nat} {t : Ty} (hT : C.ty T = some (.slice t)) {k1 k2 : IntKind} {n m : Int} (hnm : 0 ≤ n ∧ n ≤ m ∧ m ≤ 4294967296)
    (hep : (freshEp id).eval mem = some ep) :
    Gives P E N env (updm mem [(id, .tree ep t (List.replicate n.toNat t.zero))]) a (Instr.makeSlice T (.int k1 n) (.int k2 m)) w (.tr id ep) := by
  obtain ⟨e, hu, he⟩ := (hty T _ hT).und; have hte := hty e t he; obtain ⟨i, z, hi, hisz, hi4, hby, hz, hzr⟩ := hte.info
  have hrun := run_make (P := P) w T e i z hu hi hz k1 k2 n m hnm.1 hnm.2.1 (by
    have : (i.bytes : Int) * m ≤ 4096 * 4294967296 := Int.mul_le_mul (by omega) hnm.2.2 (by omega) (by omega)
    rw [Int.mul_comm] at this
    first | omega | (rw [Int.mul_comm]; omega)) (by omega)
  have hzc := (hzr (allow E w β) w).cells; rw [hisz] at hrun; have hzk := hte.zc i z hi hz
  have hs := h.alloc (k := .tree ep t (List.replicate n.toNat t.zero)) (madeCells z.cells (m.toNat * t.size)) e m.toNat (freshEp_some hep) (fun w' β' mem' hA hm hb hh =>
    ⟨by simp; omega, .inr ⟨w.heap.size, m.toNat, _, e, fun _ => z.cells.toList, fun _ _ => False, hb, hh, by simp [madeCells], by simp; omega, by simp, by simp, fun k hk => by
      have hk' : k < n.toNat := by simpa using hk
      refine ⟨by rw [Array.length_toList]; exact hzc.2, fun j v hj => ?_, by
        have h1 := (hzr (allow E w' β') w').cells.1; rw [hzk] at h1 ⊢
        simpa using zero_repO fuel h1⟩
      have hjs : j < t.size := by
        have := (List.getElem?_eq_some_iff.1 hj).1
        rwa [Array.length_toList, hzc.2] at this
      have hlt : k * t.size + j < m.toNat * t.size := by
        have : (k + 1) * t.size ≤ m.toNat * t.size := Nat.mul_le_mul_right _ (by omega); rw [Nat.add_mul] at this; omega
      (have hj2 : j < z.cells.size := by rw [hzc.2]; exact hjs); (have : (k * t.size + j) % z.cells.size = j := by rw [hzc.2, Nat.mul_comm, Nat.mul_add_mod, Nat.mod_eq_of_lt hjs]); simp only [madeCells, Array.getElem?_map, Array.getElem?_range, hlt, if_true, Option.map_some, this]; simp at hj; simp [hj2] at hj ⊢
      exact hj⟩⟩)
  refine ⟨_, _, _, hrun, hs, ?_⟩; rw [updm_one]; refine tr_rep rfl ?_; rw [Bind.set_same]; exact ⟨⟨w.heap.size, 0, none⟩, by simp, by simp; omega, fun _ => by simp⟩

theorem appendZ_gives (h : SimB E N env mem a w β) (hty : CtxTy P C) {T T' ty d : Nat} {t : Ty} (hT : C.ty T = some (.slice t)) {sv sy : SV} {v x : Value} {r : Res}
    (hv : RepSV (allow E w β) w β mem sv v) (hx : RepSV (allow E w β) w β mem sy x) (hs : (appendZ C d t T' sv sy).eval mem = some r) (hob : ∀ p ∈ r.ob, p) :
    Gives P E N env (updm mem r.memw) a (Builtin.append_ #[T, T'] ty #[v, x]) w r.val := by
  unfold appendZ at hs; split at hs
  case h_2 => simp [Rd.eval] at hs
  rename_i n; split at hs
  case isFalse => simp [Rd.eval] at hs
  rename_i hT'; obtain ⟨hT', hts⟩ := hT'; obtain ⟨ep, hep, hs⟩ := Rd.bind_some hs; simp only [Rd.eval, Option.some.injEq] at hs; subst hs; have hn : 0 < n ∧ n ≤ 4294967296 := hob _ (List.mem_singleton.2 rfl); obtain ⟨m, rfl⟩ : ∃ m : Nat, n = (m : Int) := ⟨n.toNat, by omega⟩; simp only [Int.toNat_natCast]; cases hv; cases hx; obtain ⟨e, hu, he⟩ := (hty T _ hT).und; have hu' : P.underlying T' = some (.int .i64) := (hty T' _ hT').und; have hte := hty e t he; obtain ⟨i, z, hi, hisz, hi4, hby, hz, hzr⟩ := hte.info; have hzc := (hzr (allow E w β) w).cells; have hm48 : m * i.bytes ≤ 4294967296 * 4096 := Nat.mul_le_mul (by omega) hby
  have hrun := Lib.run_append_grow_zeros (P := P) w T T' ty e i z .i64 .i64 hu hu' hi hz none 0 0 [] (by simp [Builtin.firstCells]) m (by omega) (by omega) (by omega) (by omega) (by omega)
    (growslice_fits (by omega) (by simpa using Nat.le_trans hm48 (by decide)))
  rw [Nat.zero_add] at hrun; generalize hcapn : grownCap w m 0 e = capn at hrun; (have hcapn' : m ≤ capn := by rw [← hcapn]; exact grownCap_le w e (by omega)); generalize hrow : ([] : List Value).toArray ++ Builtin.zeroCells z.cells m ++ Builtin.zeroCells z.cells (capn - m) = row at hrun
  have hrl : row.size = capn * t.size := by
    rw [← hrow]; simp only [Array.size_append, size_zeroCells, hzc.2]; simp only [List.size_toArray, List.length_nil, Nat.zero_add]; rw [← Nat.add_mul]; congr 1; omega
  have hsim := h.drew.alloc (k := .arr ep t (List.replicate m t.zero)) row e capn (freshEp_some hep) (fun w' β' mem' hA hm hb hh =>
    ⟨by simp; omega, .inr ⟨w.heap.size, capn, row, e, fun _ => z.cells.toList, hb, hh, hrl, by simpa using hcapn', fun k hk => by
      (have hk' : k < m := by simpa using hk); refine ⟨by rw [Array.length_toList]; exact hzc.2, fun j v hj => ?_, by simpa using (hzr (allow E w' β') w').cells.1⟩
      have hjs : j < t.size := by
        have := (List.getElem?_eq_some_iff.1 hj).1
        rwa [Array.length_toList, hzc.2] at this
      have hlt : k * t.size + j < m * t.size := by
        have : (k + 1) * t.size ≤ m * t.size := Nat.mul_le_mul_right _ (by omega); rw [Nat.add_mul] at this; omega
      (have hj2 : j < z.cells.size := by rw [hzc.2]; exact hjs); have e1 : (k * t.size + j) % t.size = j := by rw [Nat.mul_comm, Nat.mul_add_mod, Nat.mod_eq_of_lt hjs]
      have e2 : row[k * t.size + j]? = (Builtin.zeroCells z.cells m)[k * t.size + j]? := by
        rw [← hrow, Array.getElem?_append, if_pos (by simp only [Array.size_append, size_zeroCells, hzc.2]; simpa using hlt)]; simp
      rw [e2]; simp only [Builtin.zeroCells, Array.getElem?_map, Array.getElem?_range, hzc.2, hlt, if_true, Option.map_some]; rw [e1]; simp at hj; simp [hj2] at hj ⊢
      exact hj⟩⟩)
  refine ⟨_, _, _, hrun, hsim, ?_⟩; rw [updm_one]; refine .arr _ ep _ ⟨_, setm_same _ _ _, Nat.le_refl _⟩ rfl fun u zs hm => ?_; rw [setm_same] at hm; simp only [Option.some.injEq, Blk.arr.injEq, true_and] at hm; obtain ⟨rfl, hm⟩ := hm; obtain rfl := eq_of_heq hm; rw [Bind.set_same]; exact ⟨⟨w.heap.size, 0, none⟩, by simp, by simp; omega, fun _ => by simp⟩


omit U in
theorem run_copy_in {P : Program} {w : World} {T T' ty e : TypeId} {size : Nat} (ht : P.underlying T = some (.slice e)) (hsz : (sizeOf e).run P w = .ok size w)
    {g dLen dCap el n : Nat} {cur : Array Value} (hg : w.heap[g]? = some (.cells cur el (0, 0))) {x : Value} {news : List Value}
    (hlen : (Builtin.lenOf x).run P w = .ok n w) (hn : n ≤ dLen) (hf : (Builtin.firstCells size n x).run P w = .ok news.toArray w) (h1 : ∀ u ∈ news, u.oneCell' = true)
    (hfit : news.length ≤ cur.size) :
    (Builtin.copy_ #[T, T'] ty #[.slice (some ⟨g, 0, none⟩) dLen dCap, x]).run P w =
      .ok (goInt n) (w.setRow g (cur.toList.take 0 ++ news ++ cur.toList.drop (0 + news.length)).toArray) := by
  have hst := run_storeCells_at P g 0 el news 0 cur w hg (by simpa using hfit) h1; have hm : Nat.min n dLen = n := Nat.min_eq_left hn; simp only [Nat.add_zero] at hst; simp [Builtin.copy_, run_underlying ht, hsz, hlen, hm, hf, hst]

omit U in
theorem run_copy_in_nil {P : Program} {w : World} {T T' ty e : TypeId} {size : Nat} (ht : P.underlying T = some (.slice e)) (hsz : (sizeOf e).run P w = .ok size w) {x : Value} {news : Array Value}
    (hlen : (Builtin.lenOf x).run P w = .ok 0 w) (hf : (Builtin.firstCells size 0 x).run P w = .ok news w) :
    (Builtin.copy_ #[T, T'] ty #[.slice none 0 0, x]).run P w = .ok (goInt (0 : Nat)) w := by
  simp [Builtin.copy_, run_underlying ht, hsz, hlen, hf]

theorem copy_gives (h : SimB E N env mem a w β) {T T' ty : Nat} {t : Ty} (hty : CtxTy P C) (hT : C.ty T = some (.slice t)) {sv sy : SV} {v x : Value} {ys : List t.den} {r : Res}
    (hv : RepSV (allow E w β) w β mem sv v) (hx : RepSV (allow E w β) w β mem sy x) (hl : (listOf t sy).eval mem = some ys) (hs : (copySV t sv ys).eval mem = some r) (hob : ∀ p ∈ r.ob, p) :
    Gives P E N env (updm mem r.memw) a (Builtin.copy_ #[T, T'] ty #[v, x]) w r.val := by
  obtain ⟨dss, hsrc⟩ := listOf_src (P := P) h hx hl; obtain ⟨e, hu, he⟩ := (hty T _ hT).und; have hte := hty e t he; have hszr := hte.size w
  have i64m : ∀ n : Nat, (n : Int) ≤ 4294967296 → IntKind.i64.min ≤ (n : Int) ∧ (n : Int) ≤ IntKind.i64.max := fun n hn => by
    (have e1 : IntKind.i64.min = -9223372036854775808 := by decide); (have e2 : IntKind.i64.max = 9223372036854775807 := by decide); omega
  cases hv with
  | arr id ep v hm h1 hv =>
    simp only [copySV] at hs; replace hs := Rd.mem_some hs
    cases hmi : mem id with
    | none => rw [hmi] at hs; simp [Rd.eval] at hs
    | some k =>
      rw [hmi] at hs
      cases k with
      | box => simp [Rd.eval] at hs
      | tree => simp [Rd.eval] at hs
      | dead => simp [Rd.eval] at hs
      | arr ep' u xs =>
        simp only at hs; split at hs
        · rename_i e1; subst e1; split at hs
          · rename_i zs hz; obtain ⟨e2, rfl⟩ := TV.to_some hz; (obtain rfl : u = t := by injection e2); simp only [Rd.eval, Option.some.injEq] at hs; subst hs; have hlen : xs.length = ys.length := hob _ (List.mem_singleton.2 rfl); have hv := hv _ _ hmi; obtain ⟨hlim, ⟨hb, rfl⟩ | ⟨b, D, cs, el, css, hb, hh, hsz, hD, hel⟩⟩ := h.blk id _ hmi
            · rw [hb] at hv; obtain ⟨_, _, rfl⟩ := hv; have hy : ys = [] := List.length_eq_zero_iff.1 hlen.symm; subst hy; have hrun := run_copy_in_nil (T' := T') (ty := ty) hu hszr (x := x) (by rw [hsrc.len w]; rfl) (hsrc.cells w rfl)
              have e2 : setm mem id (.arr ep' u ([] : List u.den)) = mem := by
                funext j; by_cases hj : j = id
                · subst hj; rw [setm_same, hmi]
                · rw [setm_ne _ _ hj]
              refine ⟨_, _, β, hrun, by rw [updm_one, e2]; exact h, ?_⟩; have := i64m ([] : List u.den).length (by simp); exact .int _ _ this.1 this.2
            · rw [hb] at hv; obtain ⟨p, rfl, hle2, hp⟩ := hv; obtain rfl := hp (.inl rfl); simp only [Nat.sub_zero, Nat.zero_mul, Nat.zero_add] at *; have hnl : (cat dss ys.length).length = ys.length * u.size := cat_length hsrc.cl
              have hfit : (cat dss ys.length).length ≤ cs.size := by
                rw [hnl, hsz]; exact Nat.mul_le_mul_right _ (by omega)
              have hrun := run_copy_in (T' := T') (ty := ty) (dCap := D) hu hszr hh (hsrc.len w) (Nat.le_of_eq hlen.symm) (hsrc.cells w rfl) (cat_one hsrc) hfit
              have hs := h.write (w' := w.setRow b (cs.toList.take 0 ++ cat dss ys.length ++ cs.toList.drop (0 + (cat dss ys.length).length)).toArray)
                (id := id) (k := .arr ep' u ys) hmi hb (Nat.le_refl _) (fun _ => ⟨rfl, hlen⟩) rfl rfl rfl ⟨rfl, Nat.le_refl _⟩ (by simp) (fun c hc => setRow_other _ _ _ _ hc)
                ⟨by rw [← hlen]; exact hlim, .inr ⟨b, D, _, el, dss, hb, setRow_heap _ _ _ _ _ _ hh, by
                  simp only [List.size_toArray, List.length_append, List.length_take, List.length_drop, Array.length_toList]
                  omega, by omega, by
                  have hA : ∀ c, allow E w β c → allow E (w.setRow b (cs.toList.take 0 ++ cat dss ys.length ++ cs.toList.drop (0 + (cat dss ys.length).length)).toArray) β c ∧
                      (w.setRow b (cs.toList.take 0 ++ cat dss ys.length ++ cs.toList.drop (0 + (cat dss ys.length).length)).toArray).heap[c]? = w.heap[c]? := by
                    rintro c ⟨c1, c2, c3⟩; exact ⟨⟨by simpa using c1, c2, c3⟩, setRow_other _ _ _ _ (by rintro rfl; exact c3.1 id D hb)⟩
                  intro k hk; refine ⟨hsrc.cl k hk, fun j v hj => ?_, (hsrc.rep k hk).mono hA⟩; have hjl : j < u.size := by rw [← hsrc.cl k hk]; exact (List.getElem?_eq_some_iff.1 hj).1
                  have hlt : k * u.size + j < (cat dss ys.length).length := by
                    rw [hnl]; have : (k + 1) * u.size ≤ ys.length * u.size := Nat.mul_le_mul_right _ (by omega); rw [Nat.add_mul] at this; omega
                  simp only [List.take_zero, List.nil_append, List.getElem?_toArray]; rw [List.getElem?_append_left hlt, cat_get hsrc.cl hk hjl]
                  exact hj⟩⟩
              refine ⟨_, _, β, hrun, by rw [updm_one]; exact hs, ?_⟩; have := i64m ys.length (by rw [← hlen]; exact hlim); exact .int _ _ this.1 this.2
          · simp [Rd.eval] at hs
        · simp [Rd.eval] at hs
  | _ => simp [copySV, Rd.eval] at hs

end
end Go.Am
