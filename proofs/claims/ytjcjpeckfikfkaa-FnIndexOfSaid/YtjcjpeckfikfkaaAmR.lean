/-
  Am, part R: an operation in its region.
-/
import Derived.Test.YtjcjpeckfikfkaaAmP
set_option linter.all false
namespace Go.Am
variable [U : Univ]

theorem RepV.conv {A A' : Nat → Prop} {w w' : World} {t : Ty} {x : t.den} {v : Value} (hc : ∀ cs, RepC A w t x cs → RepC A' w' t x cs) (h : RepV A w t x v) : RepV A' w' t x v := by
  cases h with
  | agg n x cs h => exact .agg n x cs (hc cs h)
  | one t x v ht h => exact .one t x v ht (hc _ h)

def RK.ty : RK → Ty
  | .val t | .own t => t
  | .ptr n => .named n
  | .clo _ t => .slice t

theorem RK.flat_ty {r : RK} (h : r.flat = true) : r.ty.flatN fuel = true := by cases r <;> exact h

theorem updm_find : ∀ (l : List (Nat × Blk)) (mem : Nat → Option Blk) (i : Nat), (l.map (·.1)).Nodup → updm mem l i = match findPart i l with
    | some k => some k
    | none => mem i := by
  intro l
  induction l with
  | nil => intro mem i _; rfl
  | cons x l ih =>
    obtain ⟨j, k⟩ := x
    intro mem i hnd
    simp only [List.map_cons, List.nodup_cons] at hnd
    rw [updm_cons, ih _ _ hnd.2]
    simp only [findPart]
    by_cases hji : j = i
    · subst hji
      have : findPart j l = none := by
        have : ∀ l : List (Nat × Blk), j ∉ l.map (·.1) → findPart j l = none := by
          intro l
          induction l with
          | nil => intro _; rfl
          | cons y l ih =>
            intro hn
            simp only [List.map_cons, List.mem_cons, not_or] at hn
            simp only [findPart]
            rw [if_neg (Ne.symm hn.1)]
            exact ih hn.2
        exact this l hnd.1
      rw [this, if_pos rfl]
      exact setm_same _ _ _
    · rw [if_neg hji]
      cases findPart i l with
      | some k => rfl
      | none => exact setm_ne _ _ (Ne.symm hji)

omit U in
theorem findPart_get {α : Type} : ∀ {l : List (Nat × α)} {j i : Nat} {k : α}, (l.map (·.1)).Nodup → l[j]? = some (i, k) → findPart i l = some k := by
  intro l
  induction l with
  | nil => intro j i k _ h; simp at h
  | cons x l ih =>
    intro j i k hnd h
    simp only [List.map_cons, List.nodup_cons] at hnd
    cases j with
    | zero =>
      simp only [List.getElem?_cons_zero, Option.some.injEq] at h
      subst h
      simp [findPart]
    | succ j =>
      simp only [List.getElem?_cons_succ] at h
      simp only [findPart]
      rw [if_neg]
      · exact ih hnd.2 h
      · intro e
        exact hnd.1 (by rw [e]; exact List.mem_map.2 ⟨(i, k), List.mem_of_getElem? h, rfl⟩)

omit U in
theorem findPart_some {α : Type} : ∀ {l : List (Nat × α)} {i : Nat} {k : α}, findPart i l = some k → ∃ j : Nat, l[j]? = some (i, k) := by
  intro l
  induction l with
  | nil => intro i k h; simp [findPart] at h
  | cons x l ih =>
    intro i k h
    simp only [findPart] at h
    split at h
    · rename_i e
      refine ⟨0, ?_⟩
      obtain rfl := Option.some.inj h
      rw [← e]; rfl
    · obtain ⟨j, hj⟩ := ih h
      exact ⟨j + 1, by simpa using hj⟩

omit U in
theorem findPart_none {α : Type} : ∀ {l : List (Nat × α)} {i : Nat}, findPart i l = none → ∀ k, (i, k) ∉ l := by
  intro l
  induction l with
  | nil => intro i _ k h; cases h
  | cons x l ih =>
    intro i h k hm
    simp only [findPart] at h
    split at h
    · simp at h
    · rename_i e
      rcases List.mem_cons.1 hm with hm | hm
      · exact e (by rw [← hm])
      · exact ih h k hm

section
variable {E : Ent} {N : Nat} {env : Nat → SV} {mem : Nat → Option Blk} {a : Act} {w : World} {β : Nat → Option (Nat × Nat)} {P : Program} {C : Ctx}

theorem ress_sound {A' : Nat → Prop} {w' : World} : ∀ {rs : List RK} {id : Nat} {tvs : List TV} {svs : List SV} {ms : List (Nat × Blk)} {rvs : List Value} {nb : List Nat},
    (ressOf id rs tvs).eval mem = some (svs, ms) → RepRess A' w' rs tvs rvs nb →
    ∃ bcs : List (Option (Nat × Nat)), bcs.length = ms.length ∧ nb = bcs.filterMap (fun x => x.map (·.1)) ∧ (ms.map (·.1)).Pairwise (· < ·) ∧
      (∀ i k, (i, k) ∈ ms → id ≤ i ∧ k.ep ≠ 0 ∧ ∀ k0, mem i = some k0 → k0.ep < k.ep) ∧
      ∀ (Q : Nat → Prop) (β' : Nat → Option (Nat × Nat)) (mem' : Nat → Option Blk), (∀ r ∈ rs, ∀ (x : r.ty.den) (cs : List Value), RepC A' w' r.ty x cs → RepC Q w' r.ty x cs) →
        (∀ (j i : Nat) (k : Blk) (bc : Option (Nat × Nat)), ms[j]? = some (i, k) → bcs[j]? = some bc → mem' i = some k ∧ β' i = bc) →
        svs.length = rvs.length ∧ (∀ (i : Nat) (sv : SV) (v : Value), svs[i]? = some sv → rvs[i]? = some v → RepSV Q w' β' mem' sv v) ∧
          ∀ (j i : Nat) (k : Blk), ms[j]? = some (i, k) → RepBlk Q w' β' mem' i k := by
  intro rs
  induction rs with
  | nil =>
    intro id tvs svs ms rvs nb hs hr
    cases hr
    simp only [ressOf, Rd.eval, Option.some.injEq, Prod.mk.injEq] at hs
    obtain ⟨rfl, rfl⟩ := hs
    exact ⟨[], rfl, rfl, .nil, by simp, fun Q β' mem' _ _ => ⟨rfl, by simp, by simp⟩⟩
  | cons r rs ih =>
    intro id tvs svs ms rvs nb hs hr
    cases tvs with
    | nil => simp [ressOf, Rd.eval] at hs
    | cons tv tvs =>
      simp only [ressOf] at hs
      obtain ⟨⟨sv, m1⟩, h1, hs⟩ := Rd.bind_some hs
      obtain ⟨⟨svs', m2⟩, h2, hs⟩ := Rd.bind_some hs
      simp only [Rd.eval, Option.some.injEq, Prod.mk.injEq] at hs
      obtain ⟨rfl, rfl⟩ := hs
      -- one owned result and the rest
      have more : ∀ {bc : Option (Nat × Nat)} {k : Blk} {rvs : List Value} {nb : List Nat} {v : Value}, m1 = [(id, k)] → RepRess A' w' rs tvs rvs nb → (k.ep ≠ 0 ∧ ∀ k0, mem id = some k0 → k0.ep < k.ep) →
          (∀ (Q : Nat → Prop) (β' : Nat → Option (Nat × Nat)) (mem' : Nat → Option Blk), (∀ (x : r.ty.den) (cs : List Value), RepC A' w' r.ty x cs → RepC Q w' r.ty x cs) → mem' id = some k → β' id = bc →
            RepSV Q w' β' mem' sv v ∧ RepBlk Q w' β' mem' id k) →
          ∃ bcs : List (Option (Nat × Nat)), bcs.length = (m1 ++ m2).length ∧ (match bc with | some x => x.1 :: nb | none => nb) = bcs.filterMap (fun x => x.map (·.1)) ∧ ((m1 ++ m2).map (·.1)).Pairwise (· < ·) ∧
            (∀ i k, (i, k) ∈ m1 ++ m2 → id ≤ i ∧ k.ep ≠ 0 ∧ ∀ k0, mem i = some k0 → k0.ep < k.ep) ∧
            ∀ (Q : Nat → Prop) (β' : Nat → Option (Nat × Nat)) (mem' : Nat → Option Blk), (∀ r' ∈ r :: rs, ∀ (x : r'.ty.den) (cs : List Value), RepC A' w' r'.ty x cs → RepC Q w' r'.ty x cs) →
              (∀ (j i : Nat) (k : Blk) (bc : Option (Nat × Nat)), (m1 ++ m2)[j]? = some (i, k) → bcs[j]? = some bc → mem' i = some k ∧ β' i = bc) →
              (sv :: svs').length = (v :: rvs).length ∧ (∀ (i : Nat) (sv' : SV) (v' : Value), (sv :: svs')[i]? = some sv' → (v :: rvs)[i]? = some v' → RepSV Q w' β' mem' sv' v') ∧
                ∀ (j i : Nat) (k : Blk), (m1 ++ m2)[j]? = some (i, k) → RepBlk Q w' β' mem' i k := by
        rintro bc k rvs nb v rfl hrest hep hone
        obtain ⟨bcs, g1, g2, g3, g4, g5⟩ := ih h2 hrest
        refine ⟨bc :: bcs, by simp [g1], ?_, ?_, ?_, ?_⟩
        · cases bc with
          | none => simpa using g2
          | some x => simpa using g2
        · simp only [List.cons_append, List.nil_append, List.map_cons, List.pairwise_cons]
          refine ⟨fun i hi => ?_, g3⟩
          obtain ⟨⟨i', k'⟩, hm, rfl⟩ := List.mem_map.1 hi
          have := (g4 i' k' hm).1
          simp only
          omega
        · intro i k' hm
          rcases List.mem_cons.1 hm with hm | hm
          · simp only [Prod.mk.injEq] at hm
            obtain ⟨rfl, rfl⟩ := hm
            exact ⟨Nat.le_refl _, hep.1, hep.2⟩
          · obtain ⟨e1, e2, e3⟩ := g4 i k' hm
            exact ⟨by omega, e2, e3⟩
        · intro Q β' mem' hc hlook
          obtain ⟨l1, l2⟩ := hlook 0 id k bc rfl rfl
          obtain ⟨o1, o2⟩ := hone Q β' mem' (hc r (by simp)) l1 l2
          obtain ⟨q1, q2, q3⟩ := g5 Q β' mem' (fun r' hr' => hc r' (by simp [hr'])) (fun j i k' bc' hj hb => hlook (j + 1) i k' bc' (by simpa using hj) (by simpa using hb))
          refine ⟨by simp [q1], fun i sv' v' hi hj => ?_, fun j i k' hj => ?_⟩
          · cases i with
            | zero =>
              simp only [List.getElem?_cons_zero, Option.some.injEq] at hi hj
              subst hi hj
              exact o1
            | succ i => exact q2 i sv' v' (by simpa using hi) (by simpa using hj)
          · cases j with
            | zero =>
              simp only [List.cons_append, List.nil_append, List.getElem?_cons_zero, Option.some.injEq, Prod.mk.injEq] at hj
              obtain ⟨rfl, rfl⟩ := hj
              exact o2
            | succ j => exact q3 j i k' (by simpa using hj)
      cases hr with
      | val t x v rs tvs vs nb h k =>
        simp only [resOf] at h1
        simp only [↓reduceIte] at h1
        simp only [Rd.eval, Option.some.injEq, Prod.mk.injEq] at h1
        obtain ⟨rfl, rfl⟩ := h1
        obtain ⟨bcs, g1, g2, g3, g4, g5⟩ := ih h2 k
        refine ⟨bcs, by simpa using g1, g2, by simpa using g3, ?_, ?_⟩
        · intro i k' hm
          obtain ⟨e1, e2, e3⟩ := g4 i k' (by simpa using hm)
          exact ⟨by omega, e2, e3⟩
        · intro Q β' mem' hc hlook
          obtain ⟨q1, q2, q3⟩ := g5 Q β' mem' (fun r' hr' => hc r' (by simp [hr'])) (fun j i k' bc' hj hb => hlook j i k' bc' (by simpa using hj) hb)
          refine ⟨by simp [q1], fun i sv' v' hi hj => ?_, fun j i k' hj => q3 j i k' (by simpa using hj)⟩
          cases i with
          | zero =>
            simp only [List.getElem?_cons_zero, Option.some.injEq] at hi hj
            subst hi hj
            exact RepSV.ofTV (h.conv fun cs hcs => hc (.val t) (by simp) x cs hcs)
          | succ i => exact q2 i sv' v' (by simpa using hi) (by simpa using hj)
      | clo f t x b off rs tvs vs nb h k =>
        simp only [resOf] at h1
        simp only [↓reduceIte] at h1
        simp only [Rd.eval, Option.some.injEq, Prod.mk.injEq] at h1
        obtain ⟨rfl, rfl⟩ := h1
        obtain ⟨bcs, g1, g2, g3, g4, g5⟩ := ih h2 k
        refine ⟨bcs, by simpa using g1, g2, by simpa using g3, ?_, ?_⟩
        · intro i k' hm
          obtain ⟨e1, e2, e3⟩ := g4 i k' (by simpa using hm)
          exact ⟨by omega, e2, e3⟩
        · intro Q β' mem' hc hlook
          obtain ⟨q1, q2, q3⟩ := g5 Q β' mem' (fun r' hr' => hc r' (by simp [hr'])) (fun j i k' bc' hj hb => hlook j i k' bc' (by simpa using hj) hb)
          refine ⟨by simp [q1], fun i sv' v' hi hj => ?_, fun j i k' hj => q3 j i k' (by simpa using hj)⟩
          cases i with
          | zero =>
            simp only [List.getElem?_cons_zero, Option.some.injEq] at hi hj
            subst hi hj
            have h' : RepC Q w' (.slice t) ([x] : List t.den) [.slice (some ⟨b, off, none⟩) 1 1] := hc (.clo f t) (by simp) ([x] : List t.den) _ h
            generalize hxs : ([x] : List t.den) = xs at h'
            generalize hcs : [Value.slice (some ⟨b, off, none⟩) 1 1] = cs at h'
            cases h' with
            | nil => cases hxs
            | slice _ _ ad cap css hl hcap hA hs hlen hcc hrr =>
              subst hxs
              simp only [List.cons.injEq, Value.slice.injEq, Option.some.injEq, and_true] at hcs
              obtain ⟨rfl, _, _⟩ := hcs
              refine .clo f [.dref t x] [.pointer (some ⟨b, off, none⟩)] rfl ?_
              intro i sv v hi hv
              cases i with
              | succ i => cases hi
              | zero =>
                simp only [List.getElem?_cons_zero, Option.some.injEq] at hi hv
                subst hi hv
                refine .dref t x b off (css 0) (hA (by simp)) (fun j v hj => ?_) (hrr 0 (by simp))
                have := hcc 0 j v (by simp) hj
                simpa using this
          | succ i => exact q2 i sv' v' (by simpa using hi) (by simpa using hj)
      | ownNil t rs tvs vs nb k =>
        simp only [resOf] at h1
        simp only [↓reduceIte] at h1
        obtain ⟨ep, hep, h1⟩ := Rd.bind_some h1
        simp only [Rd.eval, Option.some.injEq, Prod.mk.injEq] at h1
        obtain ⟨rfl, rfl⟩ := h1
        have := more (bc := none) (k := .arr ep t []) (v := .slice none 0 0) rfl k (freshEp_some hep) (fun Q β' mem' hc hm hb => ⟨?_, ?_⟩)
        · exact this
        · refine .arr _ _ _ ⟨_, hm, Nat.le_refl _⟩ rfl fun u zs hz => ?_
          rw [hm] at hz
          simp only [Option.some.injEq, Blk.arr.injEq, true_and] at hz
          obtain ⟨rfl, hz⟩ := hz
          obtain rfl := eq_of_heq hz
          rw [hb]
          exact ⟨rfl, rfl, rfl⟩
        · exact ⟨by simp, .inl ⟨hb, rfl⟩⟩
      | own t xs b D cs el css rs tvs vs nb hl hh hsz hD hel k =>
        simp only [resOf] at h1
        simp only [↓reduceIte] at h1
        obtain ⟨ep, hep, h1⟩ := Rd.bind_some h1
        simp only [Rd.eval, Option.some.injEq, Prod.mk.injEq] at h1
        obtain ⟨rfl, rfl⟩ := h1
        have := more (bc := some (b, D)) (k := .arr ep t xs) (v := .slice (some ⟨b, 0, none⟩) xs.length D) rfl k (freshEp_some hep) (fun Q β' mem' hc hm hb => ⟨?_, ?_⟩)
        · exact this
        · refine .arr _ _ _ ⟨_, hm, Nat.le_refl _⟩ rfl fun u zs hz => ?_
          rw [hm] at hz
          simp only [Option.some.injEq, Blk.arr.injEq, true_and] at hz
          obtain ⟨rfl, hz⟩ := hz
          obtain rfl := eq_of_heq hz
          rw [hb]
          exact ⟨_, rfl, by omega, fun _ => by simp⟩
        · refine ⟨hl, .inr ⟨b, D, cs, el, css, hb, hh, hsz, hD, fun k hk => ?_⟩⟩
          obtain ⟨e1, e2, e3⟩ := hel k hk
          exact ⟨e1, e2, hc _ _ e3⟩
      | ptr n x b cs el rs tvs vs nb hh hrc k =>
        simp only [resOf] at h1
        simp only [↓reduceIte] at h1
        obtain ⟨ep, hep, h1⟩ := Rd.bind_some h1
        simp only [Rd.eval, Option.some.injEq, Prod.mk.injEq] at h1
        obtain ⟨rfl, rfl⟩ := h1
        have := more (bc := some (b, 0)) (k := .box ep (cellsOf fuel ⟨.named n, x⟩)) (v := .pointer (some ⟨b, 0, none⟩)) rfl k (freshEp_some hep) (fun Q β' mem' hc hm hb => ⟨?_, ?_⟩)
        · exact this
        · exact .ref _ _ _ _ ⟨_, hm, Nat.le_refl _⟩ fun cells _ => ⟨0, hb⟩
        · have hrc' : RepC Q w' (.named n) x cs.toList := hc x _ hrc
          obtain ⟨c1, c2⟩ := cellsOf_rep (β := β') (mem := mem') fuel hrc'
          refine ⟨b, 0, cs, el, hb, hh, by rw [c1]; simp, fun j sv hj => ?_⟩
          have hj' : j < cs.toList.length := by rw [← c1]; exact (List.getElem?_eq_some_iff.1 hj).1
          exact ⟨cs.toList[j], by simpa using hj', hrc'.one _ (List.getElem_mem hj'), c2 j sv _ hj (List.getElem?_eq_getElem hj')⟩

theorem boxes_sound {A' : Nat → Prop} {w' : World} : ∀ {ns ids bs : List Nat} {tvs : List TV} {bw : List (Nat × Blk)}, (boxesOf ids tvs).eval mem = some bw → RepBoxes A' w' ns tvs bs →
    bw.map (·.1) = ids ∧ ids.length = bs.length ∧ (∀ id k, (id, k) ∈ bw → ∃ k0, mem id = some k0 ∧ k0.ep = k.ep ∧ k.isBox = true) ∧
      ∀ (Q : Nat → Prop) (β' : Nat → Option (Nat × Nat)) (mem' : Nat → Option Blk), (∀ n ∈ ns, ∀ (x : U.R n) (cs : List Value), RepC A' w' (.named n) x cs → RepC Q w' (.named n) x cs) →
        (∀ i (h : i < ids.length) (h' : i < bs.length), ∃ D, β' ids[i] = some (bs[i], D)) → ∀ id k, (id, k) ∈ bw → RepBlk Q w' β' mem' id k := by
  intro ns ids
  induction ids generalizing ns with
  | nil =>
    intro bs tvs bw hs hr
    cases tvs with
    | nil =>
      simp only [boxesOf, Rd.eval, Option.some.injEq] at hs
      subst hs
      cases hr
      exact ⟨rfl, rfl, by simp, by simp⟩
    | cons => simp [boxesOf, Rd.eval] at hs
  | cons id ids ih =>
    intro bs tvs bw hs hr
    cases tvs with
    | nil => simp [boxesOf, Rd.eval] at hs
    | cons tv tvs =>
      obtain ⟨t, x⟩ := tv
      simp only [boxesOf] at hs
      replace hs := Rd.mem_some hs
      cases hmi : mem id with
      | none => rw [hmi] at hs; simp [Rd.eval] at hs
      | some k =>
        rw [hmi] at hs
        simp only at hs
        obtain ⟨r, hr', hs⟩ := Rd.bind_some hs
        simp only [Rd.eval, Option.some.injEq] at hs
        subst hs
        cases hr with
        | cons n x b cs el ns tvs bs hh hrc hk =>
          obtain ⟨g1, g2, g3, g4⟩ := ih hr' hk
          refine ⟨by simp [g1], by simp [g2], ?_, ?_⟩
          · intro i k' hm
            rcases List.mem_cons.1 hm with hm | hm
            · simp only [Prod.mk.injEq] at hm
              obtain ⟨rfl, rfl⟩ := hm
              exact ⟨k, hmi, rfl, rfl⟩
            · exact g3 i k' hm
          · intro Q β' mem' hc hβ i k' hm
            rcases List.mem_cons.1 hm with hm | hm
            · simp only [Prod.mk.injEq] at hm
              obtain ⟨rfl, rfl⟩ := hm
              obtain ⟨D, hb⟩ := hβ 0 (by simp) (by simp)
              have hrc' := hc n (by simp) x _ hrc
              obtain ⟨c1, c2⟩ := cellsOf_rep (β := β') (mem := mem') fuel hrc'
              refine ⟨b, D, cs, el, hb, hh, by rw [c1]; simp, fun j sv hj => ?_⟩
              have hj' : j < cs.toList.length := by rw [← c1]; exact (List.getElem?_eq_some_iff.1 hj).1
              exact ⟨cs.toList[j], by simpa using hj', hrc'.one _ (List.getElem_mem hj'), c2 j sv _ hj (List.getElem?_eq_getElem hj')⟩
            · exact g4 Q β' mem' (fun n hn => hc n (by simp [hn])) (fun j h1 h2 => by
                have := hβ (j + 1) (by simpa using h1) (by simpa using h2)
                simpa using this) i k' hm

theorem nodupN_nodup : ∀ {l : List Nat}, nodupN l = true → l.Nodup := by
  intro l
  induction l with
  | nil => intro _; exact List.nodup_nil
  | cons x l ih =>
    intro h
    obtain ⟨h1, h2⟩ := nodupN_cons h
    exact List.nodup_cons.2 ⟨h1, ih h2⟩

theorem filterMap_get {l : List (Option (Nat × Nat))} {j : Nat} {b D : Nat} (h : l[j]? = some (some (b, D))) : b ∈ l.filterMap (fun x => x.map (·.1)) := by
  rw [List.mem_filterMap]
  exact ⟨some (b, D), List.mem_of_getElem? h, rfl⟩

theorem filterMap_inj {l : List (Option (Nat × Nat))} (hnd : (l.filterMap (fun x => x.map (·.1))).Nodup) : ∀ {j k b D D' : Nat}, l[j]? = some (some (b, D)) → l[k]? = some (some (b, D')) → j = k := by
  induction l with
  | nil => intro j k b D D' h; simp at h
  | cons x l ih =>
    intro j k b D D' hj hk
    have hnd' : (l.filterMap (fun x => x.map (·.1))).Nodup ∧ ∀ y, x = some y → y.1 ∉ l.filterMap (fun x => x.map (·.1)) := by
      cases x with
      | none => exact ⟨by simpa using hnd, by simp⟩
      | some y =>
        simp only [List.filterMap_cons, Option.map_some, List.nodup_cons] at hnd
        exact ⟨hnd.2, fun z hz => by obtain rfl := Option.some.inj hz; exact hnd.1⟩
    cases j with
    | zero =>
      cases k with
      | zero => rfl
      | succ k =>
        simp only [List.getElem?_cons_zero, Option.some.injEq] at hj
        simp only [List.getElem?_cons_succ] at hk
        exact absurd (filterMap_get hk) (hnd'.2 _ hj)
    | succ j =>
      cases k with
      | zero =>
        simp only [List.getElem?_cons_zero, Option.some.injEq] at hk
        simp only [List.getElem?_cons_succ] at hj
        exact absurd (filterMap_get hj) (hnd'.2 _ hk)
      | succ k => exact congrArg (· + 1) (ih hnd'.1 (by simpa using hj) (by simpa using hk))

theorem after_call (h : SimB E N env mem a w β) {B : Nat → Prop} {sp : FnSpec} {tvs : List TV} {bs bs' : List Nat} {id : Nat} {svs : List SV} {ms bw : List (Nat × Blk)}
    (hbox : ∀ id ∈ bs, ∃ ep cells, mem id = some (.box ep cells)) (hbl : bs.length = bs'.length) (hbb : ∀ i (h : i < bs.length) (h' : i < bs'.length), ∃ D, β bs[i] = some (bs'[i], D)) (hbn : bs.Nodup)
    (hBlt : ∀ b, allow E w β b → b ∉ bs')
    (hms : (ressOf id sp.rs (sp.fn tvs)).eval mem = some (svs, ms)) (hbw : (boxesOf bs (sp.bx tvs)).eval mem = some bw) (hdis : ∀ i ∈ ms.map (·.1), i ∉ bs)
    (hconv : (∀ b, B b → allow E w β b) ∨ (sp.rs.all RK.flat = true ∧ sp.ps.all PK.flat = true))
    {e : Ending} {w' : World} {rvs : List Value} {nb : List Nat} {A' : Nat → Prop} (hp : Post B w bs' sp tvs e w' rvs nb A') :
    ∃ β', SimB E N env (updm mem (ms ++ bw)) a w' β' ∧ svs.length = rvs.length ∧
      ∀ (i : Nat) (sv : SV) (v : Value), svs[i]? = some sv → rvs[i]? = some v → RepSV (allow E w' β') w' β' (updm mem (ms ++ bw)) sv v := by
  obtain ⟨bcs, g1, g2, g3, g4, g5⟩ := ress_sound hms hp.ress
  obtain ⟨b1, b2, b3, b4⟩ := boxes_sound hbw hp.boxes
  have hmsn : (ms.map (·.1)).Nodup := g3.imp (fun h => Nat.ne_of_lt h)
  have hnd : ((ms ++ bw).map (·.1)).Nodup := by
    rw [List.map_append, b1]
    exact List.nodup_append.2 ⟨hmsn, hbn, fun x hx y hy e => hdis x hx (e ▸ hy)⟩
  -- the bindings of the new names
  have htab : ((ms.map (·.1)).zip bcs).map (·.1) = ms.map (·.1) := by
    rw [List.map_fst_zip]
    simp [g1]
  have htn : (((ms.map (·.1)).zip bcs).map (·.1)).Nodup := by rw [htab]; exact hmsn
  obtain ⟨β', hβ'⟩ : ∃ β' : Nat → Option (Nat × Nat), β' = fun i => match findPart i ((ms.map (·.1)).zip bcs) with | some bc => bc | none => β i := ⟨_, rfl⟩
  have hmem : ∀ i, updm mem (ms ++ bw) i = match findPart i (ms ++ bw) with | some k => some k | none => mem i := fun i => updm_find _ _ _ hnd
  have tab : ∀ {j i : Nat} {k : Blk} {bc : Option (Nat × Nat)}, ms[j]? = some (i, k) → bcs[j]? = some bc → ((ms.map (·.1)).zip bcs)[j]? = some (i, bc) := by
    intro j i k bc hj hb
    rw [List.getElem?_zip_eq_some]
    exact ⟨by rw [List.getElem?_map, hj]; rfl, hb⟩
  have look : ∀ (j i : Nat) (k : Blk) (bc : Option (Nat × Nat)), ms[j]? = some (i, k) → bcs[j]? = some bc → updm mem (ms ++ bw) i = some k ∧ β' i = bc := by
    intro j i k bc hj hb
    refine ⟨?_, ?_⟩
    · rw [hmem, findPart_get hnd (j := j) (k := k) (by rw [List.getElem?_append_left (List.getElem?_eq_some_iff.1 hj).1]; exact hj)]
    · rw [hβ']
      simp only
      rw [findPart_get htn (tab hj hb)]
  have oldβ : ∀ i, i ∉ ms.map (·.1) → β' i = β i := by
    intro i hi
    rw [hβ']
    simp only
    cases hf : findPart i ((ms.map (·.1)).zip bcs) with
    | none => rfl
    | some bc =>
      obtain ⟨j, hj⟩ := findPart_some hf
      exact absurd (by rw [← htab]; exact List.mem_map.2 ⟨(i, bc), List.mem_of_getElem? hj, rfl⟩) hi
  have newβ : ∀ (i : Nat) (bc : Option (Nat × Nat)), β' i = bc → i ∈ ms.map (·.1) → ∃ (j : Nat) (k : Blk), ms[j]? = some (i, k) ∧ bcs[j]? = some bc := by
    intro i bc hb hi
    obtain ⟨⟨i', k⟩, hm, rfl⟩ := List.mem_map.1 hi
    obtain ⟨j, hj⟩ := List.mem_iff_getElem?.1 hm
    have hlt : j < bcs.length := by rw [g1]; exact (List.getElem?_eq_some_iff.1 hj).1
    have := (look j i' k _ hj (List.getElem?_eq_getElem hlt)).2
    rw [hb] at this
    exact ⟨j, k, hj, by rw [this]; exact List.getElem?_eq_getElem hlt⟩
  have blocks : ∀ i b D, β' i = some (b, D) → (i ∉ ms.map (·.1) ∧ β i = some (b, D)) ∨ (i ∈ ms.map (·.1) ∧ b ∈ nb) := by
    intro i b D hb
    by_cases hi : i ∈ ms.map (·.1)
    · obtain ⟨j, k, h1, h2⟩ := newβ i _ hb hi
      exact .inr ⟨hi, by rw [g2]; exact filterMap_get h2⟩
    · exact .inl ⟨hi, by rw [← oldβ i hi]; exact hb⟩
  have hA : ∀ b, allow E w β b → allow E w' β' b ∧ w'.heap[b]? = w.heap[b]? := by
    intro b hb
    obtain ⟨h1, h2, h3⟩ := hb
    refine ⟨⟨by have := hp.grow; omega, h2, fun i D e => ?_⟩, hp.old b h1 (hBlt b ⟨h1, h2, h3⟩)⟩
    rcases blocks i b D e with ⟨_, h4⟩ | ⟨_, h4⟩
    · exact h3 i D h4
    · have := (hp.new b h4).1; omega
  have hup : ∀ b, (∀ b, B b → allow E w β b) → A' b → allow E w' β' b := by
    intro b hB hb
    obtain ⟨h1, h2, h3⟩ := hp.allowed b hb
    rcases h2 with h2 | h2
    · exact (hA b (hB b h2)).1
    · refine ⟨h1, .inr (by have := h.grow; omega), fun i D e => ?_⟩
      rcases blocks i b D e with ⟨_, h4⟩ | ⟨_, h4⟩
      · have := (h.dom i b D h4).2.1; omega
      · exact h3 h4
  have conv : ∀ (t : Ty), t.flatN fuel = true ∨ (∀ b, B b → allow E w β b) → ∀ (x : t.den) (cs : List Value), RepC A' w' t x cs → RepC (allow E w' β') w' t x cs := by
    intro t ht x cs hc
    rcases ht with ht | hB
    · exact hc.flat fuel ht
    · exact hc.mono fun b hb => ⟨hup b hB hb, rfl⟩
  obtain ⟨q1, q2, q3⟩ := g5 (allow E w' β') β' (updm mem (ms ++ bw)) (fun r hr => conv r.ty (by
    rcases hconv with hc | hc
    · exact .inr hc
    · exact .inl (RK.flat_ty (List.all_eq_true.1 hc.1 r hr)))) look
  have boxN : ∀ n ∈ boxNs sp.ps, (Ty.named n).flatN fuel = true ∨ (∀ b, B b → allow E w β b) := by
    intro n hn
    rcases hconv with hc | hc
    · exact .inr hc
    · refine .inl ?_
      have : ∀ ps : List PK, ps.all PK.flat = true → n ∈ boxNs ps → (Ty.named n).flatN fuel = true := by
        intro ps
        induction ps with
        | nil => intro _ h; cases h
        | cons p ps ih =>
          intro h hm
          simp only [List.all_cons, Bool.and_eq_true] at h
          cases p with
          | box m =>
            rcases List.mem_cons.1 hm with rfl | hm
            · exact h.1
            · exact ih h.2 hm
          | val t => exact ih h.2 hm
          | rd t => exact ih h.2 hm
          | clo f t => exact ih h.2 hm
      exact this sp.ps hc.2 hn
  have q4 := b4 (allow E w' β') β' (updm mem (ms ++ bw)) (fun n hn x cs hc => conv (.named n) (boxN n hn) x cs hc) (fun i h1 h2 => by
    rw [oldβ _ (fun hm => hdis _ hm (List.getElem_mem h1))]
    exact hbb i h1 h2)
  have inbs : ∀ i b D, β i = some (b, D) → b ∈ bs' → i ∈ bs := by
    intro i b D hb hm
    obtain ⟨j, hj, rfl⟩ := List.mem_iff_getElem.1 hm
    obtain ⟨D', hD⟩ := hbb j (by omega) hj
    rw [h.inj i _ _ _ _ hb hD]
    exact List.getElem_mem _
  refine ⟨β', h.evolve hp.os hp.tape hp.output hp.grow ?_ hA ?_ ?_ ?_ ?_ ?_, q1, q2⟩
  · intro b hb hn
    refine hp.old b (by have := h.grow; omega) fun hm => ?_
    obtain ⟨j, hj, rfl⟩ := List.mem_iff_getElem.1 hm
    obtain ⟨D, hD⟩ := hbb j (by omega) hj
    rcases (h.dom _ _ _ hD).2.2 with h1 | h1
    · exact hn h1
    · omega
  · intro i k hk
    rw [hmem]
    cases hf : findPart i (ms ++ bw) with
    | none =>
      refine ⟨k, hk, Nat.le_refl _, fun _ => ⟨k.alike_refl, oldβ i fun hm => ?_⟩⟩
      obtain ⟨⟨i', k'⟩, hm2, rfl⟩ := List.mem_map.1 hm
      exact findPart_none hf k' (List.mem_append_left _ hm2)
    | some k' =>
      refine ⟨k', rfl, ?_⟩
      obtain ⟨j, hj⟩ := findPart_some hf
      rcases List.mem_append.1 (List.mem_of_getElem? hj) with hm | hm
      · have := (g4 i k' hm).2.2 k hk
        exact ⟨by omega, fun e => by omega⟩
      · obtain ⟨k0, h1, h2, h3⟩ := b3 i k' hm
        rw [hk] at h1
        obtain rfl := Option.some.inj h1
        have hib : i ∈ bs := by rw [← b1]; exact List.mem_map.2 ⟨(i, k'), hm, rfl⟩
        refine ⟨by omega, fun _ => ⟨?_, oldβ i fun hmm => hdis i hmm hib⟩⟩
        obtain ⟨ep, cells, hb⟩ := hbox i hib
        rw [hk] at hb
        obtain rfl := Option.some.inj hb
        cases k' <;> simp_all [Blk.isBox, Blk.alike]
  · intro i b D hb
    rcases blocks i b D hb with ⟨h1, h2⟩ | ⟨h1, h2⟩
    · obtain ⟨⟨k, hk, hkb⟩, d2, d3⟩ := h.dom i b D h2
      refine ⟨?_, by have := hp.grow; omega, d3⟩
      rw [hmem]
      cases hf : findPart i (ms ++ bw) with
      | none => exact ⟨k, hk, hkb⟩
      | some k' =>
        obtain ⟨j, hj⟩ := findPart_some hf
        rcases List.mem_append.1 (List.mem_of_getElem? hj) with hm | hm
        · exact absurd (List.mem_map.2 ⟨(i, k'), hm, rfl⟩) h1
        · obtain ⟨k0, _, _, h3⟩ := b3 i k' hm
          exact ⟨k', rfl, fun _ => h3⟩
    · obtain ⟨h3, h4⟩ := hp.new b h2
      have hg := h.grow
      refine ⟨?_, h4, .inr (by omega)⟩
      obtain ⟨⟨i', k⟩, hm, rfl⟩ := List.mem_map.1 h1
      obtain ⟨j, hj⟩ := List.mem_iff_getElem?.1 hm
      have hlt : j < bcs.length := by rw [g1]; exact (List.getElem?_eq_some_iff.1 hj).1
      exact ⟨k, (look j i' k _ hj (List.getElem?_eq_getElem hlt)).1, fun hbs => by have := E.wb b hbs; omega⟩
  · intro i j b D D' hi hj
    by_cases h1 : i ∈ ms.map (·.1) <;> by_cases h2 : j ∈ ms.map (·.1)
    · obtain ⟨p, k, p1, p2⟩ := newβ i _ hi h1
      obtain ⟨q, k', q1', q2'⟩ := newβ j _ hj h2
      have : p = q := filterMap_inj (by rw [← g2]; exact hp.nodup) p2 q2'
      subst this
      rw [p1] at q1'
      simp only [Option.some.injEq, Prod.mk.injEq] at q1'
      exact q1'.1
    · rcases blocks i b D hi with ⟨h3, _⟩ | ⟨_, h3⟩
      · exact absurd h1 h3
      · rw [oldβ j h2] at hj
        have := (hp.new b h3).1
        have := (h.dom j b D' hj).2.1
        omega
    · rcases blocks j b D' hj with ⟨h3, _⟩ | ⟨_, h3⟩
      · exact absurd h2 h3
      · rw [oldβ i h1] at hi
        have := (hp.new b h3).1
        have := (h.dom i b D hi).2.1
        omega
    · rw [oldβ i h1] at hi
      rw [oldβ j h2] at hj
      exact h.inj i j b D D' hi hj
  · intro i k' hk'
    rw [hmem] at hk'
    cases hf : findPart i (ms ++ bw) with
    | none =>
      rw [hf] at hk'
      have hi : i ∉ ms.map (·.1) := fun hm => by
        obtain ⟨⟨i', k⟩, hm2, rfl⟩ := List.mem_map.1 hm
        exact findPart_none hf k (List.mem_append_left _ hm2)
      have hib : i ∉ bs := fun hm => by
        rw [← b1] at hm
        obtain ⟨⟨i', k⟩, hm2, rfl⟩ := List.mem_map.1 hm
        exact findPart_none hf k (List.mem_append_right _ hm2)
      exact .inl ⟨hk', oldβ i hi, fun b D hb => hp.old b (h.dom i b D hb).2.1 fun hm => hib (inbs i b D hb hm)⟩
    | some k =>
      rw [hf] at hk'
      obtain rfl := Option.some.inj hk'
      obtain ⟨j, hj⟩ := findPart_some hf
      refine .inr ?_
      rcases List.mem_append.1 (List.mem_of_getElem? hj) with hm | hm
      · obtain ⟨j', hj'⟩ := List.mem_iff_getElem?.1 hm
        exact q3 j' i k hj'
      · exact q4 i k hm
  · intro i c hc
    rw [hmem] at hc
    cases hf : findPart i (ms ++ bw) with
    | none =>
      rw [hf] at hc
      exact ⟨c, hc, oldβ i fun hm => by
        obtain ⟨⟨i', k⟩, hm2, rfl⟩ := List.mem_map.1 hm
        exact findPart_none hf k (List.mem_append_left _ hm2)⟩
    | some k =>
      rw [hf] at hc
      obtain rfl := Option.some.inj hc
      obtain ⟨j, hj⟩ := findPart_some hf
      rcases List.mem_append.1 (List.mem_of_getElem? hj) with hm | hm
      · exact absurd rfl (g4 i _ hm).2.1
      · obtain ⟨k0, h1, h2, h3⟩ := b3 i _ hm
        have hib : i ∈ bs := by rw [← b1]; exact List.mem_map.2 ⟨(i, _), hm, rfl⟩
        obtain ⟨ep, cells, hb⟩ := hbox i hib
        rw [h1] at hb
        obtain rfl := Option.some.inj hb
        simp only [Blk.ep] at h2
        subst h2
        exact ⟨cells, h1, oldβ i fun hmm => hdis i hmm hib⟩


end
end Go.Am


namespace Go.Am
variable [U : Univ]

section
variable {E : Ent} {N : Nat} {env : Nat → SV} {mem : Nat → Option Blk} {a : Act} {w : World} {β : Nat → Option (Nat × Nat)} {P : Program} {C : Ctx} {ops : Array Oper} {Q : Exit → Act → World → Prop}

theorem packV_rep {A : Nat → Prop} {svs : List SV} {rvs : List Value} (hl : svs.length = rvs.length) (hr : ∀ (i : Nat) (sv : SV) (v : Value), svs[i]? = some sv → rvs[i]? = some v → RepSV A w β mem sv v) :
    RepSV A w β mem (packSV svs) (packV rvs) := by
  match svs, rvs, hl with
  | [], [], _ => exact .tup [] [] rfl (by simp)
  | [sv], [v], _ => exact hr 0 sv v rfl rfl
  | sv :: sv2 :: svs, v :: v2 :: rvs, hl => exact .tup _ _ hl hr

theorem ressOf_congr : ∀ {rs : List RK} {id : Nat} {tvs : List TV} {mem mem' : Nat → Option Blk} {rvs : List SV} {ms : List (Nat × Blk)}, (∀ i ∈ ms.map (·.1), mem' i = mem i) → (ressOf id rs tvs).eval mem = some (rvs, ms) → (ressOf id rs tvs).eval mem' = some (rvs, ms) := by
  intro rs
  induction rs with
  | nil =>
    intro id tvs mem mem' rvs ms _ h
    cases tvs with
    | nil => exact h
    | cons => simp [ressOf, Rd.eval] at h
  | cons r rs ih =>
    intro id tvs mem mem' rvs ms hc h
    cases tvs with
    | nil => simp [ressOf, Rd.eval] at h
    | cons tv tvs =>
      simp only [ressOf] at h ⊢
      obtain ⟨⟨sv, m1⟩, h1, h⟩ := Rd.bind_some h
      obtain ⟨⟨svs, m2⟩, h2, h⟩ := Rd.bind_some h
      simp only [Rd.eval, Option.some.injEq, Prod.mk.injEq] at h
      obtain ⟨rfl, rfl⟩ := h
      have e2 := ih (mem' := mem') (fun i hi => hc i (by simp at hi ⊢; exact .inr hi)) h2
      have e1 : (resOf id r tv).eval mem' = some (sv, m1) := by
        obtain ⟨t, x⟩ := tv
        cases r with
        | val u =>
          simp only [resOf] at h1 ⊢
          split at h1
          · rename_i e
            rw [if_pos e]
            exact h1
          · simp [Rd.eval] at h1
        | clo f u =>
          simp only [resOf] at h1 ⊢
          split at h1
          · rename_i e
            rw [if_pos e]
            exact h1
          · simp [Rd.eval] at h1
        | own u =>
          cases t with
          | slice t =>
            simp only [resOf] at h1 ⊢
            split at h1
            · rename_i e
              obtain ⟨ep, hep, h1⟩ := Rd.bind_some h1
              simp only [Rd.eval, Option.some.injEq, Prod.mk.injEq] at h1
              obtain ⟨rfl, rfl⟩ := h1
              rw [if_pos e, Rd.eval_bind, freshEp_congr (hc id (by simp)), hep]; rfl
            · simp [Rd.eval] at h1
          | _ => simp [resOf, Rd.eval] at h1
        | ptr n =>
          cases t with
          | named m =>
            simp only [resOf] at h1 ⊢
            split at h1
            · rename_i e
              obtain ⟨ep, hep, h1⟩ := Rd.bind_some h1
              simp only [Rd.eval, Option.some.injEq, Prod.mk.injEq] at h1
              obtain ⟨rfl, rfl⟩ := h1
              rw [if_pos e, Rd.eval_bind, freshEp_congr (hc id (by simp)), hep]; rfl
            · simp [Rd.eval] at h1
          | _ => simp [resOf, Rd.eval] at h1
      rw [Rd.eval_bind, e1]
      simp only [Option.bind_some]
      rw [Rd.eval_bind, e2]
      rfl

theorem boxesOf_congr : ∀ {ids : List Nat} {tvs : List TV} {mem mem' : Nat → Option Blk} {bw : List (Nat × Blk)}, (∀ i ∈ ids, mem' i = mem i) → (boxesOf ids tvs).eval mem = some bw → (boxesOf ids tvs).eval mem' = some bw := by
  intro ids
  induction ids with
  | nil =>
    intro tvs mem mem' bw _ h
    cases tvs with
    | nil => exact h
    | cons => simp [boxesOf, Rd.eval] at h
  | cons id ids ih =>
    intro tvs mem mem' bw hc h
    cases tvs with
    | nil => simp [boxesOf, Rd.eval] at h
    | cons tv tvs =>
      obtain ⟨t, x⟩ := tv
      simp only [boxesOf, Rd.eval] at h ⊢
      rw [hc id (by simp)]
      cases hm : mem id with
      | none => rw [hm] at h; simp [Rd.eval] at h
      | some k =>
        rw [hm] at h
        simp only at h ⊢
        obtain ⟨r, hr, h⟩ := Rd.bind_some h
        rw [Rd.eval_bind, ih (fun i hi => hc i (by simp [hi])) hr]
        exact h

theorem callsIn_fence {E : Ent} {n : Nat} {f : FuncId} {args : Array Value} {w : World} {R : Ending → World → Prop} (h : Calls P f args w R) : CallsIn E.fence n P f args w R :=
  (callsIn_wide (n := n)).2 h

theorem oper_sound (hC : CtxOK P C) (h : SimB E N env mem a w β) {d0 : Nat} {wr : Bool} {o : Oper} {r : Res} (hs : (stepOp C wr env d0 o.op).eval mem = some r) (hob : ∀ p ∈ r.ob, p) (hd : ∀ d, o.dst = some d → d < N)
    {K : Act → World → Prop} (hK : ∀ a' w', Sim E N (putE env o.dst r.val) (updm mem r.memw) a' w' → K a' w') : o.wpIn E.fence 0 P a w K Q := by
  cases hnc : isCall o.op with
  | false =>
    obtain ⟨x, v, w', β', hrun, hx, hsim, hv⟩ := stepOp_sound h hC.ty hs hob hnc
    refine ⟨fun _ _ => trivial, ?_⟩
    rw [Oper.semAt_eq _ _ _ (fun c e => by rw [e] at hs; simp [stepOp, Rd.eval] at hs), hrun]
    rcases hx with rfl | ⟨rfl, rfl⟩
    · exact hK _ _ ⟨β', hsim.put hd hv⟩
    · exact hK _ _ ⟨β', hsim.put hd hv⟩
  | true =>
    obtain ⟨dst, op, type, pos, after, guard⟩ := o
    simp only at hs hnc hd hK
    cases op with
    | call c =>
      obtain ⟨callee, args, ats⟩ := c
      cases callee with
      | builtin b => simp [isCall] at hnc
      | invoke f m => simp [stepOp, Rd.eval] at hs
      | value f =>
        simp only [stepOp] at hs
        cases hv : opvs env args.toList with
        | mk vs ps =>
          cases hf : opv env f with
          | mk fv qs =>
            rw [hv, hf] at hs
            simp only at hs
            cases fv with
            | clo g caps =>
              simp only at hs
              cases hsp : C.sp g with
              | none => rw [hsp] at hs; simp [Rd.eval] at hs
              | some sp =>
                rw [hsp] at hs
                simp only [Rd.withOb] at hs
                obtain ⟨r', hr', hs⟩ := Rd.bind_some hs
                simp only [Rd.eval, Option.some.injEq] at hs
                subst hs
                simp only at hob hK
                obtain ⟨⟨fn, hfn, hname, hbody⟩, hcontract⟩ := hC.fn g sp hsp
                obtain ⟨k1, k2⟩ := opvs_rep h args.toList hv (fun p hp => hob p (by simp [hp]))
                have hfr := opv_rep h hf (fun p hp => hob p (by simp [hp]))
                generalize hfe : a.eval f = fval at hfr
                cases hfr with
                | clo _ _ cvs hcl hcr =>
                  -- the operation enters the function
                  have hrun : ∀ w, (execOp a.eval ⟨dst, .call ⟨.value f, args, ats⟩, type, pos, after, guard⟩).run P w = .ok (.enter g (args.toList.map a.eval ++ cvs).toArray) w := by
                    intro w
                    have e1 : args.map a.eval = (args.toList.map a.eval).toArray := by apply Array.ext'; simp
                    simp only [execOp, resolve, hfe, Deferred.ofValue, Sem.run_bind, Sem.run_pure, Result.andThen_ok, invoke, callFunc, run_program, hfn, hname, hbody, Bool.false_eq_true, if_false, e1]
                    simp
                  refine ⟨fun _ _ => trivial, ?_⟩
                  rw [Oper.semAt_eq _ _ _ (fun c e => by cases e), hrun w]
                  refine ⟨fun h => (by cases h), callsIn_fence ?_⟩
                  have hargl : (vs ++ caps).length = (args.toList.map a.eval ++ cvs).length := by simp only [List.length_append, k1, hcl]
                  have hargr : ∀ (i : Nat) (sv : SV) (v : Value), (vs ++ caps)[i]? = some sv → (args.toList.map a.eval ++ cvs)[i]? = some v → RepSV (allow E w β) w β mem sv v := by
                    intro i sv v hi hj
                    by_cases hlt : i < vs.length
                    · rw [List.getElem?_append_left hlt] at hi
                      rw [List.getElem?_append_left (by omega)] at hj
                      exact k2 i sv v hi hj
                    · rw [List.getElem?_append_right (by omega)] at hi hj
                      rw [k1] at hi
                      exact hcr _ sv v hi hj
                  -- what the abstract call did
                  simp only [doCall] at hr'
                  obtain ⟨⟨tvs, lent, bs⟩, hargs, hr'⟩ := Rd.bind_some hr'
                  simp only at hr'
                  split at hr'
                  · simp [Rd.eval] at hr'
                  · rename_i hc1
                    simp only [Bool.or_eq_true, Bool.not_eq_true', not_or, Bool.not_eq_true, Bool.not_eq_false] at hc1
                    obtain ⟨hbn, hlb⟩ := hc1
                    obtain ⟨⟨rvs, ms⟩, hms, hr'⟩ := Rd.bind_some hr'
                    obtain ⟨bw, hbw, hr'⟩ := Rd.bind_some hr'
                    simp only at hr'
                    split at hr'
                    · simp [Rd.eval] at hr'
                    · rename_i hc2
                      have hdl : ∀ id ∈ lent, id ∉ bs := by
                        intro id hid hm
                        rw [List.any_eq_false] at hlb
                        exact hlb id hid (by simpa using hm)
                      have hdm : ∀ i ∈ ms.map (·.1), i ∉ lent ∧ i ∉ bs := by
                        intro i hi
                        obtain ⟨⟨i', k⟩, hm, rfl⟩ := List.mem_map.1 hi
                        rw [Bool.not_eq_true, List.any_eq_false] at hc2
                        have := hc2 _ hm
                        simp only [Bool.or_eq_true, not_or] at this
                        exact ⟨by simpa using this.1, by simpa using this.2⟩
                      -- the call, its state before being (mem0, β0)
                      have core : ∀ {mem0 : Nat → Option Blk} {β0 : Nat → Option (Nat × Nat)} {B : Nat → Prop}, SimB E N env mem0 a w β0 → (∀ b, B b → b < w.heap.size) →
                          (∀ id ∈ bs, ∃ ep cells, mem0 id = some (.box ep cells)) → ∀ bs' : List Nat, bs.length = bs'.length → (∀ i (h : i < bs.length) (h' : i < bs'.length), ∃ D, β0 bs[i] = some (bs'[i], D)) →
                          (∀ b, B b → b ∉ bs') → RepArgs B w sp.ps (args.toList.map a.eval ++ cvs) tvs bs' → sp.pre tvs →
                          (ressOf (d0 * 4) sp.rs (sp.fn tvs)).eval mem0 = some (rvs, ms) → (boxesOf bs (sp.bx tvs)).eval mem0 = some bw →
                          ((∀ b, B b → allow E w β0 b) ∨ (sp.rs.all RK.flat = true ∧ sp.ps.all PK.flat = true)) →
                          (∀ a' w', Sim E N (putE env dst (packSV rvs)) (updm mem0 (ms ++ bw)) a' w' → K a' w') →
                          Calls P g (args.toList.map a.eval ++ cvs).toArray w fun
                            | .returned v, w'' => K (a.put dst v) w''
                            | .panicked chain, w'' => Q (.panic chain) a w''
                            | .outgrown, _ => LetsOut Q := by
                        intro mem0 β0 B h0 hBs hbx bs' hbl hbb hBn hra hpre hms0 hbw0 hconv hK0
                        have hnd := nodupN_nodup hbn
                        have hbs'lt : ∀ b, b ∈ bs' → b < w.heap.size := by
                          intro b hb
                          obtain ⟨j, hj, rfl⟩ := List.mem_iff_getElem.1 hb
                          obtain ⟨D, hD⟩ := hbb j (by omega) hj
                          exact (h0.dom _ _ _ hD).2.1
                        have hnd' : bs'.Nodup := by
                          rw [List.nodup_iff_pairwise_ne, List.pairwise_iff_getElem]
                          intro i j hi hj hij e
                          obtain ⟨D, hD⟩ := hbb i (by omega) hi
                          obtain ⟨D', hD'⟩ := hbb j (by omega) hj
                          rw [e] at hD
                          have := h0.inj _ _ _ _ _ hD hD'
                          exact absurd this ((List.pairwise_iff_getElem.1 (List.nodup_iff_pairwise_ne.1 hnd)) i j (by omega) (by omega) hij)
                        refine (hcontract B w _ tvs bs' (fun b hb => ⟨hBs b hb, hBn b hb⟩) hbs'lt hnd' hra hpre).mono ?_
                        rintro e w' ⟨rvals, nb, A', hp⟩
                        have hallow : ∀ b, allow E w β0 b → b ∉ bs' := by
                          intro b hb hm
                          obtain ⟨j, hj, rfl⟩ := List.mem_iff_getElem.1 hm
                          obtain ⟨D, hD⟩ := hbb j (by omega) hj
                          exact hb.2.2 _ _ hD
                        obtain ⟨β', hs', hl', hr''⟩ := after_call h0 hbx hbl hbb hnd hallow hms0 hbw0 (fun i hi => (hdm i hi).2) hconv hp
                        rw [hp.ret]
                        exact hK0 _ _ ⟨β', hs'.put hd (packV_rep hl' hr'')⟩
                      have hbox0 : ∀ (B : Nat → Prop), (∀ b, allow E w β b → B b) → (∀ id ∈ lent, ∀ b D, β id = some (b, D) → B b) →
                          (∀ id ∈ bs, ∃ ep cells, mem id = some (.box ep cells)) ∧ ∃ bs', bs.length = bs'.length ∧ (∀ i (h : i < bs.length) (h' : i < bs'.length), ∃ D, β bs[i] = some (bs'[i], D)) ∧ RepArgs B w sp.ps (args.toList.map a.eval ++ cvs) tvs bs' :=
                        fun B hB hl => argsOf_sound h hB hargl hargr hargs hl
                      split at hr'
                      · rename_i hiso
                        simp only [Rd.eval, Option.some.injEq] at hr'
                        subst hr'
                        have hpre := hob (sp.pre tvs) (by simp)
                        obtain ⟨hbx, bs', hbl, hbb, hra⟩ := hbox0 (fun b => allow E w β b ∨ ∃ id ∈ lent, ∃ D, β id = some (b, D)) (fun b hb => .inl hb) (fun id hid b D hb => .inr ⟨id, hid, D, hb⟩)
                        refine core h ?_ hbx bs' hbl hbb ?_ hra hpre hms hbw ?_ hK
                        · rintro b (hb | ⟨id, hid, D, hb⟩)
                          · exact hb.1
                          · exact (h.dom _ _ _ hb).2.1
                        · rintro b hb hm
                          obtain ⟨j, hj, rfl⟩ := List.mem_iff_getElem.1 hm
                          obtain ⟨D', hD'⟩ := hbb j (by omega) hj
                          rcases hb with hb | ⟨id, hid, D, hb⟩
                          · exact hb.2.2 _ _ hD'
                          · exact hdl id hid (by rw [h.inj _ _ _ _ _ hb hD']; exact List.getElem_mem _)
                        · simp only [Bool.or_eq_true, Bool.and_eq_true] at hiso
                          rcases hiso with hiso | hiso
                          · refine .inl ?_
                            rintro b (hb | ⟨id, hid, D, hb⟩)
                            · exact hb
                            · have : lent = [] := by simpa using hiso
                              rw [this] at hid
                              cases hid
                          · exact .inr hiso
                      · split at hr'
                        · rename_i hnl
                          obtain ⟨ks, hks, hr'⟩ := Rd.bind_some hr'
                          simp only [Rd.eval, Option.some.injEq] at hr'
                          subst hr'
                          have hpre := hob (sp.pre tvs) (by simp)
                          obtain ⟨β2, h2, hA2, hid2, hsame, _⟩ := h.kill lent hnl hks
                          obtain ⟨hbx, bs', hbl, hbb, hra⟩ := hbox0 (allow E w β2) hA2 hid2
                          have hsb : ∀ id ∈ bs, β2 id = β id ∧ updm mem ks id = mem id := fun id hid => hsame id (fun hm => hdl id hm hid)
                          have hms2 : (ressOf (d0 * 4) sp.rs (sp.fn tvs)).eval (updm mem ks) = some (rvs, ms) := ressOf_congr (fun i hi => (hsame i (hdm i hi).1).2) hms
                          have hbw2 : (boxesOf bs (sp.bx tvs)).eval (updm mem ks) = some bw := boxesOf_congr (fun i hi => (hsb i hi).2) hbw
                          refine core h2 (fun b hb => hb.1) (fun id hid => ?_) bs' hbl (fun i h1 h2 => ?_) ?_ hra hpre hms2 hbw2 (.inl fun b hb => hb) (fun a' w' hsim => hK a' w' (by rw [updm_append]; exact hsim))
                          · rw [(hsb id hid).2]; exact hbx id hid
                          · rw [(hsb _ (List.getElem_mem h1)).1]; exact hbb i h1 h2
                          · rintro b hb hm
                            obtain ⟨j, hj, rfl⟩ := List.mem_iff_getElem.1 hm
                            obtain ⟨D', hD'⟩ := hbb j (by omega) hj
                            rw [← (hsb _ (List.getElem_mem _)).1] at hD'
                            exact hb.2.2 _ _ hD'
                        · simp [Rd.eval] at hr'
            | _ => simp [Rd.eval] at hs
    | _ => simp [isCall] at hnc

end
end Go.Am
