/-
  Am, part N: struct literals; one operation that calls nothing.
-/
import Derived.Test.YtdcnkekcdncelaaDoorAmM
import Derived.Laws.Tables
import Derived.DataBytes
set_option linter.all false
namespace Go.Am
variable [U : Univ]

omit U in
theorem fill_fields {pl : Nat → Option (Nat × Nat)} {o s : Nat → Nat} {n : Nat} (hpl : ∀ f, f < n → pl f = some (o f, s f)) (hdis : ∀ f g, f < g → g < n → o f + s f ≤ o g) :
    ∀ (l : List (Nat × Value)) (i0 : Nat) (cells : Array Value), inOrder n i0 (l.map (·.1)) = true → (∀ p ∈ l, p.2.cells.size = s p.1) → (∀ f, f < n → o f + s f ≤ cells.size) →
      ∃ r, Instr.fill pl cells l = some r ∧ r.size = cells.size ∧ ∀ f, f < n → ∀ j, j < s f → r[o f + j]? = match findPart f l with
        | some v => v.cells[j]?
        | none => cells[o f + j]? := by
  intro l
  induction l with
  | nil =>
    intro i0 cells _ _ _; exact ⟨cells, rfl, rfl, fun f _ j _ => rfl⟩
  | cons p l ih =>
    obtain ⟨i, v⟩ := p; intro i0 cells hin hsz hle; simp only [List.map_cons, inOrder, Bool.and_eq_true, decide_eq_true_eq] at hin; obtain ⟨⟨_, hi⟩, hrest⟩ := hin; have hvs : v.cells.size = s i := hsz (i, v) (by simp); have hiv := hle i hi; obtain ⟨g1, g2⟩ := Great.foldl_set (o i) v.cells.toList 0 cells; obtain ⟨r, hr, hrs, hk⟩ := ih (i + 1) ((v.cells.toList.zipIdx 0).foldl (fun cs (x : Value × Nat) => cs.setIfInBounds (o i + x.2) x.1) cells) hrest (fun p hp => hsz p (by simp [hp])) (by rw [g1]; exact hle)
    have hnone : ∀ (l : List (Nat × Value)) (i1 : Nat), inOrder n i1 (l.map (·.1)) = true → i < i1 → findPart i l = none := by
      intro l
      induction l with
      | nil => intro _ _ _; rfl
      | cons q l ihl =>
        intro i1 hq hlt; simp only [List.map_cons, inOrder, Bool.and_eq_true, decide_eq_true_eq] at hq; simp only [findPart]; rw [if_neg (by omega)]; exact ihl (q.1 + 1) hq.2 (by omega)
    refine ⟨r, ?_, by rw [hrs, g1], fun f hf j hj => ?_⟩
    · unfold Instr.fill; simp only [hpl i hi, hvs]; rw [if_neg (by simp; omega), ← hr]; congr 1; rw [← Array.foldl_toList, Array.toList_zipIdx]
    · rw [hk f hf j hj]; simp only [findPart]; by_cases hfi : i = f
      · subst hfi; rw [hnone l (i + 1) hrest (by omega), if_pos rfl, g2]; simp only [Nat.add_zero, Array.length_toList, hvs]; rw [if_pos (by omega)]; simp
      · rw [if_neg hfi]
        cases findPart f l with
        | some u => rfl
        | none =>
          simp only [g2, Nat.add_zero, Array.length_toList, hvs]; rw [if_neg]; rcases Nat.lt_or_gt_of_ne hfi with h1 | h1
          · have := hdis i f h1 hf; omega
          · have := hdis f i h1 hi; omega

theorem offset_disjoint (n : Nat) : ∀ f g, f < g → g < (U.tys n).length → ∀ t, (U.tys n)[f]? = some t → offsetOf n f + t.size ≤ offsetOf n g := by
  intro f g hfg hg t ht
  have key : ∀ (l : List Ty) (f g : Nat) {t : Ty}, f < g → l[f]? = some t → ((l.take f).map Ty.size).sum + t.size ≤ ((l.take g).map Ty.size).sum := by
    intro l
    induction l with
    | nil => intro f g t _ h; simp at h
    | cons u l ih =>
      intro f g t hfg h
      cases g with
      | zero => omega
      | succ g =>
        cases f with
        | zero =>
          simp only [List.getElem?_cons_zero, Option.some.injEq] at h; subst h; simp
        | succ f =>
          simp only [List.getElem?_cons_succ] at h; have := ih f g (by omega) h; simp only [List.take_succ_cons, List.map_cons, List.sum_cons]; omega
  exact key _ f g hfg ht

theorem RepL.of_parts {A : Nat → Prop} {w : World} : ∀ (tvs : List TV) (cs : List Value), cs.length = ((tvs.map Sigma.fst).map Ty.size).sum →
    (∀ f t x, tvs[f]? = some ⟨t, x⟩ → RepC A w t x ((cs.drop ((((tvs.map Sigma.fst).take f).map Ty.size).sum)).take t.size)) → RepL A w tvs cs := by
  intro tvs
  induction tvs with
  | nil =>
    intro cs hl _; simp at hl; subst hl; exact .nil
  | cons tv r ih =>
    obtain ⟨t, x⟩ := tv; intro cs hl hp; simp only [List.map_cons, List.sum_cons] at hl; have h0 := hp 0 t x rfl; simp only [List.take_zero, List.map_nil, List.sum_nil, List.drop_zero] at h0
    have hr := ih (cs.drop t.size) (by simp only [List.length_drop]; omega) (fun f u y hf => by
      have := hp (f + 1) u y (by simpa using hf)
      simp only [List.map_cons, List.take_succ_cons, List.sum_cons] at this
      rw [List.drop_drop]
      exact this)
    have := RepL.cons t x r _ _ h0 hr
    rw [List.take_append_drop] at this
    exact this

theorem place_of {n k : Nat} (hk : k < U.sz n) : ∃ f t, (U.tys n)[f]? = some t ∧ offsetOf n f ≤ k ∧ k < offsetOf n f + t.size := by
  have key : ∀ (l : List Ty) (k : Nat), k < (l.map Ty.size).sum → ∃ f t, l[f]? = some t ∧ ((l.take f).map Ty.size).sum ≤ k ∧ k < ((l.take f).map Ty.size).sum + t.size := by
    intro l
    induction l with
    | nil => intro k h; simp at h
    | cons u l ih =>
      intro k h; simp only [List.map_cons, List.sum_cons] at h; by_cases hlt : k < u.size
      · exact ⟨0, u, rfl, by simp, by simpa using hlt⟩
      · obtain ⟨f, t, h1, h2, h3⟩ := ih (k - u.size) (by omega); exact ⟨f + 1, t, by simpa using h1, by simp only [List.take_succ_cons, List.map_cons, List.sum_cons]; omega, by simp only [List.take_succ_cons, List.map_cons, List.sum_cons]; omega⟩
  exact key _ k (by rw [← U.sz_eq]; exact hk)

section
variable {E : Ent} {N : Nat} {env : Nat → SV} {mem : Nat → Option Blk} {a : Act} {w : World} {β : Bind} {P : Program} {C : Ctx}

theorem partsOf_rep (h : SimB E N env mem a w β) : ∀ (l : List (Nat × Operand)) {ps : List (Nat × SV)} {ob : List Prop}, partsOf env l = (ps, ob) → (∀ p ∈ ob, p) →
    ps.map (·.1) = l.map (·.1) ∧ ∀ (i : Nat), match findPart i ps, findPart i (l.map fun p => (p.1, a.eval p.2)) with
      | some sv, some v => RepSV (allow E w β) w β mem sv v
      | none, none => True
      | _, _ => False := by
  intro l
  induction l with
  | nil =>
    intro ps ob hp _; simp only [partsOf, Prod.mk.injEq] at hp; obtain ⟨rfl, rfl⟩ := hp; exact ⟨rfl, fun i => trivial⟩
  | cons q l ih =>
    obtain ⟨j, x⟩ := q; intro ps ob hp hob; simp only [partsOf] at hp; generalize hv : opv env x = vp at hp; obtain ⟨v, p⟩ := vp; generalize hr : partsOf env l = rp at hp; obtain ⟨r, rob⟩ := rp; simp only [Prod.mk.injEq] at hp; obtain ⟨rfl, rfl⟩ := hp; obtain ⟨k1, k2⟩ := ih hr (fun p hp => hob p (by simp [hp])); refine ⟨by simp [k1], fun i => ?_⟩; simp only [List.map_cons, findPart]; by_cases hji : j = i
    · simp only [if_pos hji]; exact opv_rep h hv (fun p hp => hob p (by simp [hp]))
    · simp only [if_neg hji]; exact k2 i

theorem run_build_fields (h : SimB E N env mem a w β) (hty : CtxTy P C) {T n : Nat} (hT : C.ty T = some (.named n)) {parts : Array (Nat × Value)}
    (hin : inOrder (U.tys n).length 0 (parts.toList.map (·.1)) = true) (hsz : ∀ p ∈ parts.toList, ∀ t : Ty, (U.tys n)[p.1]? = some t → p.2.cells.size = t.size) :
    ∃ (cs : List Value) (zs : List Value), (Instr.build T parts).run P w = .ok (.agg cs.toArray) w ∧ cs.length = U.sz n ∧ RepC (allow E w β) w (.named n) (U.dfl n) zs ∧ zs = zeroCells fuel (.named n) ∧ (parts.toList = [] → cs = zeroCells fuel (.named n)) ∧
      ∀ f t, (U.tys n)[f]? = some t → (cs.drop (offsetOf n f)).take t.size = match findPart f parts.toList with
        | some v => v.cells.toList
        | none => (zs.drop (offsetOf n f)).take t.size := by
  have hte := hty T _ hT; obtain ⟨fs, hu, hfl, hfs⟩ := hte.und; obtain ⟨i, z, hi, hisz, _, _, hz, hzr⟩ := hte.info; have hzc := (hzr (allow E w β) w).cells
  have hplaces : fs.toList.mapM (fun f => (P.info? f.type).map fun i => (f.offset, i.size)) = some (fs.toList.map fun f => (f.offset, ((P.info? f.type).map (·.size)).getD 0)) := by
    refine mapM_some_of_forall _ fun fd hfd => ?_; obtain ⟨f, hf, rfl⟩ := List.mem_iff_getElem.1 hfd; (have hf' : f < (U.tys n).length := by rw [← hfl]; simpa using hf); obtain ⟨fd', h1, h2, h3⟩ := hfs f _ (List.getElem?_eq_getElem hf')
    have : fs.toList[f] = fd' := by
      (have e : fs.toList[f]? = some fd' := by simpa using h1); rw [List.getElem?_eq_getElem hf] at e; exact Option.some.inj e
    rw [this]; obtain ⟨i', _, hi', _⟩ := (hty _ _ h2).info; simp [hi']
  have hpl : ∀ f, f < (U.tys n).length → (fs.toList.map fun f => (f.offset, ((P.info? f.type).map (·.size)).getD 0)).toArray[f]? = some (offsetOf n f, ((U.tys n)[f]?.map Ty.size).getD 0) := by
    intro f hf; obtain ⟨fd', h1, h2, h3⟩ := hfs f _ (List.getElem?_eq_getElem hf); obtain ⟨i', _, hi', hs', _⟩ := (hty _ _ h2).info; (have e : fs.toList[f]? = some fd' := by simpa using h1); simp only [List.getElem?_toArray, List.getElem?_map, e, Option.map_some, h3, hi', Option.getD_some, hs', List.getElem?_eq_getElem hf]
  have hget : ∀ {f : Nat} {t : Ty}, (U.tys n)[f]? = some t → ((U.tys n)[f]?.map Ty.size).getD 0 = t.size := by
    intro f t hf; rw [hf]; rfl
  obtain ⟨r, hr, hrs, hk⟩ := fill_fields (n := (U.tys n).length) (o := offsetOf n) (s := fun f => ((U.tys n)[f]?.map Ty.size).getD 0) hpl
    (fun f g hfg hg => by
      (have hf : f < (U.tys n).length := by omega); rw [hget (List.getElem?_eq_getElem hf)]
      exact offset_disjoint n f g hfg hg _ (List.getElem?_eq_getElem hf))
    parts.toList 0 z.cells hin
    (fun p hp => by
      have : p.1 < (U.tys n).length := by
        have : ∀ (l : List (Nat × Value)) (i0 : Nat), inOrder (U.tys n).length i0 (l.map (·.1)) = true → ∀ p ∈ l, p.1 < (U.tys n).length := by
          intro l
          induction l with
          | nil => intro _ _ p hp; cases hp
          | cons q l ih =>
            intro i0 hin p hp; simp only [List.map_cons, inOrder, Bool.and_eq_true, decide_eq_true_eq] at hin; rcases List.mem_cons.1 hp with rfl | hp
            · exact hin.1.2
            · exact ih _ hin.2 p hp
        exact this _ 0 hin p hp
      rw [hget (List.getElem?_eq_getElem this)]
      exact hsz p hp _ (List.getElem?_eq_getElem this))
    (fun f hf => by
      rw [hget (List.getElem?_eq_getElem hf), hzc.2]
      exact offset_le n f (List.getElem?_eq_getElem hf))
  (have hrl : r.toList.length = U.sz n := by rw [Array.length_toList, hrs, hzc.2]; rfl); refine ⟨r.toList, z.cells.toList, ?_, hrl, hzc.1, hte.zc i z hi hz, fun hp => ?_, fun f t hf => ?_⟩
  · have hb : P.built T parts.toList = some r := by
      simp only [Program.built, hi, hu, hz, hplaces]; exact hr
    have := run_build w T parts r hb
    simpa using this
  · rw [hp] at hr; simp only [Instr.fill] at hr; have hr := Option.some.inj hr; rw [← hr]; exact hte.zc i z hi hz
  · have hf' : f < (U.tys n).length := (List.getElem?_eq_some_iff.1 hf).1; have hle := offset_le n f hf; apply List.ext_getElem?; intro j; have hkf := hk f hf'; rw [hget hf] at hkf; by_cases hj : j < t.size
    · have := hkf j hj; rw [List.getElem?_take, if_pos hj, List.getElem?_drop]; (have e : r.toList[offsetOf n f + j]? = r[offsetOf n f + j]? := by simp); rw [e, this]
      cases findPart f parts.toList with
      | some v => simp
      | none =>
        simp only [List.getElem?_take, if_pos hj, List.getElem?_drop]; simp
    · rw [List.getElem?_take, if_neg hj]
      cases hfp : findPart f parts.toList with
      | some v =>
        have hv : v.cells.size = t.size := by
          have : ∀ (l : List (Nat × Value)), findPart f l = some v → (f, v) ∈ l := by
            intro l
            induction l with
            | nil => intro h; simp [findPart] at h
            | cons q l ih =>
              intro h; simp only [findPart] at h; split at h
              · rename_i e; obtain rfl := Option.some.inj h; rw [← e]; exact List.mem_cons_self ..
              · exact List.mem_cons_of_mem _ (ih h)
          exact hsz _ (this _ hfp) t hf
        simp only; rw [List.getElem?_eq_none (by rw [Array.length_toList]; omega)]
      | none => simp only [List.getElem?_take, if_neg hj]

end
end Go.Am
