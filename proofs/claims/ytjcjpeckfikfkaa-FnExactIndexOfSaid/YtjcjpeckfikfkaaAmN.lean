/-
  Am, part N: struct literals; one operation that calls nothing.
-/
import Derived.Test.YtjcjpeckfikfkaaAmL
import Derived.Laws.Tables
import Derived.DataBytes
set_option linter.all false
namespace Go.Am
open List
variable [U : Univ]

section
variable {E : Ent} {N : Nat} {env : Nat → SV} {mem : Nat → Option Blk} {a : Act} {w : World} {β : Bind} {P : Program} {C : Ctx}

def loN : Option (IntKind × Int) → Nat → Nat
  | some x, _ => x.2.toNat
  | none, d => d

omit U in
theorem run_sliceAt {T e sz : Nat} (hu : P.underlying T = some (.slice e)) (hsz : (sizeOf e).run P w = .ok sz w) (p : Option Addr) (len cap : Nat) (lo hi : Option (IntKind × Int))
    (l h : Nat) (hl : l = loN lo 0) (hh : h = loN hi len)
    (h1 : ∀ x, lo = some x → 0 ≤ x.2) (h2 : ∀ x, hi = some x → 0 ≤ x.2) (hlh : l ≤ h) (hc : h ≤ cap) :
    (Instr.sliceAt T (.slice p len cap) (lo.map fun x => .int x.1 x.2) (hi.map fun x => .int x.1 x.2) none).run P w =
      .ok (.slice (if cap = l then p else p.map (·.add (l * sz))) (h - l) (cap - l)) w := by
  cases lo with
  | none =>
    cases hi with
    | none =>
      subst hl hh; simp [loN, Instr.sliceAt, Instr.slice, Instr.sliceBounds, run_underlying hu, hsz]
    | some y =>
      subst hl hh; have := h2 y rfl; (have h3 : y.2 ≤ (cap : Int) := by simp only [loN] at hc; omega); simp [loN, Instr.sliceAt, Instr.slice, Instr.sliceBounds, Instr.sliceBound, run_underlying hu, hsz, asIntOf, this, h3]; try rfl
  | some x =>
    cases hi with
    | none =>
      subst hl hh; have := h1 x rfl; (have h3 : x.2 ≤ (h : Int) := by simp only [loN] at hlh; omega); simp [loN, Instr.sliceAt, Instr.slice, Instr.sliceBounds, Instr.sliceBound, run_underlying hu, hsz, asIntOf, this, h3]; try rfl
    | some y =>
      subst hl hh; have e1 := h1 x rfl; have e2 := h2 y rfl; (have h3 : y.2 ≤ (cap : Int) := by simp only [loN] at hc; omega); have h4 : x.2.toNat ≤ y.2.toNat := hlh; (have h5 : x.2 ≤ max y.2 0 := by omega); (have h6 : x.2 ≤ y.2 := by omega); simp [loN, Instr.sliceAt, Instr.slice, Instr.sliceBounds, Instr.sliceBound, run_underlying hu, hsz, asIntOf, e1, e2, h3, h5, h6]; rfl

theorem RepC.part {A : Nat → Prop} {u : Ty} {xs : List u.den} {p : Addr} {cap : Nat} (hv : RepC A w (.slice u) xs [.slice (some p) xs.length cap]) {l h : Nat} (hlh : l ≤ h) (hh : h ≤ xs.length) :
    RepC A w (.slice u) ((xs.take h).drop l : List u.den) [.slice (some (if cap = l then p else p.add (l * u.size))) (h - l) (cap - l)] := by
  generalize hn : xs.length = n at hv
  cases hv with
  | slice _ _ _ _ css hlim hcap hA hsp hlen hc hr =>
    have hl : ((xs.take h).drop l).length = h - l := by simp; omega
    have key := RepC.slice (A := A) (w := w) u ((xs.take h).drop l) (if cap = l then p else p.add (l * u.size)) (cap - l) (fun i => css (l + i)) (by rw [hl]; omega) (by rw [hl]; omega)
      (fun hne => by
        (have hpos : 0 < h - l := by rw [← hl]; exact length_pos_iff.2 hne); rw [if_neg (by omega)]; have := hA (by intro e; simp [e] at hh; omega)
        unfold Addr.add; split <;> exact this)
      (fun hne => by
        (have hpos : 0 < h - l := by rw [← hl]; exact length_pos_iff.2 hne); rw [if_neg (by omega)]; have := hsp (by intro e; simp [e] at hh; omega); unfold Addr.add; split
        · exact this
        · rfl)
      (fun i hi => hlen (l + i) (by omega))
      (fun i j v hi hj => by
        have hsp' := hsp (by intro e; simp [e] at hh; omega); obtain ⟨b, off, sp⟩ := p; simp only at hsp'; subst hsp'; rw [if_neg (by omega), Addr.add_lit]; have := hc (l + i) j v (by omega) hj; simp only at this ⊢
        rw [Nat.add_mul] at this
        rw [show off + l * u.size + i * u.size + j = off + (l * u.size + i * u.size) + j by omega]
        exact this)
      (fun i hi => by
        have := hr (l + i) (by omega)
        rwa [show ((xs.take h).drop l)[i] = xs[l + i]'(by omega) by simp])
    rw [hl] at key; exact key

theorem slice_sound (h : SimB E N env mem a w β) (hty : CtxTy P C) {T : Nat} {t : Ty} (hT : C.ty T = some (.slice t)) {sv r : SV} {x : Value} {lo hi : Option (IntKind × Int)} {ob : List Prop}
    (hx : RepSV (allow E w β) w β mem sv x) (hs : (sliceSV (lo.map (·.2)) (hi.map (·.2)) sv).eval mem = some (r, ob)) (hob : ∀ p ∈ ob, p)
    (htt : ∀ u xs, sv = .data (.slice u) xs → u = t) (hta : ∀ id ep u xs, sv = .arr id ep → mem id = some (.arr ep u xs) → u = t) :
    ∃ y, (Instr.sliceAt T x (lo.map fun x => .int x.1 x.2) (hi.map fun x => .int x.1 x.2) none).run P w = .ok y w ∧ RepSV (allow E w β) w β mem r y := by
  obtain ⟨e, hu, he⟩ := (hty T _ hT).und; have hsz := (hty e t he).size w
  -- data
  have dat : ∀ {xs : List t.den} {v : Value} {l h : Nat} {y : List t.den}, RepV (allow E w β) w (.slice t) xs v → l ≤ h → h ≤ xs.length →
      (l = loN lo 0) → (h = loN hi xs.length) → (∀ x, lo = some x → 0 ≤ x.2) → (∀ x, hi = some x → 0 ≤ x.2) →
      y = (xs.take h).drop l →
      ∃ y', (Instr.sliceAt T v (lo.map fun x => .int x.1 x.2) (hi.map fun x => .int x.1 x.2) none).run P w = .ok y' w ∧ RepSV (allow E w β) w β mem (.data (.slice t) y) y' := by
    rintro xs v l h y hv hlh hh hl hhh h1 h2 rfl
    cases hv with
    | one _ _ _ _ hc =>
      cases hc with
      | nil =>
        simp only [length_nil] at hh; (obtain rfl : h = 0 := by omega); (obtain rfl : l = 0 := by omega); refine ⟨_, run_sliceAt hu hsz none 0 0 lo hi 0 0 hl (by simpa using hhh) h1 h2 (Nat.le_refl _) (Nat.le_refl _), ?_⟩; simp only [take_nil, drop_nil, ↓reduceIte, Nat.sub_zero]; exact .data _ _ _ (.one _ _ _ (by simp) (.nil t))
      | slice _ xs p cap css hlim hcap hA hsp hlen hc hr =>
        refine ⟨_, run_sliceAt hu hsz (some p) xs.length cap lo hi l h hl hhh h1 h2 hlh (by omega), ?_⟩; have := RepC.part (.slice t xs p cap css hlim hcap hA hsp hlen hc hr) hlh hh; rw [show (if cap = l then some p else Option.map (fun x => x.add (l * t.size)) (some p)) = some (if cap = l then p else p.add (l * t.size)) by split <;> rfl]; exact .data _ _ _ (.one _ _ _ (by simp) this)
  cases hx with
  | data u xs v hv =>
    cases u with
    | slice u =>
      obtain ⟨xs, rfl⟩ : ∃ y : List u.den, y = xs := ⟨xs, rfl⟩; obtain rfl := htt u xs rfl
      cases lo with
      | none =>
        cases hi with
        | none =>
          simp only [sliceSV, Option.map_none, Rd.eval, Option.some.injEq, Prod.mk.injEq] at hs; obtain ⟨rfl, rfl⟩ := hs; exact dat (l := 0) (h := xs.length) hv (Nat.zero_le _) (Nat.le_refl _) rfl rfl (by simp) (by simp) (by simp)
        | some y =>
          simp only [sliceSV, Option.map_none, Option.map_some, Rd.eval, Option.some.injEq, Prod.mk.injEq] at hs; obtain ⟨rfl, rfl⟩ := hs; have hi := hob _ (mem_singleton.2 rfl); exact dat (l := 0) (h := y.2.toNat) hv (Nat.zero_le _) (by omega) rfl rfl (by simp) (by simp; omega) (by simp)
      | some z =>
        cases hi with
        | none =>
          simp only [sliceSV, Option.map_none, Option.map_some, Rd.eval, Option.some.injEq, Prod.mk.injEq] at hs; obtain ⟨rfl, rfl⟩ := hs; have hi := hob _ (mem_singleton.2 rfl); exact dat (l := z.2.toNat) (h := xs.length) hv (by omega) (Nat.le_refl _) rfl rfl (by simp; omega) (by simp) (by simp)
        | some y =>
          simp only [sliceSV, Option.map_some, Rd.eval, Option.some.injEq, Prod.mk.injEq] at hs; obtain ⟨rfl, rfl⟩ := hs; have hi := hob _ (mem_singleton.2 rfl); exact dat (l := z.2.toNat) (h := y.2.toNat) hv (by omega) (by omega) rfl rfl (by simp; omega) (by simp; omega) (by simp)
    | _ => simp [sliceSV, Rd.eval] at hs
  | arr id ep v hm h1 hv =>
    simp only [sliceSV] at hs; replace hs := Rd.mem_some hs
    cases hmi : mem id with
    | none => rw [hmi] at hs; simp [Rd.eval] at hs
    | some kk =>
      rw [hmi] at hs
      cases kk with
      | box => simp [Rd.eval] at hs
      | tree => simp [Rd.eval] at hs
      | dead => simp [Rd.eval] at hs
      | mp => simp [Rd.eval] at hs
      | hole => simp [Rd.eval] at hs
      | arr ep' u xs =>
        simp only at hs; split at hs
        · rename_i e; subst e; obtain rfl := hta id ep' u xs rfl hmi; have hsl := hv _ _ hmi
          have arrv : ∀ {l h : Nat}, l ≤ h → h ≤ xs.length → (l = loN lo 0) → (h = loN hi xs.length) →
              (∀ x, lo = some x → 0 ≤ x.2) → (∀ x, hi = some x → 0 ≤ x.2) →
              ∃ y', (Instr.sliceAt T x (lo.map fun x => .int x.1 x.2) (hi.map fun x => .int x.1 x.2) none).run P w = .ok y' w ∧ y'.oneCell' = true ∧ SliceAt (β id) u.size l (h - l) y' := by
            intro l h hlh hh hl hhh g1 g2
            cases hb : β id with
            | none =>
              rw [hb] at hsl; obtain ⟨_, h0, rfl⟩ := hsl; (have e1 : h = 0 := by omega); (have e2 : l = 0 := by omega); rw [e1] at hhh; rw [e2] at hl; refine ⟨_, run_sliceAt hu hsz none 0 0 lo hi 0 0 hl (by rw [hhh]; cases hi <;> simp [loN, h0]) g1 g2 (Nat.le_refl _) (Nat.le_refl _), rfl, ?_⟩; rw [e1, e2]; exact ⟨rfl, rfl, by simp⟩
            | some bc =>
              obtain ⟨b, D⟩ := bc; rw [hb] at hsl; obtain ⟨p, rfl, hle, hp⟩ := hsl; obtain rfl := hp (.inl rfl); refine ⟨_, run_sliceAt hu hsz _ xs.length (D - 0) lo hi l h hl hhh g1 g2 hlh (by omega), rfl, ?_⟩; refine ⟨if D - 0 = l then ⟨b, 0 * u.size, none⟩ else (⟨b, 0 * u.size, none⟩ : Addr).add (l * u.size), ?_, by omega, fun hc => ?_⟩
              · split <;> rfl
              · split
                · rename_i e; (have : l = 0 := by omega); subst this; rfl
                · rw [Addr.add_lit]; simp
          cases lo with
          | none =>
            cases hi with
            | none =>
              simp only [Option.map_none, Rd.eval, Option.some.injEq, Prod.mk.injEq] at hs; obtain ⟨rfl, rfl⟩ := hs; obtain ⟨y', hr, hy1, hy⟩ := arrv (l := 0) (h := xs.length) (Nat.zero_le _) (Nat.le_refl _) rfl rfl (by simp) (by simp); refine ⟨y', hr, .arr _ _ _ hm hy1 fun t' xs' hm' => ?_⟩; rw [hmi] at hm'; simp only [Option.some.injEq, Blk.arr.injEq, true_and] at hm'; obtain ⟨rfl, hxs⟩ := hm'; obtain rfl := eq_of_heq hxs; exact hy
            | some y =>
              simp only [Option.map_none, Option.map_some, Rd.eval, Option.some.injEq, Prod.mk.injEq] at hs; obtain ⟨rfl, rfl⟩ := hs; have hi := hob _ (mem_singleton.2 rfl); obtain ⟨y', hr, hy1, hy⟩ := arrv (l := 0) (h := y.2.toNat) (Nat.zero_le _) (by omega) rfl rfl (by simp) (by simp; omega); refine ⟨y', hr, .sub _ _ _ _ _ hm hy1 fun t' xs' hm' => ?_⟩; rw [hmi] at hm'; simp only [Option.some.injEq, Blk.arr.injEq, true_and] at hm'; obtain ⟨rfl, hxs⟩ := hm'; obtain rfl := eq_of_heq hxs; exact ⟨by omega, hy⟩
          | some z =>
            cases hi with
            | none =>
              simp only [Option.map_none, Option.map_some, Rd.eval, Option.some.injEq, Prod.mk.injEq] at hs; obtain ⟨rfl, rfl⟩ := hs; have hi := hob _ (mem_singleton.2 rfl); obtain ⟨y', hr, hy1, hy⟩ := arrv (l := z.2.toNat) (h := xs.length) (by omega) (Nat.le_refl _) rfl rfl (by simp; omega) (by simp); refine ⟨y', hr, .sub _ _ _ _ _ hm hy1 fun t' xs' hm' => ?_⟩; rw [hmi] at hm'; simp only [Option.some.injEq, Blk.arr.injEq, true_and] at hm'; obtain ⟨rfl, hxs⟩ := hm'; obtain rfl := eq_of_heq hxs; exact ⟨by omega, hy⟩
            | some y =>
              simp only [Option.map_some, Rd.eval, Option.some.injEq, Prod.mk.injEq] at hs; obtain ⟨rfl, rfl⟩ := hs; have hi := hob _ (mem_singleton.2 rfl); obtain ⟨y', hr, hy1, hy⟩ := arrv (l := z.2.toNat) (h := y.2.toNat) (by omega) (by omega) rfl rfl (by simp; omega) (by simp; omega); refine ⟨y', hr, .sub _ _ _ _ _ hm hy1 fun t' xs' hm' => ?_⟩; rw [hmi] at hm'; simp only [Option.some.injEq, Blk.arr.injEq, true_and] at hm'; obtain ⟨rfl, hxs⟩ := hm'; obtain rfl := eq_of_heq hxs; exact ⟨by omega, hy⟩
        · simp [Rd.eval] at hs
  | nilsl =>
    simp only [sliceSV] at hs
    cases lo with
    | some _ => simp [Rd.eval] at hs
    | none =>
      cases hi with
      | none => simp [Rd.eval] at hs
      | some y =>
        simp only [Option.map_none, Option.map_some, Rd.eval, Option.some.injEq, Prod.mk.injEq] at hs; obtain ⟨rfl, rfl⟩ := hs; have h0 : y.2 = 0 := hob _ (mem_singleton.2 rfl); refine ⟨_, run_sliceAt hu hsz none 0 0 none (some y) 0 0 rfl (by simp [loN, h0]) (by simp) (by simp; omega) (Nat.le_refl _) (Nat.le_refl _), ?_⟩; simpa using RepSV.nilsl
  | _ => simp [sliceSV, Rd.eval] at hs

theorem field_sound (hty : CtxTy P C) {T n f : Nat} (hT : C.ty T = some (.named n)) {ft : Ty} (hf : (U.tys n)[f]? = some ft) {sv r : SV} {x : Value}
    (hx : RepSV (allow E w β) w β mem sv x) (hs : fieldSV n f ft sv = some r) :
    ∃ y, (Instr.field T x f).run P w = .ok y w ∧ RepSV (allow E w β) w β mem r y := by
  obtain ⟨fs, hu, _, hfs⟩ := (hty T _ hT).und; obtain ⟨fd, hfd, hft, hoff⟩ := hfs f ft hf; have hfty := hty fd.type ft hft; have hle := offset_le n f hf; have hpos := ft.size_pos
  have run : ∀ cs : List Value, cs.length = U.sz n → (Instr.field T (.agg cs.toArray) f).run P w = .ok (valOf ft ((cs.drop (offsetOf n f)).take ft.size)) w := by
    intro cs hl; (have hl2 : ((cs.drop (offsetOf n f)).take ft.size).length = ft.size := by simp; omega); simp only [Instr.field, Sem.run_bind, run_underlying hu, Result.andThen_ok, hfd, asAgg, Sem.run_pure, Go.part, hfty.isAgg]
    cases hn : ft.isNamed with
    | true =>
      simp only [if_true, Sem.run_bind, hfty.size, Result.andThen_ok, Sem.run_pure, valOf, hn, hoff]; congr 2; apply Array.ext'; simp [extract_eq_drop_take]
    | false =>
      (have h1 : ft.size = 1 := by cases ft <;> simp_all [Ty.isNamed, Ty.size]); simp only [Bool.false_eq_true, if_false, hoff, valOf, hn]; (have hlt : offsetOf n f < cs.length := by omega); (have : cs.toArray[offsetOf n f]? = some cs[offsetOf n f] := by simp [hlt]); rw [this]; simp only [Sem.run_pure]; congr 1; rw [h1]; simp [getD, getElem?_take, getElem?_drop, hlt]
  cases hx with
  | data u z v hv =>
    cases hv with
    | agg m z cs hc =>
      simp only [fieldSV] at hs; split at hs
      · rename_i e; subst e; split at hs
        · rename_i tv htv; obtain ⟨t', y⟩ := tv; obtain rfl := Option.some.inj hs
          have ht : t' = ft := by
            have : (U.tys m)[f]? = some t' := by rw [← U.get_tys m z, getElem?_map, htv]; rfl
            rw [hf] at this
            exact (Option.some.inj this).symm
          subst ht; obtain ⟨k1, _⟩ := hc.field htv; exact ⟨_, run cs hc.length, RepSV.ofTV (repV_valOf k1)⟩
        · simp at hs
      · simp at hs
    | one _ _ _ hn _ =>
      cases u <;> first | (simp [fieldSV] at hs; done) | exact absurd rfl (hn _)
  | agg l vs hl h1 hr =>
    simp only [fieldSV] at hs; split at hs
    · rename_i hsz; refine ⟨_, run vs (by omega), ?_⟩; by_cases hn : ∃ m, ft = .named m
      · obtain ⟨m, rfl⟩ := hn; simp only [Option.some.injEq] at hs; subst hs; simp only [valOf, Ty.isNamed, if_true, Ty.size]; refine .agg _ _ (by simp [hl]) (fun v hv => h1 v (mem_of_mem_drop (mem_of_mem_take hv))) fun i sv v hi hj => ?_; rw [getElem?_take, getElem?_drop] at hi hj; split at hi
        · rename_i hlt; rw [if_pos hlt] at hj; exact hr _ sv v hi hj
        · simp at hi
      · (have hn' : ft.isNamed = false := by cases ft <;> first | rfl | exact absurd ⟨_, rfl⟩ hn); have h1 : ft.size = 1 := by cases ft <;> simp_all [Ty.isNamed, Ty.size]
        have hs' : l[offsetOf n f]? = some r := by
          cases ft <;> first | exact hs | exact absurd ⟨_, rfl⟩ hn
        have hlt : offsetOf n f < vs.length := by omega
        have : valOf ft ((vs.drop (offsetOf n f)).take ft.size) = vs[offsetOf n f] := by
          simp [valOf, hn', h1, getD, getElem?_take, getElem?_drop, hlt]
        rw [this]; exact hr _ _ _ hs' (getElem?_eq_getElem hlt)
    · simp at hs
  | _ => simp [fieldSV] at hs

end
end Go.Am


namespace Go.Am
variable [U : Univ]

omit U in
theorem fill_fields {pl : Nat → Option (Nat × Nat)} {o s : Nat → Nat} {n : Nat} (hpl : ∀ f, f < n → pl f = some (o f, s f)) (hdis : ∀ f g, f < g → g < n → o f + s f ≤ o g) :
    ∀ (l : List (Nat × Value)) (i0 : Nat) (cells : Array Value), inOrder n i0 (l.map (·.1)) = true → (∀ p ∈ l, p.2.cells.size = s p.1) → (∀ f, f < n → o f + s f ≤ cells.size) →
      ∃ r, Instr.fill pl cells l = some r ∧ r.size = cells.size ∧ ∀ f, f < n → ∀ j, j < s f → r[o f + j]? = match findPart f l with
        | some v => v.cells[j]?
        | none => cells[o f + j]? := by
  intro l
  induction l with
  | nil =>
    intro i0 cells _ _ _; exact ⟨cells, rfl, rfl, fun f _ j _ => rfl⟩
  | cons p l ih =>
    obtain ⟨i, v⟩ := p; intro i0 cells hin hsz hle; simp only [List.map_cons, inOrder, Bool.and_eq_true, decide_eq_true_eq] at hin; obtain ⟨⟨_, hi⟩, hrest⟩ := hin; have hvs : v.cells.size = s i := hsz (i, v) (by simp); have hiv := hle i hi; obtain ⟨g1, g2⟩ := Great.foldl_set (o i) v.cells.toList 0 cells; obtain ⟨r, hr, hrs, hk⟩ := ih (i + 1) ((v.cells.toList.zipIdx 0).foldl (fun cs (x : Value × Nat) => cs.setIfInBounds (o i + x.2) x.1) cells) hrest (fun p hp => hsz p (by simp [hp])) (by rw [g1]; exact hle)
    have hnone : ∀ (l : List (Nat × Value)) (i1 : Nat), inOrder n i1 (l.map (·.1)) = true → i < i1 → findPart i l = none := by
      intro l
      induction l with
      | nil => intro _ _ _; rfl
      | cons q l ihl =>
        intro i1 hq hlt; simp only [List.map_cons, inOrder, Bool.and_eq_true, decide_eq_true_eq] at hq; simp only [findPart]; rw [if_neg (by omega)]; exact ihl (q.1 + 1) hq.2 (by omega)
    refine ⟨r, ?_, by rw [hrs, g1], fun f hf j hj => ?_⟩
    · unfold Instr.fill; simp only [hpl i hi, hvs]; rw [if_neg (by simp; omega), ← hr]; congr 1; rw [← Array.foldl_toList, Array.toList_zipIdx]
    · rw [hk f hf j hj]; simp only [findPart]; by_cases hfi : i = f
      · subst hfi; rw [hnone l (i + 1) hrest (by omega), if_pos rfl, g2]; simp only [Nat.add_zero, Array.length_toList, hvs]; rw [if_pos (by omega)]; simp
      · rw [if_neg hfi]
        cases findPart f l with
        | some u => rfl
        | none =>
          simp only [g2, Nat.add_zero, Array.length_toList, hvs]; rw [if_neg]; rcases Nat.lt_or_gt_of_ne hfi with h1 | h1
          · have := hdis i f h1 hf; omega
          · have := hdis f i h1 hi; omega

theorem offset_disjoint (n : Nat) : ∀ f g, f < g → g < (U.tys n).length → ∀ t, (U.tys n)[f]? = some t → offsetOf n f + t.size ≤ offsetOf n g := by
  intro f g hfg hg t ht
  have key : ∀ (l : List Ty) (f g : Nat) {t : Ty}, f < g → l[f]? = some t → ((l.take f).map Ty.size).sum + t.size ≤ ((l.take g).map Ty.size).sum := by
    intro l
    induction l with
    | nil => intro f g t _ h; simp at h
    | cons u l ih =>
      intro f g t hfg h
      cases g with
      | zero => omega
      | succ g =>
        cases f with
        | zero =>
          simp only [List.getElem?_cons_zero, Option.some.injEq] at h; subst h; simp
        | succ f =>
          simp only [List.getElem?_cons_succ] at h; have := ih f g (by omega) h; simp only [List.take_succ_cons, List.map_cons, List.sum_cons]; omega
  exact key _ f g hfg ht

theorem RepL.of_parts {A : Nat → Prop} {w : World} : ∀ (tvs : List TV) (cs : List Value), cs.length = ((tvs.map Sigma.fst).map Ty.size).sum →
    (∀ f t x, tvs[f]? = some ⟨t, x⟩ → RepC A w t x ((cs.drop ((((tvs.map Sigma.fst).take f).map Ty.size).sum)).take t.size)) → RepL A w tvs cs := by
  intro tvs
  induction tvs with
  | nil =>
    intro cs hl _; simp at hl; subst hl; exact .nil
  | cons tv r ih =>
    obtain ⟨t, x⟩ := tv; intro cs hl hp; simp only [List.map_cons, List.sum_cons] at hl; have h0 := hp 0 t x rfl; simp only [List.take_zero, List.map_nil, List.sum_nil, List.drop_zero] at h0
    have hr := ih (cs.drop t.size) (by simp only [List.length_drop]; omega) (fun f u y hf => by
      have := hp (f + 1) u y (by simpa using hf)
      simp only [List.map_cons, List.take_succ_cons, List.sum_cons] at this
      rw [List.drop_drop]
      exact this)
    have := RepL.cons t x r _ _ h0 hr
    rw [List.take_append_drop] at this
    exact this

theorem place_of {n k : Nat} (hk : k < U.sz n) : ∃ f t, (U.tys n)[f]? = some t ∧ offsetOf n f ≤ k ∧ k < offsetOf n f + t.size := by
  have key : ∀ (l : List Ty) (k : Nat), k < (l.map Ty.size).sum → ∃ f t, l[f]? = some t ∧ ((l.take f).map Ty.size).sum ≤ k ∧ k < ((l.take f).map Ty.size).sum + t.size := by
    intro l
    induction l with
    | nil => intro k h; simp at h
    | cons u l ih =>
      intro k h; simp only [List.map_cons, List.sum_cons] at h; by_cases hlt : k < u.size
      · exact ⟨0, u, rfl, by simp, by simpa using hlt⟩
      · obtain ⟨f, t, h1, h2, h3⟩ := ih (k - u.size) (by omega); exact ⟨f + 1, t, by simpa using h1, by simp only [List.take_succ_cons, List.map_cons, List.sum_cons]; omega, by simp only [List.take_succ_cons, List.map_cons, List.sum_cons]; omega⟩
  exact key _ k (by rw [← U.sz_eq]; exact hk)

section
variable {E : Ent} {N : Nat} {env : Nat → SV} {mem : Nat → Option Blk} {a : Act} {w : World} {β : Bind} {P : Program} {C : Ctx}

theorem partsOf_rep (h : SimB E N env mem a w β) : ∀ (l : List (Nat × Operand)) {ps : List (Nat × SV)} {ob : List Prop}, partsOf env l = (ps, ob) → (∀ p ∈ ob, p) →
    ps.map (·.1) = l.map (·.1) ∧ ∀ (i : Nat), match findPart i ps, findPart i (l.map fun p => (p.1, a.eval p.2)) with
      | some sv, some v => RepSV (allow E w β) w β mem sv v
      | none, none => True
      | _, _ => False := by
  intro l
  induction l with
  | nil =>
    intro ps ob hp _; simp only [partsOf, Prod.mk.injEq] at hp; obtain ⟨rfl, rfl⟩ := hp; exact ⟨rfl, fun i => trivial⟩
  | cons q l ih =>
    obtain ⟨j, x⟩ := q; intro ps ob hp hob; simp only [partsOf] at hp; generalize hv : opv env x = vp at hp; obtain ⟨v, p⟩ := vp; generalize hr : partsOf env l = rp at hp; obtain ⟨r, rob⟩ := rp; simp only [Prod.mk.injEq] at hp; obtain ⟨rfl, rfl⟩ := hp; obtain ⟨k1, k2⟩ := ih hr (fun p hp => hob p (by simp [hp])); refine ⟨by simp [k1], fun i => ?_⟩; simp only [List.map_cons, findPart]; by_cases hji : j = i
    · simp only [if_pos hji]; exact opv_rep h hv (fun p hp => hob p (by simp [hp]))
    · simp only [if_neg hji]; exact k2 i

theorem run_build_fields (h : SimB E N env mem a w β) (hty : CtxTy P C) {T n : Nat} (hT : C.ty T = some (.named n)) {parts : Array (Nat × Value)}
    (hin : inOrder (U.tys n).length 0 (parts.toList.map (·.1)) = true) (hsz : ∀ p ∈ parts.toList, ∀ t : Ty, (U.tys n)[p.1]? = some t → p.2.cells.size = t.size) :
    ∃ (cs : List Value) (zs : List Value), (Instr.build T parts).run P w = .ok (.agg cs.toArray) w ∧ cs.length = U.sz n ∧ RepC (allow E w β) w (.named n) (U.dfl n) zs ∧ zs = zeroCells fuel (.named n) ∧ (parts.toList = [] → cs = zeroCells fuel (.named n)) ∧
      ∀ f t, (U.tys n)[f]? = some t → (cs.drop (offsetOf n f)).take t.size = match findPart f parts.toList with
        | some v => v.cells.toList
        | none => (zs.drop (offsetOf n f)).take t.size := by
  have hte := hty T _ hT; obtain ⟨fs, hu, hfl, hfs⟩ := hte.und; obtain ⟨i, z, hi, hisz, _, _, hz, hzr⟩ := hte.info; have hzc := (hzr (allow E w β) w).cells
  have hplaces : fs.toList.mapM (fun f => (P.info? f.type).map fun i => (f.offset, i.size)) = some (fs.toList.map fun f => (f.offset, ((P.info? f.type).map (·.size)).getD 0)) := by
    refine mapM_some_of_forall _ fun fd hfd => ?_; obtain ⟨f, hf, rfl⟩ := List.mem_iff_getElem.1 hfd; (have hf' : f < (U.tys n).length := by rw [← hfl]; simpa using hf); obtain ⟨fd', h1, h2, h3⟩ := hfs f _ (List.getElem?_eq_getElem hf')
    have : fs.toList[f] = fd' := by
      (have e : fs.toList[f]? = some fd' := by simpa using h1); rw [List.getElem?_eq_getElem hf] at e; exact Option.some.inj e
    rw [this]; obtain ⟨i', _, hi', _⟩ := (hty _ _ h2).info; simp [hi']
  have hpl : ∀ f, f < (U.tys n).length → (fs.toList.map fun f => (f.offset, ((P.info? f.type).map (·.size)).getD 0)).toArray[f]? = some (offsetOf n f, ((U.tys n)[f]?.map Ty.size).getD 0) := by
    intro f hf; obtain ⟨fd', h1, h2, h3⟩ := hfs f _ (List.getElem?_eq_getElem hf); obtain ⟨i', _, hi', hs', _⟩ := (hty _ _ h2).info; (have e : fs.toList[f]? = some fd' := by simpa using h1); simp only [List.getElem?_toArray, List.getElem?_map, e, Option.map_some, h3, hi', Option.getD_some, hs', List.getElem?_eq_getElem hf]
  have hget : ∀ {f : Nat} {t : Ty}, (U.tys n)[f]? = some t → ((U.tys n)[f]?.map Ty.size).getD 0 = t.size := by
    intro f t hf; rw [hf]; rfl
  obtain ⟨r, hr, hrs, hk⟩ := fill_fields (n := (U.tys n).length) (o := offsetOf n) (s := fun f => ((U.tys n)[f]?.map Ty.size).getD 0) hpl
    (fun f g hfg hg => by
      (have hf : f < (U.tys n).length := by omega); rw [hget (List.getElem?_eq_getElem hf)]
      exact offset_disjoint n f g hfg hg _ (List.getElem?_eq_getElem hf))
    parts.toList 0 z.cells hin
    (fun p hp => by
      have : p.1 < (U.tys n).length := by
        have : ∀ (l : List (Nat × Value)) (i0 : Nat), inOrder (U.tys n).length i0 (l.map (·.1)) = true → ∀ p ∈ l, p.1 < (U.tys n).length := by
          intro l
          induction l with
          | nil => intro _ _ p hp; cases hp
          | cons q l ih =>
            intro i0 hin p hp; simp only [List.map_cons, inOrder, Bool.and_eq_true, decide_eq_true_eq] at hin; rcases List.mem_cons.1 hp with rfl | hp
            · exact hin.1.2
            · exact ih _ hin.2 p hp
        exact this _ 0 hin p hp
      rw [hget (List.getElem?_eq_getElem this)]
      exact hsz p hp _ (List.getElem?_eq_getElem this))
    (fun f hf => by
      rw [hget (List.getElem?_eq_getElem hf), hzc.2]
      exact offset_le n f (List.getElem?_eq_getElem hf))
  (have hrl : r.toList.length = U.sz n := by rw [Array.length_toList, hrs, hzc.2]; rfl); refine ⟨r.toList, z.cells.toList, ?_, hrl, hzc.1, hte.zc i z hi hz, fun hp => ?_, fun f t hf => ?_⟩
  · have hb : P.built T parts.toList = some r := by
      simp only [Program.built, hi, hu, hz, hplaces]; exact hr
    have := run_build w T parts r hb
    simpa using this
  · rw [hp] at hr; simp only [Instr.fill] at hr; have hr := Option.some.inj hr; rw [← hr]; exact hte.zc i z hi hz
  · have hf' : f < (U.tys n).length := (List.getElem?_eq_some_iff.1 hf).1; have hle := offset_le n f hf; apply List.ext_getElem?; intro j; have hkf := hk f hf'; rw [hget hf] at hkf; by_cases hj : j < t.size
    · have := hkf j hj; rw [List.getElem?_take, if_pos hj, List.getElem?_drop]; (have e : r.toList[offsetOf n f + j]? = r[offsetOf n f + j]? := by simp); rw [e, this]
      cases findPart f parts.toList with
      | some v => simp
      | none =>
        simp only [List.getElem?_take, if_pos hj, List.getElem?_drop]; simp
    · rw [List.getElem?_take, if_neg hj]
      cases hfp : findPart f parts.toList with
      | some v =>
        have hv : v.cells.size = t.size := by
          have : ∀ (l : List (Nat × Value)), findPart f l = some v → (f, v) ∈ l := by
            intro l
            induction l with
            | nil => intro h; simp [findPart] at h
            | cons q l ih =>
              intro h; simp only [findPart] at h; split at h
              · rename_i e; obtain rfl := Option.some.inj h; rw [← e]; exact List.mem_cons_self ..
              · exact List.mem_cons_of_mem _ (ih h)
          exact hsz _ (this _ hfp) t hf
        simp only; rw [List.getElem?_eq_none (by rw [Array.length_toList]; omega)]
      | none => simp only [List.getElem?_take, if_neg hj]

end
end Go.Am
