/-
  Am, part I: append, make, literals, stores.
-/
import Derived.Test.YtdcnkekcdncelaaDoorAmH
set_option linter.all false
namespace Go.Am
variable [U : Univ]

omit U in
theorem run_append_in {P : Program} {w : World} {T T' ty e e' : TypeId} {size : Nat} (ht : P.underlying T = some (.slice e)) (ht' : P.underlying T' = some (.slice e'))
    (hsz : (sizeOf e).run P w = .ok size w)
    {g sLen sCap el n : Nat} {cur : Array Value} (hg : w.heap[g]? = some (.cells cur el (0, 0))) {x : Value} {news : List Value}
    (hlen : (Builtin.lenOf x).run P w = .ok n w) (hf : (Builtin.firstCells size n x).run P w = .ok news.toArray w) (h1 : ∀ u ∈ news, u.oneCell' = true)
    (hroom : sLen + n ≤ sCap) (hfit : sLen * size + news.length ≤ cur.size) :
    (Builtin.append_ #[T, T'] ty #[.slice (some ⟨g, 0, none⟩) sLen sCap, x]).run P w =
      .ok (.slice (some ⟨g, 0, none⟩) (sLen + n) sCap) (w.setRow g (cur.toList.take (sLen * size) ++ news ++ cur.toList.drop (sLen * size + news.length)).toArray) := by
  have hst := run_storeCells_at P g (sLen * size) el news 0 cur w hg (by simpa using hfit) h1; simp only [Nat.add_zero] at hst; simp [Builtin.append_, run_underlying ht, run_underlying ht', hsz, hlen, hroom, hf, Addr.add_lit, hst]

omit U in
theorem run_append_in_nil {P : Program} {w : World} {T T' ty e e' : TypeId} {size : Nat} (ht : P.underlying T = some (.slice e)) (ht' : P.underlying T' = some (.slice e'))
    (hsz : (sizeOf e).run P w = .ok size w) {x : Value} {news : Array Value}
    (hlen : (Builtin.lenOf x).run P w = .ok 0 w) (hf : (Builtin.firstCells size 0 x).run P w = .ok news w) :
    (Builtin.append_ #[T, T'] ty #[.slice none 0 0, x]).run P w = .ok (.slice none 0 0) w := by
  simp [Builtin.append_, run_underlying ht, run_underlying ht', hsz, hlen, hf]

omit U in
theorem run_append_up {P : Program} {w : World} {T T' ty e e' : TypeId} {i : TypeInfo} {z : Value} (ht : P.underlying T = some (.slice e)) (ht' : P.underlying T' = some (.slice e'))
    (hi : P.info? e = some i) (hzero : i.zero = some z)
    {base : Option Addr} {sLen sCap n : Nat} {x : Value} {olds news : List Value}
    (hlen : (Builtin.lenOf x).run P w = .ok n w) (ho : (Builtin.firstCells i.size sLen (.slice base sLen sCap)).run P w.drew = .ok olds.toArray w.drew)
    (hf : (Builtin.firstCells i.size n x).run P w.drew = .ok news.toArray w.drew)
    (hg : sCap < sLen + n) (h63 : ((sLen + n : Nat) : Int) ≤ 9223372036854775807) (hfit : Builtin.nextslicecap (sLen + n) sCap * i.bytes ≤ 281474976710656) :
    (Builtin.append_ #[T, T'] ty #[.slice base sLen sCap, x]).run P w =
      .ok (.slice (some ⟨w.heap.size, 0, none⟩) (sLen + n) (grownCap w (sLen + n) sCap e))
        (w.drew.alloc (.cells (olds ++ news ++ (Builtin.zeroCells z.cells (grownCap w (sLen + n) sCap e - (sLen + n))).toList).toArray e)) := by
  (have hn : ¬ (sLen + n ≤ sCap) := by omega); (have h63' : ¬ (9223372036854775807 < ((sLen : Int) + (n : Int))) := by omega); (have h48' : ¬ (281474976710656 < Builtin.nextslicecap (sLen + n) sCap * i.bytes) := by omega); (have hszr : (sizeOf e).run P w = .ok i.size w := by simp [sizeOf, typeInfo, hi]); (have hti : ∀ w, (typeInfo e).run P w = .ok i w := fun w => by simp [typeInfo, hi]); (have hzv : ∀ w, (zeroValue e).run P w = .ok z w := fun w => by simp [zeroValue, typeInfo, hi, hzero]); have hdr : ({ w with drawn := w.drawn + 1 } : World) = w.drew := rfl
  simp only [Builtin.append_, Sem.run_bind, run_underlying ht, run_underlying ht', hszr, hlen, hn, Result.andThen_ok, Sem.run_pure, if_false, Bool.false_eq_true, hti, run_choose, Question.forced,
    h48', hdr, run_askRoom, ho, hf, hzv, run_newRow, Sem.run_ite, false_or, IntKind.max_i64, Bool.not_false, if_true, List.getElem?_toArray, List.getElem?_cons_zero, List.getElem?_cons_succ, gt_iff_lt, Int.natCast_add]
  simp only [h63', false_and, if_false, h48', hdr, ho, hf, hzv, run_newRow, Question.forced, grownCap, Result.andThen_ok, Sem.run_bind, Sem.run_ite, run_choose, Bool.false_eq_true, gt_iff_lt, Int.natCast_add, Sem.run_pure, run_askRoom]; congr 3; apply Array.ext'; simp

section
variable {E : Ent} {N : Nat} {env : Nat → SV} {mem : Nat → Option Blk} {a : Act} {w : World} {β : Bind} {P : Program} {C : Ctx}

theorem SimB.drew (h : SimB E N env mem a w β) : SimB E N env mem a w.drew β where
  defers := h.defers.mono (A := allow E w β) (A' := allow E w.drew β) (w := w) (w' := w.drew) fun b hb => ⟨hb, rfl⟩
  size := h.size
  hN := h.hN
  os := h.os
  tape := h.tape
  output := ⟨h.output.1, Nat.le_trans h.output.2 (U.dr_mono _ _ (Nat.le_succ _))⟩
  grow := h.grow
  old := h.old
  dom := h.dom
  inj := h.inj
  own := h.own
  par := h.par
  blk := fun i k hk => RepBlk.mono (A := allow E w β) (w := w) (A' := allow E w.drew β) (w' := w.drew) (fun b hb => ⟨hb, rfl⟩) (fun i k hk => ⟨k, hk, Nat.le_refl _, fun _ => ⟨k.alike_refl, rfl⟩⟩) rfl (fun _ _ _ => rfl) (fun _ _ h => ⟨h, rfl⟩) (h.blk i k hk)
  slot := fun s => RepSV.mono (A := allow E w β) (w := w) (A' := allow E w.drew β) (w' := w.drew) (fun b hb => ⟨hb, rfl⟩) (fun i k hk => ⟨k, hk, Nat.le_refl _, fun _ => ⟨k.alike_refl, rfl⟩⟩) (h.slot s)

theorem cat_one {A : Nat → Prop} {t : Ty} {ys : List t.den} {x : Value} {css : Nat → List Value} (h : Src P A w t ys x css) : ∀ u ∈ cat css ys.length, u.oneCell' = true := by
  intro u hu; simp only [cat, List.mem_flatMap, List.mem_range] at hu; obtain ⟨k, hk, hu⟩ := hu; exact (h.rep k hk).one u hu

omit U in
theorem grownCap_le (w : World) {need old : Nat} (e : TypeId) (h : need < 2 ^ 63) : need ≤ grownCap w need old e := by
  simp only [grownCap, Question.cut]; omega

theorem row_get {t : Ty} {A : Nat → Prop} {xs ys : List t.den} {cs : List Value} {css dss : Nat → List Value} {k0 : Nat} (hk0 : k0 ≤ xs.length)
    (hx : ∀ k, k < xs.length → (css k).length = t.size) (hxr : ∀ k (h : k < xs.length), RepC A w t xs[k] (css k))
    (hy : ∀ k, k < ys.length → (dss k).length = t.size) (hyr : ∀ k (h : k < ys.length), RepC A w t ys[k] (dss k))
    (h1 : ∀ k j v, k < k0 → (css k)[j]? = some v → cs[k * t.size + j]? = some v)
    (h2 : ∀ i v, (cat dss ys.length)[i]? = some v → cs[k0 * t.size + i]? = some v) :
    ∀ k (hk : k < (xs.take k0 ++ ys).length), (if k < k0 then css k else dss (k - k0)).length = t.size ∧
      (∀ (j : Nat) (v : Value), (if k < k0 then css k else dss (k - k0))[j]? = some v → cs[k * t.size + j]? = some v) ∧
      RepC A w t (xs.take k0 ++ ys)[k] (if k < k0 then css k else dss (k - k0)) := by
  intro k hk; (have hl : (xs.take k0).length = k0 := by simp; omega); by_cases hlt : k < k0
  · simp only [if_pos hlt]; refine ⟨hx k (by omega), fun j v hj => h1 k j v hlt hj, ?_⟩; have := hxr k (by omega); rw [show (xs.take k0 ++ ys)[k] = xs[k]'(by omega) by rw [List.getElem_append_left (by omega), List.getElem_take]]
    exact this
  · simp only [if_neg hlt]; (have hky : k - k0 < ys.length := by simp [hl] at hk; omega); refine ⟨hy _ hky, fun j v hj => ?_, ?_⟩
    · (have hj' : j < t.size := by rw [← hy _ hky]; exact (List.getElem?_eq_some_iff.1 hj).1); have := h2 ((k - k0) * t.size + j) v (by rw [cat_get hy hky hj']; exact hj)
      rw [← Nat.add_assoc, ← Nat.add_mul] at this
      rwa [show k0 + (k - k0) = k by omega] at this
    · have := hyr _ hky
      rw [show (xs.take k0 ++ ys)[k] = ys[k - k0]'hky by
        rw [List.getElem_append_right (by omega)]
        congr 1; omega]
      exact this

theorem append_gives (h : SimB E N env mem a w β) {T T' ty d : Nat} {t : Ty} (hty : CtxTy P C) (hT : C.ty T = some (.slice t)) (hT' : C.ty T' = some (.slice t)) {sv sy : SV} {v x : Value} {ys : List t.den} {r : Res}
    (hv : RepSV (allow E w β) w β mem sv v) (hx : RepSV (allow E w β) w β mem sy x) (hl : (listOf t sy).eval mem = some ys) (hs : (appendSV d t sv ys).eval mem = some r) (hob : ∀ p ∈ r.ob, p) :
    Gives P E N env (updm mem r.memw) a (Builtin.append_ #[T, T'] ty #[v, x]) w r.val := by
  obtain ⟨dss, hsrc⟩ := listOf_src (P := P) h hx hl; obtain ⟨e, hu, he⟩ := (hty T _ hT).und; obtain ⟨e', hu', _⟩ := (hty T' _ hT').und; have hte := hty e t he; obtain ⟨i, z, hi, hisz, _, hby, hz, hzr⟩ := hte.info; have hszr := hte.size w
  -- the call grows: a new block
  have grow : ∀ {id ep0 : Nat} {xs : List t.den} {k0 : Nat} {base : Option Addr} {cap : Nat} {css : Nat → List Value} {olds : List Value}, k0 ≤ xs.length →
      (ep0 ≠ 0 ∧ ∀ k1, mem id = some k1 → k1.ep < ep0) →
      (∀ k, k < xs.length → (css k).length = t.size) → (∀ k (h : k < xs.length), RepC (allow E w β) w t xs[k] (css k)) →
      olds = cat css k0 → ((k0 : Int) + (ys.length : Int) ≤ 4294967296) →
      (Builtin.firstCells i.size k0 (.slice base k0 cap)).run P w.drew = .ok olds.toArray w.drew → cap < k0 + ys.length →
      Gives P E N env (updm mem [(id, .arr ep0 t (xs.take k0 ++ ys))]) a (Builtin.append_ #[T, T'] ty #[.slice base k0 cap, x]) w (.arr id ep0) := by
    intro id ep0 xs k0 base cap css olds hk0 hep hx1 hx2 holds hle ho hcap
    have hb : Builtin.nextslicecap (k0 + ys.length) cap * i.bytes ≤ 281474976710656 := growslice_fits hcap (by
      have : (k0 + ys.length) * i.bytes ≤ 4294967296 * 4096 := Nat.mul_le_mul (by omega) hby
      omega)
    have hrun := run_append_up (ty := ty) hu hu' hi hz (hsrc.len w) ho (by rw [hisz]; exact hsrc.cells _ rfl) hcap (by omega) hb; generalize hcapn : grownCap w (k0 + ys.length) cap e = capn at hrun; (have hcapn' : k0 + ys.length ≤ capn := by rw [← hcapn]; exact grownCap_le w e (by omega)); have hzsz : z.cells.size = t.size := (hzr (allow E w β) w).cells.2; (have hol : olds.length = k0 * t.size := by rw [holds]; exact cat_length (fun k hk => hx1 k (by omega))); have hnl : (cat dss ys.length).length = ys.length * t.size := cat_length hsrc.cl; (have hll : (xs.take k0 ++ ys).length = k0 + ys.length := by simp; omega); generalize hrow : olds ++ cat dss ys.length ++ (Builtin.zeroCells z.cells (capn - (k0 + ys.length))).toList = row at hrun
    have hrl : row.length = capn * t.size := by
      rw [← hrow]; simp only [List.length_append, hol, hnl, Array.length_toList, size_zeroCells, hzsz]; rw [← Nat.add_mul, ← Nat.add_mul]; congr 1; omega
    have hdrew := h.drew.alloc (k := .arr ep0 t (xs.take k0 ++ ys)) row.toArray e capn hep (fun w' β' mem' hA hm hb hh => ⟨by rw [hll, Int.natCast_add]; exact hle, .inr ⟨w.heap.size, capn, row.toArray, e,
      fun k => if k < k0 then css k else dss (k - k0), hb, hh, by simpa using hrl, by omega, by
        have hA : ∀ b, allow E w β b → allow E w' β' b ∧ w'.heap[b]? = w.heap[b]? := hA
        have := row_get (A := allow E w' β') (w := w') (cs := row) hk0 hx1 (fun k hk => (hx2 k hk).mono hA) hsrc.cl (fun k hk => (hsrc.rep k hk).mono hA)
          (fun k j v hk hj => by
            (have hkx : k < xs.length := by omega); have hj' : j < t.size := by rw [← hx1 k hkx]; exact (List.getElem?_eq_some_iff.1 hj).1
            have hlt : k * t.size + j < olds.length := by
              rw [hol]; have : (k + 1) * t.size ≤ k0 * t.size := Nat.mul_le_mul_right _ (by omega); rw [Nat.add_mul] at this; omega
            rw [← hrow, List.append_assoc, List.getElem?_append_left hlt, holds, cat_get (fun k hk => hx1 k (by omega)) hk hj']
            exact hj)
          (fun i v hi => by
            have hlt : i < (cat dss ys.length).length := (List.getElem?_eq_some_iff.1 hi).1; rw [← hrow, List.append_assoc, List.getElem?_append_right (by omega), ← hol]; simp only [Nat.add_sub_cancel_left]; rw [List.getElem?_append_left hlt]
            exact hi)
        simpa using this⟩⟩)
    refine ⟨_, _, _, hrun, hdrew, ?_⟩; rw [updm_one]; refine .arr id ep0 _ ⟨_, setm_same _ _ _, Nat.le_refl _⟩ rfl fun u zs hm => ?_; rw [setm_same] at hm; simp only [Option.some.injEq, Blk.arr.injEq, true_and] at hm; obtain ⟨rfl, hm⟩ := hm; obtain rfl := eq_of_heq hm; rw [Bind.set_same, hll]; exact ⟨⟨w.heap.size, 0, none⟩, rfl, by omega, fun _ => by simp⟩
  -- a part of what there is, from its beginning
  have part : ∀ {id ep k0 : Nat} {xs : List t.den} {v : Value}, mem id = some (.arr ep t xs) → k0 ≤ xs.length → SliceAt (β id) t.size 0 k0 v → ((k0 : Int) + (ys.length : Int) ≤ 4294967296) →
      Gives P E N env (updm mem [(id, .arr (ep + 1) t (xs.take k0 ++ ys))]) a (Builtin.append_ #[T, T'] ty #[v, x]) w (.arr id (ep + 1)) := by
    intro id ep k0 xs v hm hk0 hv hle; have hll : (xs.take k0 ++ ys).length = k0 + ys.length := by simp; omega
    have hep : ep + 1 ≠ 0 ∧ ∀ k1, mem id = some k1 → k1.ep < ep + 1 := by
      refine ⟨Nat.succ_ne_zero _, ?_⟩; intro k1 hk1; rw [hm] at hk1; obtain rfl := Option.some.inj hk1; exact Nat.lt_succ_self _
    have arrv : ∀ {w' : World} {β' : Bind} {v : Value}, v.oneCell' = true → SliceAt (β' id) t.size 0 (k0 + ys.length) v →
        RepSV (allow E w' β') w' β' (updm mem [(id, .arr (ep + 1) t (xs.take k0 ++ ys))]) (.arr id (ep + 1)) v := by
      intro w' β' v h1 hv; rw [updm_one]; refine .arr id (ep + 1) _ ⟨_, setm_same _ _ _, Nat.le_refl _⟩ h1 fun u zs hm => ?_; rw [setm_same] at hm; simp only [Option.some.injEq, Blk.arr.injEq, true_and] at hm; obtain ⟨rfl, hm⟩ := hm; obtain rfl := eq_of_heq hm; rw [hll]; exact hv
    obtain ⟨hlim, ⟨hb, rfl⟩ | ⟨b, D, cs, el, css, hb, hh, hsz, hD, hel⟩⟩ := h.blk id _ hm
    ·
      rw [hb] at hv; obtain ⟨_, rfl, rfl⟩ := hv; by_cases hy : ys.length = 0
      · have hrun := run_append_in_nil (ty := ty) hu hu' hszr (x := x) (by rw [hsrc.len w, hy]) (by have := hsrc.cells w rfl; rwa [hy] at this)
        have hs : SimB E N env (setm mem id (.arr (ep + 1) t (([] : List t.den).take 0 ++ ys))) a w β := by
          have e : ys = [] := List.length_eq_zero_iff.1 hy; subst e
          have := h.fresh (w' := w) (id := id) (k := .arr (ep + 1) t []) none hep rfl rfl ⟨rfl, Nat.le_refl _⟩ (Nat.le_refl _) (fun _ _ => rfl) (by simp)
            ⟨by simp, .inl ⟨Bind.set_same _ _ _, rfl⟩⟩
          rw [h.set_none hm rfl hb] at this
          exact this
        refine ⟨_, _, _, hrun, hs, arrv rfl ?_⟩; rw [hb, hy]; exact ⟨rfl, rfl, rfl⟩
      · exact grow (k0 := 0) (xs := []) (css := fun _ => []) (olds := []) (by simp) hep (by simp) (by simp) rfl hle (by simp [Builtin.firstCells]) (by omega)
    · rw [hb] at hv; obtain ⟨p, rfl, hle2, hp⟩ := hv; obtain rfl := hp (.inl rfl); simp only [Nat.sub_zero, Nat.zero_mul, Nat.zero_add] at *; by_cases hroom : k0 + ys.length ≤ D
      · have hnl : (cat dss ys.length).length = ys.length * t.size := cat_length hsrc.cl
        have hfit : k0 * t.size + (cat dss ys.length).length ≤ cs.size := by
          rw [hnl, hsz, ← Nat.add_mul]; exact Nat.mul_le_mul_right _ hroom
        have hrun := run_append_in (ty := ty) hu hu' hszr hh (hsrc.len w) (hsrc.cells w rfl) (cat_one hsrc) hroom hfit
        have hs := h.write (w' := w.setRow b (cs.toList.take (k0 * t.size) ++ cat dss ys.length ++ cs.toList.drop (k0 * t.size + (cat dss ys.length).length)).toArray)
          (id := id) (k := .arr (ep + 1) t (xs.take k0 ++ ys)) hm hb (Nat.le_succ _) (by intro e; simp [Blk.ep] at e) rfl rfl rfl ⟨rfl, Nat.le_refl _⟩ (by simp) (fun c hc => setRow_other _ _ _ _ hc)
          ⟨by rw [hll, Int.natCast_add]; exact hle, .inr ⟨b, D, _, el, fun k => if k < k0 then css k else dss (k - k0), hb, setRow_heap _ _ _ _ _ _ hh, by
            simp only [List.size_toArray, List.length_append, List.length_take, List.length_drop, Array.length_toList]
            omega, by omega, by
            have hA : ∀ c, allow E w β c → allow E (w.setRow b (cs.toList.take (k0 * t.size) ++ cat dss ys.length ++ cs.toList.drop (k0 * t.size + (cat dss ys.length).length)).toArray) β c ∧
                (w.setRow b (cs.toList.take (k0 * t.size) ++ cat dss ys.length ++ cs.toList.drop (k0 * t.size + (cat dss ys.length).length)).toArray).heap[c]? = w.heap[c]? := by
              rintro c ⟨c1, c2, c3⟩; exact ⟨⟨by simpa using c1, c2, c3⟩, setRow_other _ _ _ _ (by rintro rfl; exact c3.1 id D hb)⟩
            have htl : (cs.toList.take (k0 * t.size)).length = k0 * t.size := by simp; omega
            have := row_get (cs := cs.toList.take (k0 * t.size) ++ cat dss ys.length ++ cs.toList.drop (k0 * t.size + (cat dss ys.length).length)) hk0
              (fun k hk => (hel k hk).1) (fun k hk => (hel k hk).2.2.mono hA) hsrc.cl (fun k hk => (hsrc.rep k hk).mono hA)
              (fun k j v hk hj => by
                (have hkx : k < xs.length := by omega); have hj' : j < t.size := by rw [← (hel k hkx).1]; exact (List.getElem?_eq_some_iff.1 hj).1
                have hlt : k * t.size + j < k0 * t.size := by
                  have : (k + 1) * t.size ≤ k0 * t.size := Nat.mul_le_mul_right _ (by omega); rw [Nat.add_mul] at this; omega
                rw [List.append_assoc, List.getElem?_append_left (by omega), List.getElem?_take, if_pos hlt]
                simpa using (hel k hkx).2.1 j v hj)
              (fun i v hi => by
                have hlt : i < (cat dss ys.length).length := (List.getElem?_eq_some_iff.1 hi).1; rw [List.append_assoc, List.getElem?_append_right (by omega), htl]; simp only [Nat.add_sub_cancel_left]; rw [List.getElem?_append_left hlt]
                exact hi)
            simpa using this⟩⟩
        refine ⟨_, _, _, hrun, hs, arrv rfl ?_⟩; rw [hb]; exact ⟨⟨b, 0, none⟩, rfl, by omega, fun _ => by simp⟩
      · refine grow (xs := xs) hk0 hep (fun k hk => (hel k hk).1) (fun k hk => (hel k hk).2.2) rfl hle ?_ (by omega); rw [hisz]; refine run_firstCells_some w.drew t.size k0 ⟨b, 0, none⟩ k0 D _ (cat_length (fun k hk => (hel k (by omega)).1)) fun i v hi => ?_; obtain ⟨k, j, hk, hj, rfl, hv⟩ := cat_get' (fun k hk => (hel k (by omega)).1) hi; rw [Addr.add_lit]; have := (hel k (by omega)).2.1 j v hv; show w.cell? _ = _; simp [World.cell?, hh, this]
  -- the cases
  cases hv with
  | nilsl =>
    simp only [appendSV] at hs; obtain ⟨ep, hep, hs⟩ := Rd.bind_some hs; simp only [Rd.eval, Option.some.injEq] at hs; subst hs; have hle := hob _ (List.mem_singleton.2 rfl); have hep' := freshEp_some hep; by_cases hy : ys.length = 0
    · have hrun := run_append_in_nil (ty := ty) hu hu' hszr (x := x) (by rw [hsrc.len w, hy]) (by have := hsrc.cells w rfl; rwa [hy] at this); have e : ys = [] := List.length_eq_zero_iff.1 hy; subst e
      have hs := h.fresh (w' := w) (id := d * 4) (k := .arr ep t []) none hep' rfl rfl ⟨rfl, Nat.le_refl _⟩ (Nat.le_refl _) (fun _ _ => rfl) (by simp)
        ⟨by simp, .inl ⟨Bind.set_same _ _ _, rfl⟩⟩
      refine ⟨_, _, _, hrun, hs, ?_⟩; rw [updm_one]; refine .arr _ ep _ ⟨_, setm_same _ _ _, Nat.le_refl _⟩ rfl fun u zs hm => ?_; rw [setm_same] at hm; simp only [Option.some.injEq, Blk.arr.injEq, true_and] at hm; obtain ⟨rfl, hm⟩ := hm; obtain rfl := eq_of_heq hm; rw [Bind.set_same]; exact ⟨rfl, rfl, rfl⟩
    · have := grow (id := d * 4) (ep0 := ep) (k0 := 0) (xs := []) (base := none) (cap := 0) (css := fun _ => []) (olds := []) (by simp) hep' (by simp) (by simp) rfl (by simpa using hle) (by simp [Builtin.firstCells]) (by omega)
      simpa using this
  | arr id ep v hm h1 hv =>
    simp only [appendSV] at hs; replace hs := Rd.mem_some hs
    cases hmi : mem id with
    | none => rw [hmi] at hs; simp [Rd.eval] at hs
    | some k =>
      rw [hmi] at hs
      cases k with
      | box => simp [Rd.eval] at hs
      | tree => simp [Rd.eval] at hs
      | dead => simp [Rd.eval] at hs
      | arr ep' u xs =>
        simp only at hs; split at hs
        · rename_i e1; subst e1; split at hs
          · rename_i zs hz; obtain ⟨e2, rfl⟩ := TV.to_some hz; (obtain rfl : u = t := by injection e2); simp only [Rd.eval, Option.some.injEq] at hs; subst hs; have := part (k0 := xs.length) hmi (Nat.le_refl _) (hv _ _ hmi) (hob _ (List.mem_singleton.2 rfl))
            rw [List.take_length] at this
            exact this
          · simp [Rd.eval] at hs
        · simp [Rd.eval] at hs
  | sub id ep off len v hm h1 hv =>
    simp only [appendSV] at hs; replace hs := Rd.mem_some hs
    cases hmi : mem id with
    | none => rw [hmi] at hs; simp [Rd.eval] at hs
    | some k =>
      rw [hmi] at hs
      cases k with
      | box => simp [Rd.eval] at hs
      | tree => simp [Rd.eval] at hs
      | dead => simp [Rd.eval] at hs
      | arr ep' u xs =>
        simp only at hs; split at hs
        · rename_i e1; obtain ⟨rfl, rfl⟩ := e1; split at hs
          · rename_i zs hz; obtain ⟨e2, rfl⟩ := TV.to_some hz; (obtain rfl : u = t := by injection e2); simp only [Rd.eval, Option.some.injEq] at hs; subst hs; obtain ⟨k1, k2⟩ := hv _ _ hmi; exact part (k0 := len) hmi (by omega) k2 (hob _ (List.mem_singleton.2 rfl))
          · simp [Rd.eval] at hs
        · simp [Rd.eval] at hs
  | _ => simp [appendSV, Rd.eval] at hs

theorem tree_src (h : SimB E N env mem a w β) {id ep : Nat} {t : Ty} {ys : List t.den} {x : Value} (hm : mem id = some (.tree ep t ys)) (hv : SliceAt (β id) t.size 0 ys.length x) :
    ∃ (dss : Nat → List Value) (T : Nat → Nat → Prop), Src P (fun _ => True) w t ys x dss ∧ (∀ k c, k < ys.length → T k c → β.own c = some id) ∧
      (∀ j k c, j < ys.length → k < ys.length → T j c → T k c → j = k) ∧ ∀ k (hk : k < ys.length), RepO w t ys[k] (dss k) (T k) := by
  obtain ⟨_, ⟨hb, rfl⟩ | ⟨b, D, cs, el, css, T, hb, hh, hsz, hD, hT1, hT2, hel⟩⟩ := h.blk id _ hm
  · rw [hb] at hv; obtain ⟨_, _, rfl⟩ := hv; exact ⟨_, fun _ _ => False, Src.of_nil t, by simp, by simp, by simp⟩
  · rw [hb] at hv; obtain ⟨p, rfl, hle2, hp⟩ := hv; obtain rfl := hp (.inl rfl); refine ⟨css, T, Src.of_cells (fun _ => rfl) (fun k hk => (hel k hk).1) (fun i j v hi hj => ?_) (fun k hk => (hel k hk).2.2.repC fun _ _ => trivial), hT1, hT2, fun k hk => (hel k hk).2.2⟩; have := (hel i hi).2.1 j v hj; simp [World.cell?, hh, this]

theorem row_getO {t : Ty} {xs ys : List t.den} {cs : List Value} {css dss : Nat → List Value} {Tx Ty : Nat → Nat → Prop}
    (hx : ∀ k, k < xs.length → (css k).length = t.size) (hxr : ∀ k (h : k < xs.length), RepO w t xs[k] (css k) (Tx k))
    (hy : ∀ k, k < ys.length → (dss k).length = t.size) (hyr : ∀ k (h : k < ys.length), RepO w t ys[k] (dss k) (Ty k))
    (h1 : ∀ k j v, k < xs.length → (css k)[j]? = some v → cs[k * t.size + j]? = some v)
    (h2 : ∀ i v, (cat dss ys.length)[i]? = some v → cs[xs.length * t.size + i]? = some v) :
    ∀ k (hk : k < (xs ++ ys).length), (if k < xs.length then css k else dss (k - xs.length)).length = t.size ∧
      (∀ (j : Nat) (v : Value), (if k < xs.length then css k else dss (k - xs.length))[j]? = some v → cs[k * t.size + j]? = some v) ∧
      RepO w t (xs ++ ys)[k] (if k < xs.length then css k else dss (k - xs.length)) (if k < xs.length then Tx k else Ty (k - xs.length)) := by
  intro k hk; by_cases hlt : k < xs.length
  · simp only [if_pos hlt]; refine ⟨hx k (by omega), fun j v hj => h1 k j v hlt hj, ?_⟩; have := hxr k (by omega); rw [show (xs ++ ys)[k] = xs[k]'(by omega) by rw [List.getElem_append_left (by omega)]]
    exact this
  · simp only [if_neg hlt]; (have hky : k - xs.length < ys.length := by simp at hk; omega); refine ⟨hy _ hky, fun j v hj => ?_, ?_⟩
    · (have hj' : j < t.size := by rw [← hy _ hky]; exact (List.getElem?_eq_some_iff.1 hj).1); have := h2 ((k - xs.length) * t.size + j) v (by rw [cat_get hy hky hj']; exact hj)
      rw [← Nat.add_assoc, ← Nat.add_mul] at this
      rwa [show xs.length + (k - xs.length) = k by omega] at this
    · have := hyr _ hky; rw [show (xs ++ ys)[k] = ys[k - xs.length]'hky by rw [List.getElem_append_right (by omega)]]
      exact this

theorem tr_rep {A : Nat → Prop} {w' : World} {β' : Bind} {mem' : Nat → Option Blk} {id ep : Nat} {t : Ty} {xs : List t.den} {v : Value} (h1 : v.oneCell' = true) (hv : SliceAt (β' id) t.size 0 xs.length v) :
    RepSV A w' β' (setm mem' id (.tree ep t xs)) (.tr id ep) v := by
  refine .tr id ep _ ⟨_, setm_same _ _ _, Nat.le_refl _⟩ h1 fun u zs hm => ?_; rw [setm_same] at hm; simp only [Option.some.injEq, Blk.tree.injEq, true_and] at hm; obtain ⟨rfl, hm⟩ := hm; obtain rfl := eq_of_heq hm; exact hv

theorem appendTr_gives (h : SimB E N env mem a w β) {T T' ty : Nat} {t : Ty} (hty : CtxTy P C) (hT : C.ty T = some (.slice t)) (hT' : C.ty T' = some (.slice t)) {sv sy : SV} {v x : Value} {r : Res}
    (hv : RepSV (allow E w β) w β mem sv v) (hx : RepSV (allow E w β) w β mem sy x) (hs : (appendTr t sv sy).eval mem = some r) (hob : ∀ p ∈ r.ob, p) :
    Gives P E N env (updm mem r.memw) a (Builtin.append_ #[T, T'] ty #[v, x]) w r.val := by
  obtain ⟨e, hu, he⟩ := (hty T _ hT).und; obtain ⟨e', hu', _⟩ := (hty T' _ hT').und; have hte := hty e t he; obtain ⟨i, z, hi, hisz, _, hby, hz, hzr⟩ := hte.info; have hszr := hte.size w
  cases hv with
  | tr id ep v hm h1 hv =>
    cases hx with
    | tr jd jp x hm2 h12 hx =>
      simp only [appendTr] at hs; replace hs := Rd.mem_some hs; replace hs := Rd.mem_some hs
      cases hmi : mem id with
      | none => rw [hmi] at hs; simp [Rd.eval] at hs
      | some k =>
      cases hmj : mem jd with
      | none => rw [hmi, hmj] at hs; cases k <;> simp [Rd.eval] at hs
      | some k2 =>
      rw [hmi, hmj] at hs
      cases k with
      | box => simp [Rd.eval] at hs
      | arr => simp [Rd.eval] at hs
      | dead => simp [Rd.eval] at hs
      | tree ep' u xs =>
      cases k2 with
      | box => simp [Rd.eval] at hs
      | arr => simp [Rd.eval] at hs
      | dead => simp [Rd.eval] at hs
      | tree jp' u' ys =>
      simp only at hs; split at hs
      case isFalse => simp [Rd.eval] at hs
      rename_i he3; obtain ⟨rfl, rfl, hne⟩ := he3; split at hs
      case h_2 => simp [Rd.eval] at hs
      rename_i zs zs' hz1 hz2; obtain ⟨e2, rfl⟩ := TV.to_some hz1; (obtain rfl : u = t := by injection e2); obtain ⟨e3, rfl⟩ := TV.to_some hz2; (obtain rfl : u' = u := by injection e3); simp only [Rd.eval, Option.some.injEq] at hs; subst hs; have hle : (xs.length : Int) + (ys.length : Int) ≤ 4294967296 := hob _ (List.mem_singleton.2 rfl); obtain ⟨dss, Ty, hsrc, hTy1, hTy2, hyO⟩ := tree_src (P := P) h hmj (hx _ _ hmj); have hv := hv _ _ hmi
      have hks : (killed [jd]).eval mem = some [(jd, .dead (jp' + 1))] := by
        simp only [killed, Rd.eval, hmj, Rd.eval_bind, Option.bind_some]
      have hep2 : ∀ {xs' : List u'.den} {bc : Option (Nat × Nat)}, ∀ k0, mem id = some k0 → k0.ep < (Blk.tree (ep' + 1) u' xs').ep ∨ (k0.alike (.tree (ep' + 1) u' xs') ∧ k0.ep = (Blk.tree (ep' + 1) u' xs').ep ∧ bc = β id) := by
        intro xs' bc k0 hk0; rw [hmi] at hk0; obtain rfl := Option.some.inj hk0; exact .inl (Nat.lt_succ_self _)
      have hmemw : updm mem [(jd, .dead (jp' + 1)), (id, .tree (ep' + 1) u' (xs ++ ys))] = setm (updm mem [(jd, .dead (jp' + 1))]) id (.tree (ep' + 1) u' (xs ++ ys)) := rfl; have hmvd : ∀ b, Moved β [jd] b ↔ Held β jd b := fun b => ⟨fun ⟨i, hi, hb⟩ => by rw [List.mem_singleton] at hi; rwa [hi] at hb, fun hb => ⟨jd, by simp, hb⟩⟩; have hnl : (cat dss ys.length).length = ys.length * u'.size := cat_length hsrc.cl; have hll : (xs ++ ys).length = xs.length + ys.length := by simp
      have hown : ∀ {bc : Option (Nat × Nat)} {Tx : Nat → Nat → Prop}, (∀ k c, k < xs.length → Tx k c → β.own c = some id) → ∀ k c, k < (xs ++ ys).length → (if k < xs.length then Tx k else Ty (k - xs.length)) c → (β.take [jd] id bc).own c = some id := by
        intro bc Tx hTx k c hk hc; by_cases hlt : k < xs.length
        · rw [if_pos hlt] at hc; have := hTx k c hlt hc; rw [Bind.take_own_ne (fun hmc => ?_)]
          · exact this
          · have := Held.inj h ((hmvd c).1 hmc) (.inr this); exact hne this.symm
        · rw [if_neg hlt] at hc; exact Bind.take_own ((hmvd c).2 (.inr (hTy1 _ c (by rw [hll] at hk; omega) hc)))
      have hdis : ∀ {Tx : Nat → Nat → Prop}, (∀ k c, k < xs.length → Tx k c → β.own c = some id) → (∀ j k c, j < xs.length → k < xs.length → Tx j c → Tx k c → j = k) →
          ∀ j k c, j < (xs ++ ys).length → k < (xs ++ ys).length → (if j < xs.length then Tx j else Ty (j - xs.length)) c → (if k < xs.length then Tx k else Ty (k - xs.length)) c → j = k := by
        intro Tx hTx1 hTx2 j k c hj hk h1 h2; rw [hll] at hj hk; by_cases hjl : j < xs.length <;> by_cases hkl : k < xs.length
        · rw [if_pos hjl] at h1; rw [if_pos hkl] at h2; exact hTx2 j k c hjl hkl h1 h2
        · rw [if_pos hjl] at h1; rw [if_neg hkl] at h2; have e1 := hTx1 j c hjl h1; have e2 := hTy1 _ c (by omega) h2; rw [e1] at e2; exact absurd (Option.some.inj e2) hne
        · rw [if_neg hjl] at h1; rw [if_pos hkl] at h2; have e1 := hTx1 k c hkl h2; have e2 := hTy1 _ c (by omega) h1; rw [e1] at e2; exact absurd (Option.some.inj e2) hne
        · rw [if_neg hjl] at h1; rw [if_neg hkl] at h2; have := hTy2 _ _ c (by omega) (by omega) h1 h2; omega
      have heap : ∀ {w' : World} {Tx : Nat → Nat → Prop}, (∀ k c, k < xs.length → Tx k c → β.own c = some id) → (∀ b, Moved β [jd] b ∨ β.own b = some id → w'.heap[b]? = w.heap[b]?) →
          (∀ k c, k < xs.length → Tx k c → w'.heap[c]? = w.heap[c]?) ∧ ∀ k c, k < ys.length → Ty k c → w'.heap[c]? = w.heap[c]? :=
        fun hTx hh => ⟨fun k c hk hc => hh c (.inr (hTx k c hk hc)), fun k c hk hc => hh c (.inl ((hmvd c).2 (.inr (hTy1 k c hk hc))))⟩
      -- the call grows: a new block
      have grow : ∀ {base : Option Addr} {cap : Nat} {css : Nat → List Value} {olds : List Value} {Tx : Nat → Nat → Prop}, (∀ k c, k < xs.length → Tx k c → β.own c = some id) →
          (∀ j k c, j < xs.length → k < xs.length → Tx j c → Tx k c → j = k) →
          (∀ k, k < xs.length → (css k).length = u'.size) → (∀ k (h : k < xs.length), RepO w u' xs[k] (css k) (Tx k)) →
          olds = cat css xs.length → (Builtin.firstCells i.size xs.length (.slice base xs.length cap)).run P w.drew = .ok olds.toArray w.drew → cap < xs.length + ys.length →
          Gives P E N env (updm mem [(jd, .dead (jp' + 1)), (id, .tree (ep' + 1) u' (xs ++ ys))]) a (Builtin.append_ #[T, T'] ty #[.slice base xs.length cap, x]) w (.tr id (ep' + 1)) := by
        intro base cap css olds Tx hTx1 hTx2 hx1 hx2 holds ho hcap
        have hb : Builtin.nextslicecap (xs.length + ys.length) cap * i.bytes ≤ 281474976710656 := growslice_fits hcap (by
          have : (xs.length + ys.length) * i.bytes ≤ 4294967296 * 4096 := Nat.mul_le_mul (by omega) hby
          omega)
        have hrun := run_append_up (ty := ty) hu hu' hi hz (hsrc.len w) ho (by rw [hisz]; exact hsrc.cells _ rfl) hcap (by omega) hb; generalize hcapn : grownCap w (xs.length + ys.length) cap e = capn at hrun; (have hcapn' : xs.length + ys.length ≤ capn := by rw [← hcapn]; exact grownCap_le w e (by omega)); have hzsz : z.cells.size = u'.size := (hzr (allow E w β) w).cells.2; (have hol : olds.length = xs.length * u'.size := by rw [holds]; exact cat_length (fun k hk => hx1 k (by omega))); generalize hrow : olds ++ cat dss ys.length ++ (Builtin.zeroCells z.cells (capn - (xs.length + ys.length))).toList = row at hrun
        have hrl : row.length = capn * u'.size := by
          rw [← hrow]; simp only [List.length_append, hol, hnl, Array.length_toList, size_zeroCells, hzsz]; rw [← Nat.add_mul, ← Nat.add_mul]; congr 1; omega
        have hsz1 : (w.drew.alloc (.cells row.toArray e)).heap.size = w.heap.size + 1 := by show (w.heap.push _).size = _; simp
        have hget : ∀ b, b < w.heap.size → (w.drew.alloc (.cells row.toArray e)).heap[b]? = w.heap[b]? := fun b hb => by
          show (w.heap.push _)[b]? = _; rw [Array.getElem?_push, if_neg (by omega)]
        have hnew : (w.drew.alloc (.cells row.toArray e)).heap[w.heap.size]? = some (.cells row.toArray e (0, 0)) := by show (w.heap.push _)[w.heap.size]? = _; simp
        have ht := h.take (w' := w.drew.alloc (.cells row.toArray e)) (ids := [jd]) (id := id) (k := .tree (ep' + 1) u' (xs ++ ys)) (bc := some (w.heap.size, capn)) rfl hks (by simp [hne]) rfl
          hep2 rfl rfl ⟨rfl, U.dr_mono _ _ (Nat.le_succ _)⟩ (by rw [hsz1]; omega) (fun b C e => by
            simp only [Option.some.injEq, Prod.mk.injEq] at e; obtain ⟨rfl, rfl⟩ := e
            exact ⟨by rw [hsz1]; omega, .inl (Nat.le_refl _)⟩) (fun b hb _ => hget b hb)
          (fun hO => ⟨by rw [hll, Int.natCast_add]; exact hle, .inr ⟨w.heap.size, capn, row.toArray, e, _, _, Bind.take_same _ _ _ _, hnew, by simpa using hrl, by omega, hown hTx1, hdis hTx1 hTx2, by
            obtain ⟨hO1, hO2⟩ := heap hTx1 hO
            have := row_getO (w := w.drew.alloc (.cells row.toArray e)) (cs := row) hx1 (fun k hk => (hx2 k hk).mono fun c hc => ⟨hc, hO1 k c hk hc⟩) hsrc.cl (fun k hk => (hyO k hk).mono fun c hc => ⟨hc, hO2 k c hk hc⟩)
              (fun k j v hk hj => by
                have hj' : j < u'.size := by rw [← hx1 k hk]; exact (List.getElem?_eq_some_iff.1 hj).1
                have hlt : k * u'.size + j < olds.length := by
                  rw [hol]; have : (k + 1) * u'.size ≤ xs.length * u'.size := Nat.mul_le_mul_right _ (by omega); rw [Nat.add_mul] at this; omega
                rw [← hrow, List.append_assoc, List.getElem?_append_left hlt, holds, cat_get (fun k hk => hx1 k (by omega)) hk hj']
                exact hj)
              (fun i v hi => by
                have hlt : i < (cat dss ys.length).length := (List.getElem?_eq_some_iff.1 hi).1; rw [← hrow, List.append_assoc, List.getElem?_append_right (by omega), ← hol]; simp only [Nat.add_sub_cancel_left]; rw [List.getElem?_append_left hlt]
                exact hi)
            simpa using this⟩⟩)
        refine ⟨_, _, _, hrun, by rw [hmemw]; exact ht.1, ?_⟩; rw [hmemw]; refine tr_rep rfl ?_; rw [Bind.take_same, hll]; exact ⟨⟨w.heap.size, 0, none⟩, rfl, by omega, fun _ => by simp⟩
      obtain ⟨hlim, ⟨hb, rfl⟩ | ⟨b, D, cs, el, css, Tx, hb, hh, hsz, hD, hTx1, hTx2, hel⟩⟩ := h.blk id _ hmi
      · rw [hb] at hv; obtain ⟨_, _, rfl⟩ := hv; by_cases hy : ys.length = 0
        · have hrun := run_append_in_nil (ty := ty) hu hu' hszr (x := x) (by rw [hsrc.len w, hy]) (by have := hsrc.cells w rfl; rwa [hy] at this); have e4 : ys = [] := List.length_eq_zero_iff.1 hy; subst e4
          have ht := h.take (w' := w) (ids := [jd]) (id := id) (k := .tree (ep' + 1) u' (([] : List u'.den) ++ [])) (bc := none) rfl hks (by simp [hne]) rfl
            hep2 rfl rfl ⟨rfl, Nat.le_refl _⟩ (Nat.le_refl _) (fun b C e => by cases e) (fun b hb _ => rfl) (fun _ => ⟨by simp, .inl ⟨Bind.take_same _ _ _ _, rfl⟩⟩)
          refine ⟨_, _, _, hrun, by rw [hmemw]; exact ht.1, ?_⟩; rw [hmemw]; refine tr_rep rfl ?_; rw [Bind.take_same]; exact ⟨rfl, rfl, rfl⟩
        · exact grow (css := fun _ => []) (olds := []) (Tx := fun _ _ => False) (by simp) (by simp) (by simp) (by simp) rfl (by simp [Builtin.firstCells]) (by simp; omega)
      · rw [hb] at hv; obtain ⟨p, rfl, hle2, hp⟩ := hv; obtain rfl := hp (.inl rfl); simp only [Nat.sub_zero, Nat.zero_mul, Nat.zero_add] at *; by_cases hroom : xs.length + ys.length ≤ D
        · have hfit : xs.length * u'.size + (cat dss ys.length).length ≤ cs.size := by
            rw [hnl, hsz, ← Nat.add_mul]; exact Nat.mul_le_mul_right _ hroom
          have hone : ∀ u ∈ cat dss ys.length, u.oneCell' = true := cat_one hsrc; have hrun := run_append_in (ty := ty) hu hu' hszr hh (hsrc.len w) (hsrc.cells w rfl) hone hroom hfit; generalize hw' : w.setRow b (cs.toList.take (xs.length * u'.size) ++ cat dss ys.length ++ cs.toList.drop (xs.length * u'.size + (cat dss ys.length).length)).toArray = w' at hrun; (have hoth : ∀ c, c ≠ b → w'.heap[c]? = w.heap[c]? := fun c hc => by rw [← hw']; exact setRow_other _ _ _ _ hc); have hsz2 : w'.heap.size = w.heap.size := by rw [← hw']; simp
          have hnew : w'.heap[b]? = some (.cells (cs.toList.take (xs.length * u'.size) ++ cat dss ys.length ++ cs.toList.drop (xs.length * u'.size + (cat dss ys.length).length)).toArray el (0, 0)) := by
            rw [← hw']; exact setRow_heap _ _ _ _ _ _ hh
          have ht := h.take (w' := w') (ids := [jd]) (id := id) (k := .tree (ep' + 1) u' (xs ++ ys)) (bc := some (b, D)) rfl hks (by simp [hne]) rfl
            hep2 (by rw [← hw']; rfl) (by rw [← hw']; rfl) (by rw [← hw']; exact ⟨rfl, Nat.le_refl _⟩) (by rw [hsz2]; exact Nat.le_refl _) (fun c C e => by
              simp only [Option.some.injEq, Prod.mk.injEq] at e; obtain ⟨rfl, rfl⟩ := e
              exact ⟨by rw [hsz2]; exact (h.dom id _ _ hb).2.1, .inr ⟨_, ⟨_, hmi, rfl⟩, hb⟩⟩) (fun c hc hne => hoth c (fun e => hne D (by rw [e])))
            (fun hO => ⟨by rw [hll, Int.natCast_add]; exact hle, .inr ⟨b, D, _, el, _, _, Bind.take_same _ _ _ _, hnew, by
              simp only [List.size_toArray, List.length_append, List.length_take, List.length_drop, Array.length_toList]
              omega, by omega, hown hTx1, hdis hTx1 hTx2, by
              obtain ⟨hO1, hO2⟩ := heap hTx1 hO; have htl : (cs.toList.take (xs.length * u'.size)).length = xs.length * u'.size := by simp; omega
              have := row_getO (w := w') (cs := cs.toList.take (xs.length * u'.size) ++ cat dss ys.length ++ cs.toList.drop (xs.length * u'.size + (cat dss ys.length).length))
                (fun k hk => (hel k hk).1) (fun k hk => (hel k hk).2.2.mono fun c hc => ⟨hc, hO1 k c hk hc⟩) hsrc.cl (fun k hk => (hyO k hk).mono fun c hc => ⟨hc, hO2 k c hk hc⟩)
                (fun k j v hk hj => by
                  have hj' : j < u'.size := by rw [← (hel k hk).1]; exact (List.getElem?_eq_some_iff.1 hj).1
                  have hlt : k * u'.size + j < xs.length * u'.size := by
                    have : (k + 1) * u'.size ≤ xs.length * u'.size := Nat.mul_le_mul_right _ (by omega); rw [Nat.add_mul] at this; omega
                  rw [List.append_assoc, List.getElem?_append_left (by omega), List.getElem?_take, if_pos hlt]
                  simpa using (hel k hk).2.1 j v hj)
                (fun i v hi => by
                  have hlt : i < (cat dss ys.length).length := (List.getElem?_eq_some_iff.1 hi).1; rw [List.append_assoc, List.getElem?_append_right (by omega), htl]; simp only [Nat.add_sub_cancel_left]; rw [List.getElem?_append_left hlt]
                  exact hi)
              simpa using this⟩⟩)
          refine ⟨_, _, _, hrun, by rw [hmemw]; exact ht.1, ?_⟩; rw [hmemw]; refine tr_rep rfl ?_; rw [Bind.take_same, hll]; exact ⟨⟨b, 0, none⟩, rfl, by omega, fun _ => by simp⟩
        · refine grow hTx1 hTx2 (fun k hk => (hel k hk).1) (fun k hk => (hel k hk).2.2) rfl ?_ (by omega); rw [hisz]; refine run_firstCells_some w.drew u'.size xs.length ⟨b, 0, none⟩ xs.length D _ (cat_length (fun k hk => (hel k (by omega)).1)) fun i v hi => ?_; obtain ⟨k, j, hk, hj, rfl, hv⟩ := cat_get' (fun k hk => (hel k (by omega)).1) hi; rw [Addr.add_lit]; have := (hel k (by omega)).2.1 j v hv; show w.cell? _ = _; simp [World.cell?, hh, this]
    | _ => simp [appendTr, Rd.eval] at hs
  | _ => simp [appendTr, Rd.eval] at hs

end
end Go.Am
