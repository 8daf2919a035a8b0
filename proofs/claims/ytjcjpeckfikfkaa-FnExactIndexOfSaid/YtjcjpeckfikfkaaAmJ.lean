/-
  Am, part J: literals, make, stores.
-/
import Derived.Test.YtjcjpeckfikfkaaAmH
import Derived.Lib.AppendZerosOnto
set_option linter.all false
namespace Go.Am
variable [U : Univ]

omit U in
theorem run_append_in {P : Program} {w : World} {T T' ty e e' : TypeId} {size : Nat} (ht : P.underlying T = some (.slice e)) (ht' : P.underlying T' = some (.slice e'))
    (hsz : (sizeOf e).run P w = .ok size w)
    {g sLen sCap el n : Nat} {cur : Array Value} (hg : w.heap[g]? = some (.cells cur el (0, 0))) {x : Value} {news : List Value}
    (hlen : (Builtin.lenOf x).run P w = .ok n w) (hf : (Builtin.firstCells size n x).run P w = .ok news.toArray w) (h1 : ∀ u ∈ news, u.oneCell' = true)
    (hroom : sLen + n ≤ sCap) (hfit : sLen * size + news.length ≤ cur.size) :
    (Builtin.append_ #[T, T'] ty #[.slice (some ⟨g, 0, none⟩) sLen sCap, x]).run P w =
      .ok (.slice (some ⟨g, 0, none⟩) (sLen + n) sCap) (w.setRow g (cur.toList.take (sLen * size) ++ news ++ cur.toList.drop (sLen * size + news.length)).toArray) := by
  have hst := run_storeCells_at P g (sLen * size) el news 0 cur w hg (by simpa using hfit) h1; simp only [Nat.add_zero] at hst; simp [Builtin.append_, run_underlying ht, run_underlying ht', hsz, hlen, hroom, hf, Addr.add_lit, hst]

omit U in
theorem run_append_in_nil {P : Program} {w : World} {T T' ty e e' : TypeId} {size : Nat} (ht : P.underlying T = some (.slice e)) (ht' : P.underlying T' = some (.slice e'))
    (hsz : (sizeOf e).run P w = .ok size w) {x : Value} {news : Array Value}
    (hlen : (Builtin.lenOf x).run P w = .ok 0 w) (hf : (Builtin.firstCells size 0 x).run P w = .ok news w) :
    (Builtin.append_ #[T, T'] ty #[.slice none 0 0, x]).run P w = .ok (.slice none 0 0) w := by
  simp [Builtin.append_, run_underlying ht, run_underlying ht', hsz, hlen, hf]

omit U in
theorem run_append_up {P : Program} {w : World} {T T' ty e e' : TypeId} {i : TypeInfo} {z : Value} (ht : P.underlying T = some (.slice e)) (ht' : P.underlying T' = some (.slice e'))
    (hi : P.info? e = some i) (hzero : i.zero = some z)
    {base : Option Addr} {sLen sCap n : Nat} {x : Value} {olds news : List Value}
    (hlen : (Builtin.lenOf x).run P w = .ok n w) (ho : (Builtin.firstCells i.size sLen (.slice base sLen sCap)).run P w.drew = .ok olds.toArray w.drew)
    (hf : (Builtin.firstCells i.size n x).run P w.drew = .ok news.toArray w.drew)
    (hg : sCap < sLen + n) (h63 : ((sLen + n : Nat) : Int) ≤ 9223372036854775807) (hfit : Builtin.nextslicecap (sLen + n) sCap * i.bytes ≤ 281474976710656) :
    (Builtin.append_ #[T, T'] ty #[.slice base sLen sCap, x]).run P w =
      .ok (.slice (some ⟨w.heap.size, 0, none⟩) (sLen + n) (grownCap w (sLen + n) sCap e))
        (w.drew.alloc (.cells (olds ++ news ++ (Builtin.zeroCells z.cells (grownCap w (sLen + n) sCap e - (sLen + n))).toList).toArray e)) := by
  (have hn : ¬ (sLen + n ≤ sCap) := by omega); (have h63' : ¬ (9223372036854775807 < ((sLen : Int) + (n : Int))) := by omega); (have h48' : ¬ (281474976710656 < Builtin.nextslicecap (sLen + n) sCap * i.bytes) := by omega); (have hszr : (sizeOf e).run P w = .ok i.size w := by simp [sizeOf, typeInfo, hi]); (have hti : ∀ w, (typeInfo e).run P w = .ok i w := fun w => by simp [typeInfo, hi]); (have hzv : ∀ w, (zeroValue e).run P w = .ok z w := fun w => by simp [zeroValue, typeInfo, hi, hzero]); have hdr : ({ w with drawn := w.drawn + 1 } : World) = w.drew := rfl
  simp only [Builtin.append_, Sem.run_bind, run_underlying ht, run_underlying ht', hszr, hlen, hn, Result.andThen_ok, Sem.run_pure, if_false, Bool.false_eq_true, hti, run_choose, Question.forced,
    h48', hdr, run_askRoom, ho, hf, hzv, run_newRow, Sem.run_ite, false_or, IntKind.max_i64, Bool.not_false, if_true, List.getElem?_toArray, List.getElem?_cons_zero, List.getElem?_cons_succ, gt_iff_lt, Int.natCast_add]
  simp only [h63', false_and, if_false, h48', hdr, ho, hf, hzv, run_newRow, Question.forced, grownCap, Result.andThen_ok, Sem.run_bind, Sem.run_ite, run_choose, Bool.false_eq_true, gt_iff_lt, Int.natCast_add, Sem.run_pure, run_askRoom]; congr 3; apply Array.ext'; simp

section
variable {E : Ent} {N : Nat} {env : Nat → SV} {mem : Nat → Option Blk} {a : Act} {w : World} {β : Bind} {P : Program} {C : Ctx}

theorem SimB.drew (h : SimB E N env mem a w β) : SimB E N env mem a w.drew β where
  defers := h.defers.mono (A := allow E w β) (A' := allow E w.drew β) (w := w) (w' := w.drew) fun b hb => ⟨hb, rfl⟩
  size := h.size
  hN := h.hN
  os := h.os
  tape := h.tape
  output := ⟨h.output.1, Nat.le_trans h.output.2 (U.dr_mono _ _ (Nat.le_succ _))⟩
  grow := h.grow
  old := h.old
  dom := h.dom
  inj := h.inj
  own := h.own
  par := h.par
  blk := fun i k hk => RepBlk.mono (A := allow E w β) (w := w) (A' := allow E w.drew β) (w' := w.drew) (fun b hb => ⟨hb, rfl⟩) (fun i k hk => ⟨k, hk, Nat.le_refl _, fun _ => ⟨k.alike_refl, rfl⟩⟩) rfl (fun _ _ _ => rfl) (fun _ _ h => ⟨h, rfl⟩) (h.blk i k hk)
  slot := fun s => RepSV.mono (A := allow E w β) (w := w) (A' := allow E w.drew β) (w' := w.drew) (fun b hb => ⟨hb, rfl⟩) (fun i k hk => ⟨k, hk, Nat.le_refl _, fun _ => ⟨k.alike_refl, rfl⟩⟩) (h.slot s)

theorem cat_one {A : Nat → Prop} {t : Ty} {ys : List t.den} {x : Value} {css : Nat → List Value} (h : Src P A w t ys x css) : ∀ u ∈ cat css ys.length, u.oneCell' = true := by
  intro u hu; simp only [cat, List.mem_flatMap, List.mem_range] at hu; obtain ⟨k, hk, hu⟩ := hu; exact (h.rep k hk).one u hu

omit U in
theorem grownCap_le (w : World) {need old : Nat} (e : TypeId) (h : need < 2 ^ 63) : need ≤ grownCap w need old e := by
  simp only [grownCap, Question.cut]; omega

theorem row_get {t : Ty} {A : Nat → Prop} {xs ys : List t.den} {cs : List Value} {css dss : Nat → List Value} {k0 : Nat} (hk0 : k0 ≤ xs.length)
    (hx : ∀ k, k < xs.length → (css k).length = t.size) (hxr : ∀ k (h : k < xs.length), RepC A w t xs[k] (css k))
    (hy : ∀ k, k < ys.length → (dss k).length = t.size) (hyr : ∀ k (h : k < ys.length), RepC A w t ys[k] (dss k))
    (h1 : ∀ k j v, k < k0 → (css k)[j]? = some v → cs[k * t.size + j]? = some v)
    (h2 : ∀ i v, (cat dss ys.length)[i]? = some v → cs[k0 * t.size + i]? = some v) :
    ∀ k (hk : k < (xs.take k0 ++ ys).length), (if k < k0 then css k else dss (k - k0)).length = t.size ∧
      (∀ (j : Nat) (v : Value), (if k < k0 then css k else dss (k - k0))[j]? = some v → cs[k * t.size + j]? = some v) ∧
      RepC A w t (xs.take k0 ++ ys)[k] (if k < k0 then css k else dss (k - k0)) := by
  intro k hk; (have hl : (xs.take k0).length = k0 := by simp; omega); by_cases hlt : k < k0
  · simp only [if_pos hlt]; refine ⟨hx k (by omega), fun j v hj => h1 k j v hlt hj, ?_⟩; have := hxr k (by omega); rw [show (xs.take k0 ++ ys)[k] = xs[k]'(by omega) by rw [List.getElem_append_left (by omega), List.getElem_take]]
    exact this
  · simp only [if_neg hlt]; (have hky : k - k0 < ys.length := by simp [hl] at hk; omega); refine ⟨hy _ hky, fun j v hj => ?_, ?_⟩
    · (have hj' : j < t.size := by rw [← hy _ hky]; exact (List.getElem?_eq_some_iff.1 hj).1); have := h2 ((k - k0) * t.size + j) v (by rw [cat_get hy hky hj']; exact hj)
      rw [← Nat.add_assoc, ← Nat.add_mul] at this
      rwa [show k0 + (k - k0) = k by omega] at this
    · have := hyr _ hky
      rw [show (xs.take k0 ++ ys)[k] = ys[k - k0]'hky by
        rw [List.getElem_append_right (by omega)]
        congr 1; omega]
      exact this

theorem append_gives (h : SimB E N env mem a w β) {T T' ty d : Nat} {t : Ty} (hty : CtxTy P C) (hT : C.ty T = some (.slice t)) (hT' : C.ty T' = some (.slice t)) {sv sy : SV} {v x : Value} {ys : List t.den} {r : Res}
    (hv : RepSV (allow E w β) w β mem sv v) (hx : RepSV (allow E w β) w β mem sy x) (hl : (listOf t sy).eval mem = some ys) (hs : (appendSV d t sv ys).eval mem = some r) (hob : ∀ p ∈ r.ob, p) :
    Gives P E N env (updm mem r.memw) a (Builtin.append_ #[T, T'] ty #[v, x]) w r.val := by
  obtain ⟨dss, hsrc⟩ := listOf_src (P := P) h hx hl; obtain ⟨e, hu, he⟩ := (hty T _ hT).und; obtain ⟨e', hu', _⟩ := (hty T' _ hT').und; have hte := hty e t he; obtain ⟨i, z, hi, hisz, _, hby, hz, hzr⟩ := hte.info; have hszr := hte.size w
  -- the call grows: a new block
  have grow : ∀ {id ep0 : Nat} {xs : List t.den} {k0 : Nat} {base : Option Addr} {cap : Nat} {css : Nat → List Value} {olds : List Value}, k0 ≤ xs.length →
      (ep0 ≠ 0 ∧ ∀ k1, mem id = some k1 → k1.ep < ep0) →
      (∀ k, k < xs.length → (css k).length = t.size) → (∀ k (h : k < xs.length), RepC (allow E w β) w t xs[k] (css k)) →
      olds = cat css k0 → ((k0 : Int) + (ys.length : Int) ≤ 4294967296) →
      (Builtin.firstCells i.size k0 (.slice base k0 cap)).run P w.drew = .ok olds.toArray w.drew → cap < k0 + ys.length →
      Gives P E N env (updm mem [(id, .arr ep0 t (xs.take k0 ++ ys))]) a (Builtin.append_ #[T, T'] ty #[.slice base k0 cap, x]) w (.arr id ep0) := by
    intro id ep0 xs k0 base cap css olds hk0 hep hx1 hx2 holds hle ho hcap
    have hb : Builtin.nextslicecap (k0 + ys.length) cap * i.bytes ≤ 281474976710656 := growslice_fits hcap (by
      have : (k0 + ys.length) * i.bytes ≤ 4294967296 * 4096 := Nat.mul_le_mul (by omega) hby
      omega)
    have hrun := run_append_up (ty := ty) hu hu' hi hz (hsrc.len w) ho (by rw [hisz]; exact hsrc.cells _ rfl) hcap (by omega) hb; generalize hcapn : grownCap w (k0 + ys.length) cap e = capn at hrun; (have hcapn' : k0 + ys.length ≤ capn := by rw [← hcapn]; exact grownCap_le w e (by omega)); have hzsz : z.cells.size = t.size := (hzr (allow E w β) w).cells.2; (have hol : olds.length = k0 * t.size := by rw [holds]; exact cat_length (fun k hk => hx1 k (by omega))); have hnl : (cat dss ys.length).length = ys.length * t.size := cat_length hsrc.cl; (have hll : (xs.take k0 ++ ys).length = k0 + ys.length := by simp; omega); generalize hrow : olds ++ cat dss ys.length ++ (Builtin.zeroCells z.cells (capn - (k0 + ys.length))).toList = row at hrun
    have hrl : row.length = capn * t.size := by
      rw [← hrow]; simp only [List.length_append, hol, hnl, Array.length_toList, size_zeroCells, hzsz]; rw [← Nat.add_mul, ← Nat.add_mul]; congr 1; omega
    have hdrew := h.drew.alloc (k := .arr ep0 t (xs.take k0 ++ ys)) row.toArray e capn hep (fun w' β' mem' hA hm hb hh => ⟨by rw [hll, Int.natCast_add]; exact hle, .inr ⟨w.heap.size, capn, row.toArray, e,
      fun k => if k < k0 then css k else dss (k - k0), hb, hh, by simpa using hrl, by omega, by
        have hA : ∀ b, allow E w β b → allow E w' β' b ∧ w'.heap[b]? = w.heap[b]? := hA
        have := row_get (A := allow E w' β') (w := w') (cs := row) hk0 hx1 (fun k hk => (hx2 k hk).mono hA) hsrc.cl (fun k hk => (hsrc.rep k hk).mono hA)
          (fun k j v hk hj => by
            (have hkx : k < xs.length := by omega); have hj' : j < t.size := by rw [← hx1 k hkx]; exact (List.getElem?_eq_some_iff.1 hj).1
            have hlt : k * t.size + j < olds.length := by
              rw [hol]; have : (k + 1) * t.size ≤ k0 * t.size := Nat.mul_le_mul_right _ (by omega); rw [Nat.add_mul] at this; omega
            rw [← hrow, List.append_assoc, List.getElem?_append_left hlt, holds, cat_get (fun k hk => hx1 k (by omega)) hk hj']
            exact hj)
          (fun i v hi => by
            have hlt : i < (cat dss ys.length).length := (List.getElem?_eq_some_iff.1 hi).1; rw [← hrow, List.append_assoc, List.getElem?_append_right (by omega), ← hol]; simp only [Nat.add_sub_cancel_left]; rw [List.getElem?_append_left hlt]
            exact hi)
        simpa using this⟩⟩)
    refine ⟨_, _, _, hrun, hdrew, ?_⟩; rw [updm_one]; refine .arr id ep0 _ ⟨_, setm_same _ _ _, Nat.le_refl _⟩ rfl fun u zs hm => ?_; rw [setm_same] at hm; simp only [Option.some.injEq, Blk.arr.injEq, true_and] at hm; obtain ⟨rfl, hm⟩ := hm; obtain rfl := eq_of_heq hm; rw [Bind.set_same, hll]; exact ⟨⟨w.heap.size, 0, none⟩, rfl, by omega, fun _ => by simp⟩
  -- a part of what there is, from its beginning
  have part : ∀ {id ep k0 : Nat} {xs : List t.den} {v : Value}, mem id = some (.arr ep t xs) → k0 ≤ xs.length → SliceAt (β id) t.size 0 k0 v → ((k0 : Int) + (ys.length : Int) ≤ 4294967296) →
      Gives P E N env (updm mem [(id, .arr (ep + 1) t (xs.take k0 ++ ys))]) a (Builtin.append_ #[T, T'] ty #[v, x]) w (.arr id (ep + 1)) := by
    intro id ep k0 xs v hm hk0 hv hle; have hll : (xs.take k0 ++ ys).length = k0 + ys.length := by simp; omega
    have hep : ep + 1 ≠ 0 ∧ ∀ k1, mem id = some k1 → k1.ep < ep + 1 := by
      refine ⟨Nat.succ_ne_zero _, ?_⟩; intro k1 hk1; rw [hm] at hk1; obtain rfl := Option.some.inj hk1; exact Nat.lt_succ_self _
    have arrv : ∀ {w' : World} {β' : Bind} {v : Value}, v.oneCell' = true → SliceAt (β' id) t.size 0 (k0 + ys.length) v →
        RepSV (allow E w' β') w' β' (updm mem [(id, .arr (ep + 1) t (xs.take k0 ++ ys))]) (.arr id (ep + 1)) v := by
      intro w' β' v h1 hv; rw [updm_one]; refine .arr id (ep + 1) _ ⟨_, setm_same _ _ _, Nat.le_refl _⟩ h1 fun u zs hm => ?_; rw [setm_same] at hm; simp only [Option.some.injEq, Blk.arr.injEq, true_and] at hm; obtain ⟨rfl, hm⟩ := hm; obtain rfl := eq_of_heq hm; rw [hll]; exact hv
    obtain ⟨hlim, ⟨hb, rfl⟩ | ⟨b, D, cs, el, css, hb, hh, hsz, hD, hel⟩⟩ := h.blk id _ hm
    ·
      rw [hb] at hv; obtain ⟨_, rfl, rfl⟩ := hv; by_cases hy : ys.length = 0
      · have hrun := run_append_in_nil (ty := ty) hu hu' hszr (x := x) (by rw [hsrc.len w, hy]) (by have := hsrc.cells w rfl; rwa [hy] at this)
        have hs : SimB E N env (setm mem id (.arr (ep + 1) t (([] : List t.den).take 0 ++ ys))) a w β := by
          have e : ys = [] := List.length_eq_zero_iff.1 hy; subst e
          have := h.fresh (w' := w) (id := id) (k := .arr (ep + 1) t []) none hep rfl rfl ⟨rfl, Nat.le_refl _⟩ (Nat.le_refl _) (fun _ _ => rfl) (by simp)
            ⟨by simp, .inl ⟨Bind.set_same _ _ _, rfl⟩⟩
          rw [h.set_none hm rfl hb] at this
          exact this
        refine ⟨_, _, _, hrun, hs, arrv rfl ?_⟩; rw [hb, hy]; exact ⟨rfl, rfl, rfl⟩
      · exact grow (k0 := 0) (xs := []) (css := fun _ => []) (olds := []) (by simp) hep (by simp) (by simp) rfl hle (by simp [Builtin.firstCells]) (by omega)
    · rw [hb] at hv; obtain ⟨p, rfl, hle2, hp⟩ := hv; obtain rfl := hp (.inl rfl); simp only [Nat.sub_zero, Nat.zero_mul, Nat.zero_add] at *; by_cases hroom : k0 + ys.length ≤ D
      · have hnl : (cat dss ys.length).length = ys.length * t.size := cat_length hsrc.cl
        have hfit : k0 * t.size + (cat dss ys.length).length ≤ cs.size := by
          rw [hnl, hsz, ← Nat.add_mul]; exact Nat.mul_le_mul_right _ hroom
        have hrun := run_append_in (ty := ty) hu hu' hszr hh (hsrc.len w) (hsrc.cells w rfl) (cat_one hsrc) hroom hfit
        have hs := h.write (w' := w.setRow b (cs.toList.take (k0 * t.size) ++ cat dss ys.length ++ cs.toList.drop (k0 * t.size + (cat dss ys.length).length)).toArray)
          (id := id) (k := .arr (ep + 1) t (xs.take k0 ++ ys)) hm hb (Nat.le_succ _) (by intro e; simp [Blk.ep] at e) rfl rfl rfl ⟨rfl, Nat.le_refl _⟩ (by simp) (fun c hc => setRow_other _ _ _ _ hc)
          ⟨by rw [hll, Int.natCast_add]; exact hle, .inr ⟨b, D, _, el, fun k => if k < k0 then css k else dss (k - k0), hb, setRow_heap _ _ _ _ _ _ hh, by
            simp only [List.size_toArray, List.length_append, List.length_take, List.length_drop, Array.length_toList]
            omega, by omega, by
            have hA : ∀ c, allow E w β c → allow E (w.setRow b (cs.toList.take (k0 * t.size) ++ cat dss ys.length ++ cs.toList.drop (k0 * t.size + (cat dss ys.length).length)).toArray) β c ∧
                (w.setRow b (cs.toList.take (k0 * t.size) ++ cat dss ys.length ++ cs.toList.drop (k0 * t.size + (cat dss ys.length).length)).toArray).heap[c]? = w.heap[c]? := by
              rintro c ⟨c1, c2, c3⟩; exact ⟨⟨by simpa using c1, c2, c3⟩, setRow_other _ _ _ _ (by rintro rfl; exact c3.1 id D hb)⟩
            have htl : (cs.toList.take (k0 * t.size)).length = k0 * t.size := by simp; omega
            have := row_get (cs := cs.toList.take (k0 * t.size) ++ cat dss ys.length ++ cs.toList.drop (k0 * t.size + (cat dss ys.length).length)) hk0
              (fun k hk => (hel k hk).1) (fun k hk => (hel k hk).2.2.mono hA) hsrc.cl (fun k hk => (hsrc.rep k hk).mono hA)
              (fun k j v hk hj => by
                (have hkx : k < xs.length := by omega); have hj' : j < t.size := by rw [← (hel k hkx).1]; exact (List.getElem?_eq_some_iff.1 hj).1
                have hlt : k * t.size + j < k0 * t.size := by
                  have : (k + 1) * t.size ≤ k0 * t.size := Nat.mul_le_mul_right _ (by omega); rw [Nat.add_mul] at this; omega
                rw [List.append_assoc, List.getElem?_append_left (by omega), List.getElem?_take, if_pos hlt]
                simpa using (hel k hkx).2.1 j v hj)
              (fun i v hi => by
                have hlt : i < (cat dss ys.length).length := (List.getElem?_eq_some_iff.1 hi).1; rw [List.append_assoc, List.getElem?_append_right (by omega), htl]; simp only [Nat.add_sub_cancel_left]; rw [List.getElem?_append_left hlt]
                exact hi)
            simpa using this⟩⟩
        refine ⟨_, _, _, hrun, hs, arrv rfl ?_⟩; rw [hb]; exact ⟨⟨b, 0, none⟩, rfl, by omega, fun _ => by simp⟩
      · refine grow (xs := xs) hk0 hep (fun k hk => (hel k hk).1) (fun k hk => (hel k hk).2.2) rfl hle ?_ (by omega); rw [hisz]; refine run_firstCells_some w.drew t.size k0 ⟨b, 0, none⟩ k0 D _ (cat_length (fun k hk => (hel k (by omega)).1)) fun i v hi => ?_; obtain ⟨k, j, hk, hj, rfl, hv⟩ := cat_get' (fun k hk => (hel k (by omega)).1) hi; rw [Addr.add_lit]; have := (hel k (by omega)).2.1 j v hv; show w.cell? _ = _; simp [World.cell?, hh, this]
  -- the cases
  cases hv with
  | nilsl =>
    simp only [appendSV] at hs; obtain ⟨ep, hep, hs⟩ := Rd.bind_some hs; simp only [Rd.eval, Option.some.injEq] at hs; subst hs; have hle := hob _ (List.mem_singleton.2 rfl); have hep' := freshEp_some hep; by_cases hy : ys.length = 0
    · have hrun := run_append_in_nil (ty := ty) hu hu' hszr (x := x) (by rw [hsrc.len w, hy]) (by have := hsrc.cells w rfl; rwa [hy] at this); have e : ys = [] := List.length_eq_zero_iff.1 hy; subst e
      have hs := h.fresh (w' := w) (id := d * 4) (k := .arr ep t []) none hep' rfl rfl ⟨rfl, Nat.le_refl _⟩ (Nat.le_refl _) (fun _ _ => rfl) (by simp)
        ⟨by simp, .inl ⟨Bind.set_same _ _ _, rfl⟩⟩
      refine ⟨_, _, _, hrun, hs, ?_⟩; rw [updm_one]; refine .arr _ ep _ ⟨_, setm_same _ _ _, Nat.le_refl _⟩ rfl fun u zs hm => ?_; rw [setm_same] at hm; simp only [Option.some.injEq, Blk.arr.injEq, true_and] at hm; obtain ⟨rfl, hm⟩ := hm; obtain rfl := eq_of_heq hm; rw [Bind.set_same]; exact ⟨rfl, rfl, rfl⟩
    · have := grow (id := d * 4) (ep0 := ep) (k0 := 0) (xs := []) (base := none) (cap := 0) (css := fun _ => []) (olds := []) (by simp) hep' (by simp) (by simp) rfl (by simpa using hle) (by simp [Builtin.firstCells]) (by omega)
      simpa using this
  | arr id ep v hm h1 hv =>
    simp only [appendSV] at hs; replace hs := Rd.mem_some hs
    cases hmi : mem id with
    | none => rw [hmi] at hs; simp [Rd.eval] at hs
    | some k =>
      rw [hmi] at hs
      cases k with
      | box => simp [Rd.eval] at hs
      | tree => simp [Rd.eval] at hs
      | dead => simp [Rd.eval] at hs
      | mp => simp [Rd.eval] at hs
      | hole => simp [Rd.eval] at hs
      | arr ep' u xs =>
        simp only at hs; split at hs
        · rename_i e1; subst e1; split at hs
          · rename_i zs hz; obtain ⟨e2, rfl⟩ := TV.to_some hz; (obtain rfl : u = t := by injection e2); simp only [Rd.eval, Option.some.injEq] at hs; subst hs; have := part (k0 := xs.length) hmi (Nat.le_refl _) (hv _ _ hmi) (hob _ (List.mem_singleton.2 rfl))
            rw [List.take_length] at this
            exact this
          · simp [Rd.eval] at hs
        · simp [Rd.eval] at hs
  | sub id ep off len v hm h1 hv =>
    simp only [appendSV] at hs; replace hs := Rd.mem_some hs
    cases hmi : mem id with
    | none => rw [hmi] at hs; simp [Rd.eval] at hs
    | some k =>
      rw [hmi] at hs
      cases k with
      | box => simp [Rd.eval] at hs
      | tree => simp [Rd.eval] at hs
      | dead => simp [Rd.eval] at hs
      | mp => simp [Rd.eval] at hs
      | hole => simp [Rd.eval] at hs
      | arr ep' u xs =>
        simp only at hs; split at hs
        · rename_i e1; obtain ⟨rfl, rfl⟩ := e1; split at hs
          · rename_i zs hz; obtain ⟨e2, rfl⟩ := TV.to_some hz; (obtain rfl : u = t := by injection e2); simp only [Rd.eval, Option.some.injEq] at hs; subst hs; obtain ⟨k1, k2⟩ := hv _ _ hmi; exact part (k0 := len) hmi (by omega) k2 (hob _ (List.mem_singleton.2 rfl))
          · simp [Rd.eval] at hs
        · simp [Rd.eval] at hs
  | _ => simp [appendSV, Rd.eval] at hs

theorem tree_src (h : SimB E N env mem a w β) {id ep : Nat} {t : Ty} {ys : List t.den} {x : Value} (hm : mem id = some (.tree ep t ys)) (hv : SliceAt (β id) t.size 0 ys.length x) :
    ∃ (dss : Nat → List Value) (T : Nat → Nat → Prop), Src P (fun _ => True) w t ys x dss ∧ (∀ k c, k < ys.length → T k c → β.own c = some id) ∧
      (∀ j k c, j < ys.length → k < ys.length → T j c → T k c → j = k) ∧ ∀ k (hk : k < ys.length), RepO w t ys[k] (dss k) (T k) := by
  obtain ⟨_, ⟨hb, rfl⟩ | ⟨b, D, cs, el, css, T, hb, hh, hsz, hD, hT1, hT2, hel⟩⟩ := h.blk id _ hm
  · rw [hb] at hv; obtain ⟨_, _, rfl⟩ := hv; exact ⟨_, fun _ _ => False, Src.of_nil t, by simp, by simp, by simp⟩
  · rw [hb] at hv; obtain ⟨p, rfl, hle2, hp⟩ := hv; obtain rfl := hp (.inl rfl); refine ⟨css, T, Src.of_cells (fun _ => rfl) (fun k hk => (hel k hk).1) (fun i j v hi hj => ?_) (fun k hk => (hel k hk).2.2.repC fun _ _ => trivial), hT1, hT2, fun k hk => (hel k hk).2.2⟩; have := (hel i hi).2.1 j v hj; simp [World.cell?, hh, this]

theorem row_getO {t : Ty} {xs ys : List t.den} {cs : List Value} {css dss : Nat → List Value} {Tx Ty : Nat → Nat → Prop}
    (hx : ∀ k, k < xs.length → (css k).length = t.size) (hxr : ∀ k (h : k < xs.length), RepO w t xs[k] (css k) (Tx k))
    (hy : ∀ k, k < ys.length → (dss k).length = t.size) (hyr : ∀ k (h : k < ys.length), RepO w t ys[k] (dss k) (Ty k))
    (h1 : ∀ k j v, k < xs.length → (css k)[j]? = some v → cs[k * t.size + j]? = some v)
    (h2 : ∀ i v, (cat dss ys.length)[i]? = some v → cs[xs.length * t.size + i]? = some v) :
    ∀ k (hk : k < (xs ++ ys).length), (if k < xs.length then css k else dss (k - xs.length)).length = t.size ∧
      (∀ (j : Nat) (v : Value), (if k < xs.length then css k else dss (k - xs.length))[j]? = some v → cs[k * t.size + j]? = some v) ∧
      RepO w t (xs ++ ys)[k] (if k < xs.length then css k else dss (k - xs.length)) (if k < xs.length then Tx k else Ty (k - xs.length)) := by
  intro k hk; by_cases hlt : k < xs.length
  · simp only [if_pos hlt]; refine ⟨hx k (by omega), fun j v hj => h1 k j v hlt hj, ?_⟩; have := hxr k (by omega); rw [show (xs ++ ys)[k] = xs[k]'(by omega) by rw [List.getElem_append_left (by omega)]]
    exact this
  · simp only [if_neg hlt]; (have hky : k - xs.length < ys.length := by simp at hk; omega); refine ⟨hy _ hky, fun j v hj => ?_, ?_⟩
    · (have hj' : j < t.size := by rw [← hy _ hky]; exact (List.getElem?_eq_some_iff.1 hj).1); have := h2 ((k - xs.length) * t.size + j) v (by rw [cat_get hy hky hj']; exact hj)
      rw [← Nat.add_assoc, ← Nat.add_mul] at this
      rwa [show xs.length + (k - xs.length) = k by omega] at this
    · have := hyr _ hky; rw [show (xs ++ ys)[k] = ys[k - xs.length]'hky by rw [List.getElem_append_right (by omega)]]
      exact this

theorem tr_rep {A : Nat → Prop} {w' : World} {β' : Bind} {mem' : Nat → Option Blk} {id ep : Nat} {t : Ty} {xs : List t.den} {v : Value} (h1 : v.oneCell' = true) (hv : SliceAt (β' id) t.size 0 xs.length v) :
    RepSV A w' β' (setm mem' id (.tree ep t xs)) (.tr id ep) v := by
  refine .tr id ep _ ⟨_, setm_same _ _ _, Nat.le_refl _⟩ h1 fun u zs hm => ?_; rw [setm_same] at hm; replace hm := hm.at; simp only [Option.some.injEq, Blk.tree.injEq, true_and] at hm; obtain ⟨rfl, hm⟩ := hm; obtain rfl := eq_of_heq hm; exact hv

theorem appendTr_gives (h : SimB E N env mem a w β) {T T' ty : Nat} {t : Ty} (hty : CtxTy P C) (hT : C.ty T = some (.slice t)) (hT' : C.ty T' = some (.slice t)) {sv sy : SV} {v x : Value} {r : Res}
    (hv : RepSV (allow E w β) w β mem sv v) (hx : RepSV (allow E w β) w β mem sy x) (hs : (appendTr t sv sy).eval mem = some r) (hob : ∀ p ∈ r.ob, p) :
    Gives P E N env (updm mem r.memw) a (Builtin.append_ #[T, T'] ty #[v, x]) w r.val := by
  obtain ⟨e, hu, he⟩ := (hty T _ hT).und; obtain ⟨e', hu', _⟩ := (hty T' _ hT').und; have hte := hty e t he; obtain ⟨i, z, hi, hisz, _, hby, hz, hzr⟩ := hte.info; have hszr := hte.size w
  cases hv with
  | tr id ep v hm h1 hv =>
    cases hx with
    | tr jd jp x hm2 h12 hx =>
      simp only [appendTr] at hs; replace hs := Rd.mem_some hs; replace hs := Rd.mem_some hs
      cases hmi : mem id with
      | none => rw [hmi] at hs; simp [Rd.eval] at hs
      | some k =>
      cases hmj : mem jd with
      | none => rw [hmi, hmj] at hs; cases k <;> simp [Rd.eval] at hs
      | some k2 =>
      rw [hmi, hmj] at hs
      cases k with
      | box => simp [Rd.eval] at hs
      | arr => simp [Rd.eval] at hs
      | dead => simp [Rd.eval] at hs
      | mp => simp [Rd.eval] at hs
      | hole => simp [Rd.eval] at hs
      | tree ep' u xs =>
      cases k2 with
      | box => simp [Rd.eval] at hs
      | arr => simp [Rd.eval] at hs
      | dead => simp [Rd.eval] at hs
      | mp => simp [Rd.eval] at hs
      | hole => simp [Rd.eval] at hs
      | tree jp' u' ys =>
      simp only at hs; split at hs
      case isFalse => simp [Rd.eval] at hs
      rename_i he3; obtain ⟨rfl, rfl, hne⟩ := he3; split at hs
      case h_2 => simp [Rd.eval] at hs
      rename_i zs zs' hz1 hz2; obtain ⟨e2, rfl⟩ := TV.to_some hz1; (obtain rfl : u = t := by injection e2); obtain ⟨e3, rfl⟩ := TV.to_some hz2; (obtain rfl : u' = u := by injection e3); simp only [Rd.eval, Option.some.injEq] at hs; subst hs; have hle : (xs.length : Int) + (ys.length : Int) ≤ 4294967296 := hob _ (List.mem_singleton.2 rfl); obtain ⟨dss, Ty, hsrc, hTy1, hTy2, hyO⟩ := tree_src (P := P) h hmj (hx _ _ (.of hmj)); have hv := hv _ _ (.of hmi)
      have hks : (killed [jd]).eval mem = some [(jd, .dead (jp' + 1))] := by
        simp only [killed, Rd.eval, hmj, Rd.eval_bind, Option.bind_some]
      have hep2 : ∀ {xs' : List u'.den} {bc : Option (Nat × Nat)}, ∀ k0, mem id = some k0 → k0.ep < (Blk.tree (ep' + 1) u' xs').ep ∨ (k0.alike (.tree (ep' + 1) u' xs') ∧ k0.ep = (Blk.tree (ep' + 1) u' xs').ep ∧ bc = β id) := by
        intro xs' bc k0 hk0; rw [hmi] at hk0; obtain rfl := Option.some.inj hk0; exact .inl (Nat.lt_succ_self _)
      have hmemw : updm mem [(jd, .dead (jp' + 1)), (id, .tree (ep' + 1) u' (xs ++ ys))] = setm (updm mem [(jd, .dead (jp' + 1))]) id (.tree (ep' + 1) u' (xs ++ ys)) := rfl; have hmvd : ∀ b, Moved β [jd] b ↔ Held β jd b := fun b => ⟨fun ⟨i, hi, hb⟩ => by rw [List.mem_singleton] at hi; rwa [hi] at hb, fun hb => ⟨jd, by simp, hb⟩⟩; have hnl : (cat dss ys.length).length = ys.length * u'.size := cat_length hsrc.cl; have hll : (xs ++ ys).length = xs.length + ys.length := by simp
      have hown : ∀ {bc : Option (Nat × Nat)} {Tx : Nat → Nat → Prop}, (∀ k c, k < xs.length → Tx k c → β.own c = some id) → ∀ k c, k < (xs ++ ys).length → (if k < xs.length then Tx k else Ty (k - xs.length)) c → (β.take [jd] id bc).own c = some id := by
        intro bc Tx hTx k c hk hc; by_cases hlt : k < xs.length
        · rw [if_pos hlt] at hc; have := hTx k c hlt hc; rw [Bind.take_own_ne (fun hmc => ?_)]
          · exact this
          · have := Held.inj h ((hmvd c).1 hmc) (.inr this); exact hne this.symm
        · rw [if_neg hlt] at hc; exact Bind.take_own ((hmvd c).2 (.inr (hTy1 _ c (by rw [hll] at hk; omega) hc)))
      have hdis : ∀ {Tx : Nat → Nat → Prop}, (∀ k c, k < xs.length → Tx k c → β.own c = some id) → (∀ j k c, j < xs.length → k < xs.length → Tx j c → Tx k c → j = k) →
          ∀ j k c, j < (xs ++ ys).length → k < (xs ++ ys).length → (if j < xs.length then Tx j else Ty (j - xs.length)) c → (if k < xs.length then Tx k else Ty (k - xs.length)) c → j = k := by
        intro Tx hTx1 hTx2 j k c hj hk h1 h2; rw [hll] at hj hk; by_cases hjl : j < xs.length <;> by_cases hkl : k < xs.length
        · rw [if_pos hjl] at h1; rw [if_pos hkl] at h2; exact hTx2 j k c hjl hkl h1 h2
        · rw [if_pos hjl] at h1; rw [if_neg hkl] at h2; have e1 := hTx1 j c hjl h1; have e2 := hTy1 _ c (by omega) h2; rw [e1] at e2; exact absurd (Option.some.inj e2) hne
        · rw [if_neg hjl] at h1; rw [if_pos hkl] at h2; have e1 := hTx1 k c hkl h2; have e2 := hTy1 _ c (by omega) h1; rw [e1] at e2; exact absurd (Option.some.inj e2) hne
        · rw [if_neg hjl] at h1; rw [if_neg hkl] at h2; have := hTy2 _ _ c (by omega) (by omega) h1 h2; omega
      have heap : ∀ {w' : World} {Tx : Nat → Nat → Prop}, (∀ k c, k < xs.length → Tx k c → β.own c = some id) → (∀ b, Moved β [jd] b ∨ β.own b = some id → w'.heap[b]? = w.heap[b]?) →
          (∀ k c, k < xs.length → Tx k c → w'.heap[c]? = w.heap[c]?) ∧ ∀ k c, k < ys.length → Ty k c → w'.heap[c]? = w.heap[c]? :=
        fun hTx hh => ⟨fun k c hk hc => hh c (.inr (hTx k c hk hc)), fun k c hk hc => hh c (.inl ((hmvd c).2 (.inr (hTy1 k c hk hc))))⟩
      -- the call grows: a new block
      have grow : ∀ {base : Option Addr} {cap : Nat} {css : Nat → List Value} {olds : List Value} {Tx : Nat → Nat → Prop}, (∀ k c, k < xs.length → Tx k c → β.own c = some id) →
          (∀ j k c, j < xs.length → k < xs.length → Tx j c → Tx k c → j = k) →
          (∀ k, k < xs.length → (css k).length = u'.size) → (∀ k (h : k < xs.length), RepO w u' xs[k] (css k) (Tx k)) →
          olds = cat css xs.length → (Builtin.firstCells i.size xs.length (.slice base xs.length cap)).run P w.drew = .ok olds.toArray w.drew → cap < xs.length + ys.length →
          Gives P E N env (updm mem [(jd, .dead (jp' + 1)), (id, .tree (ep' + 1) u' (xs ++ ys))]) a (Builtin.append_ #[T, T'] ty #[.slice base xs.length cap, x]) w (.tr id (ep' + 1)) := by
        intro base cap css olds Tx hTx1 hTx2 hx1 hx2 holds ho hcap
        have hb : Builtin.nextslicecap (xs.length + ys.length) cap * i.bytes ≤ 281474976710656 := growslice_fits hcap (by
          have : (xs.length + ys.length) * i.bytes ≤ 4294967296 * 4096 := Nat.mul_le_mul (by omega) hby
          omega)
        have hrun := run_append_up (ty := ty) hu hu' hi hz (hsrc.len w) ho (by rw [hisz]; exact hsrc.cells _ rfl) hcap (by omega) hb; generalize hcapn : grownCap w (xs.length + ys.length) cap e = capn at hrun; (have hcapn' : xs.length + ys.length ≤ capn := by rw [← hcapn]; exact grownCap_le w e (by omega)); have hzsz : z.cells.size = u'.size := (hzr (allow E w β) w).cells.2; (have hol : olds.length = xs.length * u'.size := by rw [holds]; exact cat_length (fun k hk => hx1 k (by omega))); generalize hrow : olds ++ cat dss ys.length ++ (Builtin.zeroCells z.cells (capn - (xs.length + ys.length))).toList = row at hrun
        have hrl : row.length = capn * u'.size := by
          rw [← hrow]; simp only [List.length_append, hol, hnl, Array.length_toList, size_zeroCells, hzsz]; rw [← Nat.add_mul, ← Nat.add_mul]; congr 1; omega
        have hsz1 : (w.drew.alloc (.cells row.toArray e)).heap.size = w.heap.size + 1 := by show (w.heap.push _).size = _; simp
        have hget : ∀ b, b < w.heap.size → (w.drew.alloc (.cells row.toArray e)).heap[b]? = w.heap[b]? := fun b hb => by
          show (w.heap.push _)[b]? = _; rw [Array.getElem?_push, if_neg (by omega)]
        have hnew : (w.drew.alloc (.cells row.toArray e)).heap[w.heap.size]? = some (.cells row.toArray e (0, 0)) := by show (w.heap.push _)[w.heap.size]? = _; simp
        have ht := h.take (w' := w.drew.alloc (.cells row.toArray e)) (ids := [jd]) (id := id) (k := .tree (ep' + 1) u' (xs ++ ys)) (bc := some (w.heap.size, capn)) rfl hks (by simp [hne]) rfl
          hep2 rfl rfl ⟨rfl, U.dr_mono _ _ (Nat.le_succ _)⟩ (by rw [hsz1]; omega) (fun b C e => by
            simp only [Option.some.injEq, Prod.mk.injEq] at e; obtain ⟨rfl, rfl⟩ := e
            exact ⟨by rw [hsz1]; omega, .inl (Nat.le_refl _)⟩) (fun b hb _ => hget b hb)
          (fun hO => ⟨by rw [hll, Int.natCast_add]; exact hle, .inr ⟨w.heap.size, capn, row.toArray, e, _, _, Bind.take_same _ _ _ _, hnew, by simpa using hrl, by omega, hown hTx1, hdis hTx1 hTx2, by
            obtain ⟨hO1, hO2⟩ := heap hTx1 hO
            have := row_getO (w := w.drew.alloc (.cells row.toArray e)) (cs := row) hx1 (fun k hk => (hx2 k hk).mono fun c hc => ⟨hc, hO1 k c hk hc⟩) hsrc.cl (fun k hk => (hyO k hk).mono fun c hc => ⟨hc, hO2 k c hk hc⟩)
              (fun k j v hk hj => by
                have hj' : j < u'.size := by rw [← hx1 k hk]; exact (List.getElem?_eq_some_iff.1 hj).1
                have hlt : k * u'.size + j < olds.length := by
                  rw [hol]; have : (k + 1) * u'.size ≤ xs.length * u'.size := Nat.mul_le_mul_right _ (by omega); rw [Nat.add_mul] at this; omega
                rw [← hrow, List.append_assoc, List.getElem?_append_left hlt, holds, cat_get (fun k hk => hx1 k (by omega)) hk hj']
                exact hj)
              (fun i v hi => by
                have hlt : i < (cat dss ys.length).length := (List.getElem?_eq_some_iff.1 hi).1; rw [← hrow, List.append_assoc, List.getElem?_append_right (by omega), ← hol]; simp only [Nat.add_sub_cancel_left]; rw [List.getElem?_append_left hlt]
                exact hi)
            simpa using this⟩⟩)
        refine ⟨_, _, _, hrun, by rw [hmemw]; exact ht.1, ?_⟩; rw [hmemw]; refine tr_rep rfl ?_; rw [Bind.take_same, hll]; exact ⟨⟨w.heap.size, 0, none⟩, rfl, by omega, fun _ => by simp⟩
      obtain ⟨hlim, ⟨hb, rfl⟩ | ⟨b, D, cs, el, css, Tx, hb, hh, hsz, hD, hTx1, hTx2, hel⟩⟩ := h.blk id _ hmi
      · rw [hb] at hv; obtain ⟨_, _, rfl⟩ := hv; by_cases hy : ys.length = 0
        · have hrun := run_append_in_nil (ty := ty) hu hu' hszr (x := x) (by rw [hsrc.len w, hy]) (by have := hsrc.cells w rfl; rwa [hy] at this); have e4 : ys = [] := List.length_eq_zero_iff.1 hy; subst e4
          have ht := h.take (w' := w) (ids := [jd]) (id := id) (k := .tree (ep' + 1) u' (([] : List u'.den) ++ [])) (bc := none) rfl hks (by simp [hne]) rfl
            hep2 rfl rfl ⟨rfl, Nat.le_refl _⟩ (Nat.le_refl _) (fun b C e => by cases e) (fun b hb _ => rfl) (fun _ => ⟨by simp, .inl ⟨Bind.take_same _ _ _ _, rfl⟩⟩)
          refine ⟨_, _, _, hrun, by rw [hmemw]; exact ht.1, ?_⟩; rw [hmemw]; refine tr_rep rfl ?_; rw [Bind.take_same]; exact ⟨rfl, rfl, rfl⟩
        · exact grow (css := fun _ => []) (olds := []) (Tx := fun _ _ => False) (by simp) (by simp) (by simp) (by simp) rfl (by simp [Builtin.firstCells]) (by simp; omega)
      · rw [hb] at hv; obtain ⟨p, rfl, hle2, hp⟩ := hv; obtain rfl := hp (.inl rfl); simp only [Nat.sub_zero, Nat.zero_mul, Nat.zero_add] at *; by_cases hroom : xs.length + ys.length ≤ D
        · have hfit : xs.length * u'.size + (cat dss ys.length).length ≤ cs.size := by
            rw [hnl, hsz, ← Nat.add_mul]; exact Nat.mul_le_mul_right _ hroom
          have hone : ∀ u ∈ cat dss ys.length, u.oneCell' = true := cat_one hsrc; have hrun := run_append_in (ty := ty) hu hu' hszr hh (hsrc.len w) (hsrc.cells w rfl) hone hroom hfit; generalize hw' : w.setRow b (cs.toList.take (xs.length * u'.size) ++ cat dss ys.length ++ cs.toList.drop (xs.length * u'.size + (cat dss ys.length).length)).toArray = w' at hrun; (have hoth : ∀ c, c ≠ b → w'.heap[c]? = w.heap[c]? := fun c hc => by rw [← hw']; exact setRow_other _ _ _ _ hc); have hsz2 : w'.heap.size = w.heap.size := by rw [← hw']; simp
          have hnew : w'.heap[b]? = some (.cells (cs.toList.take (xs.length * u'.size) ++ cat dss ys.length ++ cs.toList.drop (xs.length * u'.size + (cat dss ys.length).length)).toArray el (0, 0)) := by
            rw [← hw']; exact setRow_heap _ _ _ _ _ _ hh
          have ht := h.take (w' := w') (ids := [jd]) (id := id) (k := .tree (ep' + 1) u' (xs ++ ys)) (bc := some (b, D)) rfl hks (by simp [hne]) rfl
            hep2 (by rw [← hw']; rfl) (by rw [← hw']; rfl) (by rw [← hw']; exact ⟨rfl, Nat.le_refl _⟩) (by rw [hsz2]; exact Nat.le_refl _) (fun c C e => by
              simp only [Option.some.injEq, Prod.mk.injEq] at e; obtain ⟨rfl, rfl⟩ := e
              exact ⟨by rw [hsz2]; exact (h.dom id _ _ hb).2.1, .inr ⟨_, ⟨_, hmi, rfl⟩, hb⟩⟩) (fun c hc hne => hoth c (fun e => hne D (by rw [e])))
            (fun hO => ⟨by rw [hll, Int.natCast_add]; exact hle, .inr ⟨b, D, _, el, _, _, Bind.take_same _ _ _ _, hnew, by
              simp only [List.size_toArray, List.length_append, List.length_take, List.length_drop, Array.length_toList]
              omega, by omega, hown hTx1, hdis hTx1 hTx2, by
              obtain ⟨hO1, hO2⟩ := heap hTx1 hO; have htl : (cs.toList.take (xs.length * u'.size)).length = xs.length * u'.size := by simp; omega
              have := row_getO (w := w') (cs := cs.toList.take (xs.length * u'.size) ++ cat dss ys.length ++ cs.toList.drop (xs.length * u'.size + (cat dss ys.length).length))
                (fun k hk => (hel k hk).1) (fun k hk => (hel k hk).2.2.mono fun c hc => ⟨hc, hO1 k c hk hc⟩) hsrc.cl (fun k hk => (hyO k hk).mono fun c hc => ⟨hc, hO2 k c hk hc⟩)
                (fun k j v hk hj => by
                  have hj' : j < u'.size := by rw [← (hel k hk).1]; exact (List.getElem?_eq_some_iff.1 hj).1
                  have hlt : k * u'.size + j < xs.length * u'.size := by
                    have : (k + 1) * u'.size ≤ xs.length * u'.size := Nat.mul_le_mul_right _ (by omega); rw [Nat.add_mul] at this; omega
                  rw [List.append_assoc, List.getElem?_append_left (by omega), List.getElem?_take, if_pos hlt]
                  simpa using (hel k hk).2.1 j v hj)
                (fun i v hi => by
                  have hlt : i < (cat dss ys.length).length := (List.getElem?_eq_some_iff.1 hi).1; rw [List.append_assoc, List.getElem?_append_right (by omega), htl]; simp only [Nat.add_sub_cancel_left]; rw [List.getElem?_append_left hlt]
                  exact hi)
              simpa using this⟩⟩)
          refine ⟨_, _, _, hrun, by rw [hmemw]; exact ht.1, ?_⟩; rw [hmemw]; refine tr_rep rfl ?_; rw [Bind.take_same, hll]; exact ⟨⟨b, 0, none⟩, rfl, by omega, fun _ => by simp⟩
        · refine grow hTx1 hTx2 (fun k hk => (hel k hk).1) (fun k hk => (hel k hk).2.2) rfl ?_ (by omega); rw [hisz]; refine run_firstCells_some w.drew u'.size xs.length ⟨b, 0, none⟩ xs.length D _ (cat_length (fun k hk => (hel k (by omega)).1)) fun i v hi => ?_; obtain ⟨k, j, hk, hj, rfl, hv⟩ := cat_get' (fun k hk => (hel k (by omega)).1) hi; rw [Addr.add_lit]; have := (hel k (by omega)).2.1 j v hv; show w.cell? _ = _; simp [World.cell?, hh, this]
    | _ => simp [appendTr, Rd.eval] at hs
  | _ => simp [appendTr, Rd.eval] at hs

end
end Go.Am


namespace Go.Am
variable [U : Univ]

theorem RepL.set {A : Nat → Prop} {w : World} {l : List TV} {cs : List Value} (h : RepL A w l cs) (f : Nat) {t : Ty} {x y : t.den} {ds : List Value} (hf : l[f]? = some ⟨t, x⟩) (hd : RepC A w t y ds) :
    RepL A w (l.set f ⟨t, y⟩) (cs.take ((((l.map Sigma.fst).take f).map Ty.size).sum) ++ ds ++ cs.drop ((((l.map Sigma.fst).take f).map Ty.size).sum + t.size)) := by
  induction f generalizing l cs with
  | zero =>
    cases h with
    | nil => simp at hf
    | cons u z r cs es h k =>
      simp only [List.getElem?_cons_zero, Option.some.injEq] at hf; obtain rfl : u = t := congrArg Sigma.fst hf; have hl := h.length; simp only [List.set_cons_zero, List.take_zero, List.map_nil, List.sum_nil, List.nil_append, Nat.zero_add]; rw [← hl, List.drop_left]; exact .cons u y r ds es hd k
  | succ f ih =>
    cases h with
    | nil => simp at hf
    | cons u z r cs es h k =>
      simp only [List.getElem?_cons_succ] at hf; have hl := h.length; have := ih k hf; simp only [List.set_cons_succ, List.map_cons, List.take_succ_cons, List.sum_cons]
      have e1 : (cs ++ es).take (u.size + (((r.map Sigma.fst).take f).map Ty.size).sum) = cs ++ es.take ((((r.map Sigma.fst).take f).map Ty.size).sum) := by
        rw [← hl, List.take_append, List.take_of_length_le (by omega)]; congr 2; omega
      have e2 : (cs ++ es).drop (u.size + (((r.map Sigma.fst).take f).map Ty.size).sum + t.size) = es.drop ((((r.map Sigma.fst).take f).map Ty.size).sum + t.size) := by
        rw [← hl, Nat.add_assoc, List.drop_append]; simp
      rw [e1, e2, List.append_assoc, List.append_assoc]
      rw [List.append_assoc] at this
      exact .cons u z _ cs _ h this

theorem updAt_rep {A : Nat → Prop} {w : World} (p : List Nat) : ∀ {t : Ty} {x : t.den} {cs : List Value} {u : Ty} {y : u.den} {ds : List Value} {tv : TV}, RepC A w t x cs → RepC A w u y ds → updAt ⟨t, x⟩ p ⟨u, y⟩ = some tv →
    ∃ (o : Nat) (x' : t.den), tv = ⟨t, x'⟩ ∧ pathOff t p = some (o, u) ∧ o + u.size ≤ cs.length ∧ RepC A w t x' (cs.take o ++ ds ++ cs.drop (o + u.size)) := by
  induction p with
  | nil =>
    intro t x cs u y ds tv h hd hu; simp only [updAt] at hu; split at hu
    · rename_i e; subst e; obtain rfl := Option.some.inj hu; refine ⟨0, y, rfl, rfl, by simp [h.length], ?_⟩; (have : cs.drop (0 + u.size) = [] := by rw [Nat.zero_add, ← h.length]; simp); rw [this]; simpa using hd
    · simp at hu
  | cons f p ih =>
    intro t x cs u y ds tv h hd hu
    cases t with
    | named n =>
      obtain ⟨x, rfl⟩ : ∃ y : U.R n, y = x := ⟨x, rfl⟩; simp only [updAt] at hu; split at hu
      · rename_i tv0 htv; obtain ⟨t', x'⟩ := tv0; split at hu
        · rename_i tv1 htv1; obtain rfl := Option.some.inj hu; obtain ⟨h1, h2⟩ := h.field htv; obtain ⟨o, z, rfl, ho, hle, hr⟩ := ih h1 hd htv1; (have ht : (U.tys n)[f]? = some t' := by rw [← U.get_tys n x, List.getElem?_map, htv]; rfl); have hl1 : ((cs.drop (offsetOf n f)).take t'.size).length = t'.size := h1.length; refine ⟨offsetOf n f + o, _, rfl, by simp [pathOff, ht, ho], by omega, ?_⟩
          cases h with
          | named n x cs h =>
            have hset := h.set f htv hr; have hgt : (U.get n x).map Sigma.fst = U.tys n := U.get_tys n x; (have hof : offsetOf n f = ((((U.get n x).map Sigma.fst).take f).map Ty.size).sum := by rw [hgt]; rfl); rw [← hof] at hset; change RepL A w _ (cs.take (offsetOf n f) ++ _ ++ cs.drop (offsetOf n f + t'.size)) at hset
            have hget : U.get n (U.bld n ((U.get n x).set f ⟨t', z⟩)) = (U.get n x).set f ⟨t', z⟩ := by
              refine U.get_bld n _ ?_; have hlt : f < (U.get n x).length := (List.getElem?_eq_some_iff.1 htv).1; have he := (List.getElem?_eq_some_iff.1 htv).2; rw [List.map_set, U.get_tys]; apply List.ext_getElem?; intro i; rw [List.getElem?_set]; split
              · rename_i e; subst e; rw [ht]; have : f < (U.tys n).length := (List.getElem?_eq_some_iff.1 ht).1; simp [this]
              · rfl
            refine .named n _ _ ?_; rw [hget]
            have e : cs.take (offsetOf n f) ++ (((cs.drop (offsetOf n f)).take t'.size).take o ++ ds ++ ((cs.drop (offsetOf n f)).take t'.size).drop (o + u.size)) ++ cs.drop (offsetOf n f + t'.size) =
                cs.take (offsetOf n f + o) ++ ds ++ cs.drop (offsetOf n f + o + u.size) := by
              rw [List.take_take, Nat.min_eq_left (by omega), List.take_add]; simp only [List.append_assoc]; congr 3; rw [List.drop_take, List.drop_drop]
              have : cs.drop (offsetOf n f + t'.size) = (cs.drop (offsetOf n f + (o + u.size))).drop (t'.size - (o + u.size)) := by
                rw [List.drop_drop]; congr 1; omega
              rw [this, List.take_append_drop]; congr 1; omega
            rw [e] at hset; exact hset
        · simp at hu
      · simp at hu
    | _ => simp [updAt] at hu

theorem RepOL.set {w : World} {l : List TV} {cs : List Value} {S Sy : Nat → Prop} (h : RepOL w l cs S) (f : Nat) {t : Ty} {x y : t.den} {ds : List Value} (hf : l[f]? = some ⟨t, x⟩) (hdis : ∀ c, S c → ¬ Sy c)
    (hd : ∀ S1 : Nat → Prop, (∀ c, S1 c → S c) → RepO w t x ((cs.drop ((((l.map Sigma.fst).take f).map Ty.size).sum)).take t.size) S1 → RepO w t y ds (fun c => S1 c ∨ Sy c)) :
    RepOL w (l.set f ⟨t, y⟩) (cs.take ((((l.map Sigma.fst).take f).map Ty.size).sum) ++ ds ++ cs.drop ((((l.map Sigma.fst).take f).map Ty.size).sum + t.size)) (fun c => S c ∨ Sy c) := by
  induction f generalizing l cs S with
  | zero =>
    cases h with
    | nil => simp at hf
    | cons u z r cs es S1 S2 S h k h1 h2 hd12 =>
      simp only [List.getElem?_cons_zero, Option.some.injEq] at hf; obtain rfl : u = t := congrArg Sigma.fst hf; (obtain rfl : z = x := by simpa using hf); have hl := h.length; simp only [List.set_cons_zero, List.take_zero, List.map_nil, List.sum_nil, List.nil_append, Nat.zero_add, List.drop_zero] at hd ⊢; rw [List.take_append_of_le_length (by omega), List.take_of_length_le (by omega)] at hd; rw [← hl, List.drop_left]; refine .cons u y r ds es (fun c => S1 c ∨ Sy c) S2 _ (hd S1 h1 h) k ?_ (fun c hc => .inl (h2 c hc)) ?_
      · rintro c (hc | hc)
        · exact .inl (h1 c hc)
        · exact .inr hc
      · rintro c (hc | hc) h3
        · exact hd12 c hc h3
        · exact hdis c (h2 c h3) hc
  | succ f ih =>
    cases h with
    | nil => simp at hf
    | cons u z r cs es S1 S2 S h k h1 h2 hd12 =>
      simp only [List.getElem?_cons_succ] at hf; have hl := h.length
      have := ih k hf (fun c hc => hdis c (h2 c hc)) (fun S3 h3 hr => by
        refine hd S3 (fun c hc => h2 c (h3 c hc)) ?_; simp only [List.map_cons, List.take_succ_cons, List.sum_cons]; rw [← hl, ← List.drop_drop, List.drop_left]
        exact hr)
      simp only [List.set_cons_succ, List.map_cons, List.take_succ_cons, List.sum_cons]
      have e1 : (cs ++ es).take (u.size + (((r.map Sigma.fst).take f).map Ty.size).sum) = cs ++ es.take ((((r.map Sigma.fst).take f).map Ty.size).sum) := by
        rw [← hl, List.take_append, List.take_of_length_le (by omega)]; congr 2; omega
      have e2 : (cs ++ es).drop (u.size + (((r.map Sigma.fst).take f).map Ty.size).sum + t.size) = es.drop ((((r.map Sigma.fst).take f).map Ty.size).sum + t.size) := by
        rw [← hl, Nat.add_assoc, List.drop_append]; simp
      rw [e1, e2, List.append_assoc, List.append_assoc]
      rw [List.append_assoc] at this
      refine .cons u z _ cs _ S1 (fun c => S2 c ∨ Sy c) _ h this (fun c hc => .inl (h1 c hc)) ?_ ?_
      · rintro c (hc | hc)
        · exact .inl (h2 c hc)
        · exact .inr hc
      · rintro c hc (h3 | h3)
        · exact hd12 c hc h3
        · exact hdis c (h1 c hc) h3

theorem updAt_repO {w : World} (p : List Nat) : ∀ {t : Ty} {x : t.den} {cs : List Value} {u : Ty} {y : u.den} {ds : List Value} {tv : TV} {S Sy : Nat → Prop}, RepO w t x cs S → RepO w u y ds Sy → (∀ c, S c → ¬ Sy c) → updAt ⟨t, x⟩ p ⟨u, y⟩ = some tv →
    ∃ (o : Nat) (x' : t.den), tv = ⟨t, x'⟩ ∧ pathOff t p = some (o, u) ∧ o + u.size ≤ cs.length ∧ RepO w t x' (cs.take o ++ ds ++ cs.drop (o + u.size)) (fun c => S c ∨ Sy c) := by
  induction p with
  | nil =>
    intro t x cs u y ds tv S Sy h hd hdis hu; simp only [updAt] at hu; split at hu
    · rename_i e; subst e; obtain rfl := Option.some.inj hu; refine ⟨0, y, rfl, rfl, by simp [h.length], ?_⟩; (have : cs.drop (0 + u.size) = [] := by rw [Nat.zero_add, ← h.length]; simp); rw [this]; simpa using hd.mono fun c hc => ⟨.inr hc, rfl⟩
    · simp at hu
  | cons f p ih =>
    intro t x cs u y ds tv S Sy h hd hdis hu
    cases t with
    | named n =>
      obtain ⟨x, rfl⟩ : ∃ y : U.R n, y = x := ⟨x, rfl⟩; simp only [updAt] at hu; split at hu
      · rename_i tv0 htv; obtain ⟨t', x'⟩ := tv0; split at hu
        · rename_i tv1 htv1; obtain rfl := Option.some.inj hu; obtain ⟨h1, h2⟩ := (h.repC (A := S) fun _ h => h).field htv; obtain ⟨o, z, rfl, ho, hle, hr0⟩ := updAt_rep (A := fun _ => True) p (h1.mono fun _ _ => ⟨trivial, rfl⟩) (hd.repC (A := fun _ => True) fun _ _ => trivial) htv1; (have ht : (U.tys n)[f]? = some t' := by rw [← U.get_tys n x, List.getElem?_map, htv]; rfl); have hl1 : ((cs.drop (offsetOf n f)).take t'.size).length = t'.size := h1.length; refine ⟨offsetOf n f + o, _, rfl, by simp [pathOff, ht, ho], by omega, ?_⟩
          cases h with
          | named n x cs S h =>
            have hgt : (U.get n x).map Sigma.fst = U.tys n := U.get_tys n x; have hof : offsetOf n f = ((((U.get n x).map Sigma.fst).take f).map Ty.size).sum := by rw [hgt]; rfl
            have hset := h.set (y := z) (Sy := Sy) (ds := ((cs.drop (offsetOf n f)).take t'.size).take o ++ ds ++ ((cs.drop (offsetOf n f)).take t'.size).drop (o + u.size)) f htv hdis (fun S1 hS1 hr1 => by
              rw [← hof] at hr1; obtain ⟨o2, z2, e1, ho2, _, hr2⟩ := ih hr1 hd (fun c hc => hdis c (hS1 c hc)) htv1; (obtain rfl : z = z2 := by simpa using e1); rw [ho] at ho2; obtain rfl : o = o2 := by simpa using ho2
              exact hr2)
            rw [← hof] at hset; change RepOL w _ (cs.take (offsetOf n f) ++ _ ++ cs.drop (offsetOf n f + t'.size)) _ at hset
            have hget : U.get n (U.bld n ((U.get n x).set f ⟨t', z⟩)) = (U.get n x).set f ⟨t', z⟩ := by
              refine U.get_bld n _ ?_; have hlt : f < (U.get n x).length := (List.getElem?_eq_some_iff.1 htv).1; have he := (List.getElem?_eq_some_iff.1 htv).2; rw [List.map_set, U.get_tys]; apply List.ext_getElem?; intro i; rw [List.getElem?_set]; split
              · rename_i e; subst e; rw [ht]; have : f < (U.tys n).length := (List.getElem?_eq_some_iff.1 ht).1; simp [this]
              · rfl
            refine .named n _ _ _ ?_; rw [hget]
            have e : cs.take (offsetOf n f) ++ (((cs.drop (offsetOf n f)).take t'.size).take o ++ ds ++ ((cs.drop (offsetOf n f)).take t'.size).drop (o + u.size)) ++ cs.drop (offsetOf n f + t'.size) =
                cs.take (offsetOf n f + o) ++ ds ++ cs.drop (offsetOf n f + o + u.size) := by
              rw [List.take_take, Nat.min_eq_left (by omega), List.take_add]; simp only [List.append_assoc]; congr 3; rw [List.drop_take, List.drop_drop]
              have : cs.drop (offsetOf n f + t'.size) = (cs.drop (offsetOf n f + (o + u.size))).drop (t'.size - (o + u.size)) := by
                rw [List.drop_drop]; congr 1; omega
              rw [this, List.take_append_drop]; congr 1; omega
            rw [e] at hset; exact hset
        · simp at hu
      · simp at hu
    | _ => simp [updAt] at hu

theorem zero_repO {A : Nat → Prop} {w w' : World} {S : Nat → Prop} : ∀ (f : Nat) {t : Ty} {x : t.den}, RepC A w t x (zeroCells f t) → RepO w' t x (zeroCells f t) S := by
  have key : ∀ {t : Ty} {x : t.den} {cs : List Value}, RepC A w t x cs → (∀ p l c, Value.slice (some p) l c ∉ cs) → ∀ S : Nat → Prop, RepO w' t x cs S := by
    intro t x cs h; refine RepC.rec (motive_1 := fun t x cs _ => (∀ p l c, Value.slice (some p) l c ∉ cs) → ∀ S : Nat → Prop, RepO w' t x cs S) (motive_2 := fun l cs _ => (∀ p l c, Value.slice (some p) l c ∉ cs) → ∀ S : Nat → Prop, RepOL w' l cs S) ?_ ?_ ?_ ?_ ?_ ?_ ?_ ?_ h
    · intro k n lo hi _ S; exact .int k n S lo hi
    · intro b _ S; exact .bool b S
    · intro s h _ S; exact .str s S h
    · intro n x cs _ ih hn S; exact .named n x cs S (ih hn S)
    · intro t _ S; exact .nil t S
    · intro t xs a cap css _ _ _ _ _ _ _ _ hn; exact absurd (List.mem_singleton.2 rfl) (hn a xs.length cap)
    · intro _ S; exact .nil S
    · intro t x r cs ds _ _ ih1 ih2 hn S; exact .cons t x r cs ds (fun _ => False) (fun _ => False) S (ih1 (fun p l c hm => hn p l c (List.mem_append_left _ hm)) _) (ih2 (fun p l c hm => hn p l c (List.mem_append_right _ hm)) _) (fun _ h => h.elim) (fun _ h => h.elim) (fun _ h => h.elim)
  have hz : ∀ (f : Nat) (t : Ty) p l c, Value.slice (some p) l c ∉ zeroCells f t := by
    intro f
    induction f with
    | zero => intro t p l c hm; cases t <;> simp [zeroCells] at hm
    | succ f ih =>
      intro t p l c hm
      cases t with
      | named n =>
        simp only [zeroCells, List.mem_flatMap] at hm; obtain ⟨u, _, hm⟩ := hm; exact ih u p l c hm
      | _ => simp [zeroCells] at hm
  intro f t x h; exact key h (hz f t) S

section
variable {E : Ent} {N : Nat} {env : Nat → SV} {mem : Nat → Option Blk} {a : Act} {w : World} {β : Bind} {P : Program} {C : Ctx}

theorem buildElems_sound (h : SimB E N env mem a w β) {B : Nat → Prop} (hB : ∀ b, allow E w β b → B b) {t : Ty} : ∀ (l : List (Nat × Operand)) (i : Nat) {ps : List (Nat × SV)} {ob : List Prop} {xs : List t.den}, partsOf env l = (ps, ob) → (∀ p ∈ ob, p) →
    (∀ p ∈ ps, ∀ id ∈ lentIds fuel p.2, ∀ b, Held β id b → B b) → (buildElems t i ps).eval mem = some xs → ∃ vs : List Value, (l.map fun p => (p.1, a.eval p.2)) = (vs.zipIdx i).map (fun x => (x.2, x.1)) ∧ vs.length = xs.length ∧ ps.length = vs.length ∧
      ∀ k (h1 : k < xs.length) (h2 : k < vs.length), RepV B w t xs[k] vs[k] := by
  intro l
  induction l with
  | nil =>
    intro i ps ob xs hp _ _ hb; simp only [partsOf, Prod.mk.injEq] at hp; obtain ⟨rfl, rfl⟩ := hp; simp only [buildElems, Rd.eval, Option.some.injEq] at hb; subst hb; exact ⟨[], rfl, rfl, rfl, by simp⟩
  | cons q l ih =>
    obtain ⟨j, x⟩ := q; intro i ps ob xs hp hob hlend hb; simp only [partsOf] at hp; generalize hv : opv env x = vp at hp; obtain ⟨v, p⟩ := vp; generalize hr : partsOf env l = rp at hp; obtain ⟨r, rob⟩ := rp; simp only [Prod.mk.injEq] at hp; obtain ⟨rfl, rfl⟩ := hp; simp only [buildElems] at hb; split at hb
    · rename_i e; subst e; obtain ⟨y, hy, hb⟩ := Rd.bind_some hb; obtain ⟨ys, hys, hb⟩ := Rd.bind_some hb; simp only [Rd.eval, Option.some.injEq] at hb; subst hb; obtain ⟨vs, k1, k2, k3, k4⟩ := ih (j + 1) hr (fun p hp => hob p (by simp [hp])) (fun p hp => hlend p (by simp [hp])) hys; have hxv := opv_rep h hv (fun p hp => hob p (by simp [hp])); refine ⟨a.eval x :: vs, by simp [k1], by simp [k2], by simp [k3], fun k h1 h2 => ?_⟩
      cases k with
      | zero => exact toD_sound h hB fuel (fun _ => hlend (j, v) (by simp)) hxv hy
      | succ k => exact k4 k (by simpa using h1) (by simpa using h2)
    · simp [Rd.eval] at hb

omit U in
theorem oneCell_cells {v : Value} (h : v.oneCell' = true) : v.cells = #[v] := by cases v <;> first | rfl | cases h

theorem oneAll_sound (h : SimB E N env mem a w β) : ∀ (l : List (Nat × Operand)) (i : Nat) {ps : List (Nat × SV)} {ob : List Prop}, partsOf env l = (ps, ob) → (∀ p ∈ ob, p) → oneAll i ps = true →
    ∃ vs : List Value, (l.map fun p => (p.1, a.eval p.2)) = (vs.zipIdx i).map (fun x => (x.2, x.1)) ∧ vs.length = ps.length ∧
      ∀ (k : Nat) (sv : SV) (v : Value), (ps.map (·.2))[k]? = some sv → vs[k]? = some v → v.oneCell' = true ∧ RepSV (allow E w β) w β mem sv v := by
  intro l
  induction l with
  | nil =>
    intro i ps ob hp _ _; simp only [partsOf, Prod.mk.injEq] at hp; obtain ⟨rfl, rfl⟩ := hp; exact ⟨[], rfl, rfl, by simp⟩
  | cons q l ih =>
    obtain ⟨j, x⟩ := q; intro i ps ob hp hob hall; simp only [partsOf] at hp; generalize hv : opv env x = vp at hp; obtain ⟨v, p⟩ := vp; generalize hr : partsOf env l = rp at hp; obtain ⟨r, rob⟩ := rp; simp only [Prod.mk.injEq] at hp; obtain ⟨rfl, rfl⟩ := hp; have hxv := opv_rep h hv (fun p hp => hob p (by simp [hp]))
    have key : j = i ∧ oneAll (i + 1) r = true ∧ (a.eval x).oneCell' = true := by
      cases v with
      | arr id ep =>
        simp only [oneAll, Bool.and_eq_true] at hall; refine ⟨Nat.eq_of_beq_eq_true hall.1, hall.2, ?_⟩; generalize a.eval x = y at hxv; cases hxv; assumption
      | sub id ep off len =>
        simp only [oneAll, Bool.and_eq_true] at hall; refine ⟨Nat.eq_of_beq_eq_true hall.1, hall.2, ?_⟩; generalize a.eval x = y at hxv; cases hxv; assumption
      | _ => simp [oneAll] at hall
    obtain ⟨rfl, hall, h1⟩ := key; obtain ⟨vs, k1, k2, k3⟩ := ih (j + 1) hr (fun p hp => hob p (by simp [hp])) hall; refine ⟨a.eval x :: vs, by simp [k1], by simp [k2], fun k sv u hk hu => ?_⟩
    cases k with
    | zero =>
      obtain rfl := Option.some.inj hk; obtain rfl := Option.some.inj hu; exact ⟨h1, hxv⟩
    | succ k => exact k3 k sv u (by simpa using hk) (by simpa using hu)

theorem buildSliceB_gives (h : SimB E N env mem a w β) (hty : CtxTy P C) {T id ep len : Nat} {t : Ty} (hT : C.ty T = some (.slice t)) (ht1 : t.size = 1) {parts : Array (Nat × Operand)} {svs : List SV} {vs : List Value}
    (h1 : (parts.toList.map fun p => (p.1, a.eval p.2)) = (vs.zipIdx 0).map (fun x => (x.2, x.1))) (h2 : vs.length = svs.length)
    (h4 : ∀ (k : Nat) (sv : SV) (v : Value), svs[k]? = some sv → vs[k]? = some v → v.oneCell' = true ∧ RepSV (allow E w β) w β mem sv v)
    (hln : len = vs.length) (hle : len ≤ 1000) (hep : (freshEp id).eval mem = some ep) :
    Gives P E N env (updm mem [(id, .box ep svs)]) a (Instr.buildSlice T len (parts.map fun p => (p.1, a.eval p.2))) w (.bsl id ep 0 len) := by
  obtain ⟨e, hu, he⟩ := (hty T _ hT).und; have hte := hty e t he; obtain ⟨i, z, hi, hisz, hi4, _, hz, hzr⟩ := hte.info
  have hone : ∀ v ∈ vs, v.oneCell' = true := by
    intro v hv; obtain ⟨k, hk, rfl⟩ := List.mem_iff_getElem.1 hv; exact (h4 k _ _ (List.getElem?_eq_getElem (show k < svs.length by omega)) (List.getElem?_eq_getElem hk)).1
  have hvs : ∀ v ∈ vs, v.cells.size = t.size := fun v hv => by rw [oneCell_cells (hone v hv), ht1]; rfl
  have hflat : (vs.flatMap fun v => v.cells.toList) = vs := by
    clear h1 h2 h4 hln hvs
    induction vs with
    | nil => rfl
    | cons v vs ih => rw [List.flatMap_cons, ih fun u hu => hone u (List.mem_cons_of_mem _ hu), oneCell_cells (hone v (List.mem_cons_self ..))]; rfl
  (have hzv : ∀ w, (zeroValue e).run P w = .ok z w := fun w => by simp [zeroValue, typeInfo, hi, hz]); have hsmall : ¬ (len * t.size > 2 ^ 24) := by rw [ht1]; omega
  have hfill : ∀ zs : Array Value, Instr.fill (fun i => some (i * t.size, t.size)) ((Array.range (len * t.size)).map (zs[· % zs.size]!)) (parts.map fun p => (p.1, a.eval p.2)).toList = some vs.toArray := by
    intro zs; rw [Array.toList_map, h1, ← hflat]; (conv => lhs; rw [hflat]); exact Great.fill_whole t.size_pos vs _ hvs (by simp [hln])
  have hrun : (Instr.buildSlice T len (parts.map fun p => (p.1, a.eval p.2))).run P w = .ok (.slice (some ⟨w.heap.size, 0, none⟩) len len) (w.alloc (.cells vs.toArray e)) := by
    simp only [Instr.buildSlice, Sem.run_bind, run_underlying hu, Result.andThen_ok, hte.size, hsmall, if_false, Sem.run_pure]; by_cases h0 : len * t.size = 0
    · simp only [h0, if_true, Sem.run_pure, Result.andThen_ok]; have := hfill #[]
      rw [h0] at this
      simp only [this, Sem.run_bind, run_newRow, Result.andThen_ok, Sem.run_pure]
    · simp only [h0, if_false, Sem.run_bind, hzv, Result.andThen_ok, Sem.run_pure]; simp only [hfill, Sem.run_bind, run_newRow, Result.andThen_ok, Sem.run_pure]
  have hs := h.alloc (k := .box ep svs) vs.toArray e len (freshEp_some hep) (fun w' β' mem' hA hm hb hh =>
    ⟨w.heap.size, len, _, e, hb, hh, by simp [h2], fun j sv hj => by
      have hjs : j < svs.length := (List.getElem?_eq_some_iff.1 hj).1; (have hjv : j < vs.length := by omega); obtain ⟨q1, q2⟩ := h4 j sv _ hj (List.getElem?_eq_getElem hjv)
      exact ⟨vs[j], by simp [hjv], q1, q2.mono hA hm⟩⟩)
  refine ⟨_, _, _, hrun, hs, ?_⟩; rw [updm_one]; exact .bsl _ _ _ _ _ len (Nat.le_refl _) ⟨_, setm_same _ _ _, Nat.le_refl _⟩ fun cells hc => ⟨len, Bind.set_same _ _ _⟩

theorem buildSlice_gives (h : SimB E N env mem a w β) (hty : CtxTy P C) {T id ep len : Nat} {t : Ty} (hT : C.ty T = some (.slice t)) {parts : Array (Nat × Operand)} {xs : List t.den} {vs : List Value}
    (h1 : (parts.toList.map fun p => (p.1, a.eval p.2)) = (vs.zipIdx 0).map (fun x => (x.2, x.1))) (h2 : vs.length = xs.length)
    (h4 : ∀ k (h1 : k < xs.length) (h2 : k < vs.length), RepV (allow E w β) w t xs[k] vs[k])
    (hln : len = vs.length) (hle : len ≤ 1000) (hep : (freshEp id).eval mem = some ep) :
    Gives P E N env (updm mem [(id, .arr ep t xs)]) a (Instr.buildSlice T len (parts.map fun p => (p.1, a.eval p.2))) w (.arr id ep) := by
  obtain ⟨e, hu, he⟩ := (hty T _ hT).und; have hte := hty e t he; obtain ⟨i, z, hi, hisz, hi4, _, hz, hzr⟩ := hte.info; have hpos := t.size_pos
  have hvs : ∀ v ∈ vs, v.cells.size = t.size := by
    intro v hv; obtain ⟨k, hk, rfl⟩ := List.mem_iff_getElem.1 hv; exact (h4 k (by omega) hk).cells.2
  have hzv : ∀ w, (zeroValue e).run P w = .ok z w := fun w => by simp [zeroValue, typeInfo, hi, hz]
  have hsmall : ¬ (len * t.size > 2 ^ 24) := by
    have : len * t.size ≤ 1000 * 4096 := Nat.mul_le_mul hle (by omega); omega
  have hfill : ∀ zs : Array Value, Instr.fill (fun i => some (i * t.size, t.size)) ((Array.range (len * t.size)).map (zs[· % zs.size]!)) (parts.map fun p => (p.1, a.eval p.2)).toList = some (vs.flatMap fun v => v.cells.toList).toArray := by
    intro zs; rw [Array.toList_map, h1]; exact Great.fill_whole hpos vs _ hvs (by simp [hln])
  have hrun : (Instr.buildSlice T len (parts.map fun p => (p.1, a.eval p.2))).run P w = .ok (.slice (some ⟨w.heap.size, 0, none⟩) len len) (w.alloc (.cells (vs.flatMap fun v => v.cells.toList).toArray e)) := by
    simp only [Instr.buildSlice, Sem.run_bind, run_underlying hu, Result.andThen_ok, hte.size, hsmall, if_false, Sem.run_pure]; by_cases h0 : len * t.size = 0
    · simp only [h0, if_true, Sem.run_pure, Result.andThen_ok]; have := hfill #[]
      rw [h0] at this
      simp only [this, Sem.run_bind, run_newRow, Result.andThen_ok, Sem.run_pure]
    · simp only [h0, if_false, Sem.run_bind, hzv, Result.andThen_ok, Sem.run_pure]; simp only [hfill, Sem.run_bind, run_newRow, Result.andThen_ok, Sem.run_pure]
  have hflen : (vs.flatMap fun v => v.cells.toList).length = len * t.size := by
    rw [List.length_flatMap, hln]; clear h1 h4 hfill hrun hsmall h2 hln
    induction vs with
    | nil => simp
    | cons v vs ih =>
      simp only [List.map_cons, List.sum_cons, List.length_cons]; rw [ih (fun u hu => hvs u (by simp [hu])), Array.length_toList, hvs v (by simp), Nat.add_mul]; omega
  have hs := h.alloc (k := .arr ep t xs) (vs.flatMap fun v => v.cells.toList).toArray e len (freshEp_some hep) (fun w' β' mem' hA hm hb hh =>
    ⟨by omega, .inr ⟨w.heap.size, len, _, e, fun k => (vs.getD k undef).cells.toList, hb, hh, by simpa using hflen, by omega, fun k hk => by
      (have hkv : k < vs.length := by omega); have hr := (h4 k hk hkv).cells.1; (have e1 : vs.getD k undef = vs[k] := by simp [hkv]); dsimp only; rw [e1]; refine ⟨by rw [Array.length_toList]; exact hvs _ (List.getElem_mem hkv), fun j v hj => ?_, hr.mono hA⟩
      have hjs : j < t.size := by
        have := (List.getElem?_eq_some_iff.1 hj).1
        rw [Array.length_toList, hvs _ (List.getElem_mem hkv)] at this
        exact this
      have := Great.flat_get hpos vs hvs (k * t.size + j)
      rw [Nat.mul_comm k, Nat.mul_add_div hpos, Nat.div_eq_of_lt hjs, Nat.mul_add_mod, Nat.mod_eq_of_lt hjs, Nat.add_zero, List.getElem?_eq_getElem hkv] at this
      rw [Nat.mul_comm k]
      simpa [this] using hj⟩⟩)
  refine ⟨_, _, _, hrun, hs, ?_⟩; rw [updm_one]; refine .arr _ ep _ ⟨_, setm_same _ _ _, Nat.le_refl _⟩ rfl fun u zs hm => ?_; rw [setm_same] at hm; simp only [Option.some.injEq, Blk.arr.injEq, true_and] at hm; obtain ⟨rfl, hm⟩ := hm; obtain rfl := eq_of_heq hm; rw [Bind.set_same, ← h2, ← hln]; exact ⟨⟨w.heap.size, 0, none⟩, rfl, by omega, fun _ => by simp⟩

theorem makeSlice_gives (h : SimB E N env mem a w β) (hty : CtxTy P C) {T id ep : Nat} {t : Ty} (hT : C.ty T = some (.slice t)) {k1 k2 : IntKind} {n m : Int} (hnm : 0 ≤ n ∧ n ≤ m ∧ m ≤ 4294967296)
    (hep : (freshEp id).eval mem = some ep) :
    Gives P E N env (updm mem [(id, .arr ep t (List.replicate n.toNat t.zero))]) a (Instr.makeSlice T (.int k1 n) (.int k2 m)) w (.arr id ep) := by
  obtain ⟨e, hu, he⟩ := (hty T _ hT).und; have hte := hty e t he; obtain ⟨i, z, hi, hisz, hi4, hby, hz, hzr⟩ := hte.info
  have hrun := run_make (P := P) w T e i z hu hi hz k1 k2 n m hnm.1 hnm.2.1 (by
    have : (i.bytes : Int) * m ≤ 4096 * 4294967296 := Int.mul_le_mul (by omega) hnm.2.2 (by omega) (by omega)
    rw [Int.mul_comm] at this
    first | omega | (rw [Int.mul_comm]; omega)) (by omega)
  have hzc := (hzr (allow E w β) w).cells; rw [hisz] at hrun
  have hs := h.alloc (k := .arr ep t (List.replicate n.toNat t.zero)) (madeCells z.cells (m.toNat * t.size)) e m.toNat (freshEp_some hep) (fun w' β' mem' hA hm hb hh =>
    ⟨by simp; omega, .inr ⟨w.heap.size, m.toNat, _, e, fun _ => z.cells.toList, hb, hh, by simp [madeCells], by simp; omega, fun k hk => by
      (have hk' : k < n.toNat := by simpa using hk); refine ⟨by rw [Array.length_toList]; exact hzc.2, fun j v hj => ?_, by simpa using (hzr (allow E w' β') w').cells.1⟩
      have hjs : j < t.size := by
        have := (List.getElem?_eq_some_iff.1 hj).1
        rwa [Array.length_toList, hzc.2] at this
      have hlt : k * t.size + j < m.toNat * t.size := by
        have : (k + 1) * t.size ≤ m.toNat * t.size := Nat.mul_le_mul_right _ (by omega); rw [Nat.add_mul] at this; omega
      (have hj2 : j < z.cells.size := by rw [hzc.2]; exact hjs); (have : (k * t.size + j) % z.cells.size = j := by rw [hzc.2, Nat.mul_comm, Nat.mul_add_mod, Nat.mod_eq_of_lt hjs]); simp only [madeCells, Array.getElem?_map, Array.getElem?_range, hlt, if_true, Option.map_some, this]; simp at hj; simp [hj2] at hj ⊢
      exact hj⟩⟩)
  refine ⟨_, _, _, hrun, hs, ?_⟩; rw [updm_one]; refine .arr _ ep _ ⟨_, setm_same _ _ _, Nat.le_refl _⟩ rfl fun u zs hm => ?_; rw [setm_same] at hm; simp only [Option.some.injEq, Blk.arr.injEq, true_and] at hm; obtain ⟨rfl, hm⟩ := hm; obtain rfl := eq_of_heq hm; rw [Bind.set_same]; exact ⟨⟨w.heap.size, 0, none⟩, by simp, by simp; omega, fun _ => by simp⟩


theorem buildOwned_sound (h : SimB E N env mem a w β) {t : Ty} : ∀ (l : List (Nat × Operand)) (i : Nat) {ps : List (Nat × SV)} {ob : List Prop} {xs : List t.den}, partsOf env l = (ps, ob) → (∀ p ∈ ob, p) →
    (ps.flatMap fun p => lentIds fuel p.2).Nodup → (buildOwned t i ps).eval mem = some xs → ∃ (vs : List Value) (T : Nat → Nat → Prop), (l.map fun p => (p.1, a.eval p.2)) = (vs.zipIdx i).map (fun x => (x.2, x.1)) ∧ vs.length = xs.length ∧ ps.length = vs.length ∧
      (∀ k c, k < xs.length → T k c → Moved β (ps.flatMap fun p => lentIds fuel p.2) c) ∧ (∀ j k c, j < xs.length → k < xs.length → T j c → T k c → j = k) ∧
      ∀ k (h1 : k < xs.length) (h2 : k < vs.length), RepVO w t xs[k] vs[k] (T k) := by
  intro l
  induction l with
  | nil =>
    intro i ps ob xs hp _ _ hb; simp only [partsOf, Prod.mk.injEq] at hp; obtain ⟨rfl, rfl⟩ := hp; simp only [buildOwned, Rd.eval, Option.some.injEq] at hb; subst hb; exact ⟨[], fun _ _ => False, rfl, rfl, rfl, by simp, by simp, by simp⟩
  | cons q l ih =>
    obtain ⟨j, x⟩ := q; intro i ps ob xs hp hob hnd hb; simp only [partsOf] at hp; generalize hv : opv env x = vp at hp; obtain ⟨v, p⟩ := vp; generalize hr : partsOf env l = rp at hp; obtain ⟨r, rob⟩ := rp; simp only [Prod.mk.injEq] at hp; obtain ⟨rfl, rfl⟩ := hp; simp only [buildOwned] at hb; simp only [List.flatMap_cons] at hnd ⊢; split at hb
    · rename_i e; subst e; obtain ⟨y, hy, hb⟩ := Rd.bind_some hb; obtain ⟨ys, hys, hb⟩ := Rd.bind_some hb; simp only [Rd.eval, Option.some.injEq] at hb; subst hb; obtain ⟨vs, T, k1, k2, k3, k4, k5, k6⟩ := ih (j + 1) hr (fun p hp => hob p (by simp [hp])) (List.nodup_append.1 hnd).2.1 hys; have hxv := opv_rep h hv (fun p hp => hob p (by simp [hp])); have hO := ownD_sound h (A := allow E w β) fuel (List.nodup_append.1 hnd).1 hxv hy
      have hdis : ∀ c, Moved β (lentIds fuel v) c → ¬ Moved β (r.flatMap fun p => lentIds fuel p.2) c := by
        rintro c ⟨i, hi, h1⟩ ⟨j, hj, h2⟩; have := Held.inj h h1 h2
        subst this
        exact (List.nodup_append.1 hnd).2.2 i hi i hj rfl
      refine ⟨a.eval x :: vs, fun k => match k with | 0 => Moved β (lentIds fuel v) | k + 1 => T k, by simp [k1], by simp [k2], by simp [k3], fun k c hk hc => ?_, fun k m c hk hm h1 h2 => ?_, fun k h1 h2 => ?_⟩
      · cases k with
        | zero => exact Moved.mono (fun i hi => List.mem_append_left _ hi) hc
        | succ k => exact Moved.mono (fun i hi => List.mem_append_right _ hi) (k4 k c (by simpa using hk) hc)
      · cases k with
        | zero =>
          cases m with
          | zero => rfl
          | succ m => exact absurd (k4 m c (by simpa using hm) h2) (hdis c h1)
        | succ k =>
          cases m with
          | zero => exact absurd (k4 k c (by simpa using hk) h1) (hdis c h2)
          | succ m => exact congrArg (· + 1) (k5 k m c (by simpa using hk) (by simpa using hm) h1 h2)
      · cases k with
        | zero => exact hO
        | succ k => exact k6 k (by simpa using h1) (by simpa using h2)
    · simp [Rd.eval] at hb

theorem buildSliceT_gives (h : SimB E N env mem a w β) (hty : CtxTy P C) {T id ep len : Nat} {t : Ty} (hT : C.ty T = some (.slice t)) {parts : Array (Nat × Operand)} {xs : List t.den} {vs : List Value}
    (h1 : (parts.toList.map fun p => (p.1, a.eval p.2)) = (vs.zipIdx 0).map (fun x => (x.2, x.1))) (h2 : vs.length = xs.length)
    {ids : List Nat} {ks : List (Nat × Blk)} {T' : Nat → Nat → Prop} (hT1 : ∀ k c, k < xs.length → T' k c → Moved β ids c) (hT2 : ∀ j k c, j < xs.length → k < xs.length → T' j c → T' k c → j = k)
    (hnd : nodupN ids = true) (hks : (killed ids).eval mem = some ks) (hid : id ∉ ids)
    (h4 : ∀ k (h1 : k < xs.length) (h2 : k < vs.length), RepVO w t xs[k] vs[k] (T' k))
    (hln : len = vs.length) (hle : len ≤ 1000) (hep : (freshEp id).eval mem = some ep) :
    Gives P E N env (updm mem (ks ++ [(id, .tree ep t xs)])) a (Instr.buildSlice T len (parts.map fun p => (p.1, a.eval p.2))) w (.tr id ep) := by
  obtain ⟨e, hu, he⟩ := (hty T _ hT).und; have hte := hty e t he; obtain ⟨i, z, hi, hisz, hi4, _, hz, hzr⟩ := hte.info; have hpos := t.size_pos
  have hvs : ∀ v ∈ vs, v.cells.size = t.size := by
    intro v hv; obtain ⟨k, hk, rfl⟩ := List.mem_iff_getElem.1 hv; exact (h4 k (by omega) hk).cells.2
  have hzv : ∀ w, (zeroValue e).run P w = .ok z w := fun w => by simp [zeroValue, typeInfo, hi, hz]
  have hsmall : ¬ (len * t.size > 2 ^ 24) := by
    have : len * t.size ≤ 1000 * 4096 := Nat.mul_le_mul hle (by omega); omega
  have hfill : ∀ zs : Array Value, Instr.fill (fun i => some (i * t.size, t.size)) ((Array.range (len * t.size)).map (zs[· % zs.size]!)) (parts.map fun p => (p.1, a.eval p.2)).toList = some (vs.flatMap fun v => v.cells.toList).toArray := by
    intro zs; rw [Array.toList_map, h1]; exact Great.fill_whole hpos vs _ hvs (by simp [hln])
  have hrun : (Instr.buildSlice T len (parts.map fun p => (p.1, a.eval p.2))).run P w = .ok (.slice (some ⟨w.heap.size, 0, none⟩) len len) (w.alloc (.cells (vs.flatMap fun v => v.cells.toList).toArray e)) := by
    simp only [Instr.buildSlice, Sem.run_bind, run_underlying hu, Result.andThen_ok, hte.size, hsmall, if_false, Sem.run_pure]; by_cases h0 : len * t.size = 0
    · simp only [h0, if_true, Sem.run_pure, Result.andThen_ok]; have := hfill #[]
      rw [h0] at this
      simp only [this, Sem.run_bind, run_newRow, Result.andThen_ok, Sem.run_pure]
    · simp only [h0, if_false, Sem.run_bind, hzv, Result.andThen_ok, Sem.run_pure]; simp only [hfill, Sem.run_bind, run_newRow, Result.andThen_ok, Sem.run_pure]
  have hflen : (vs.flatMap fun v => v.cells.toList).length = len * t.size := by
    rw [List.length_flatMap, hln]; clear h1 h4 hfill hrun hsmall h2 hln
    induction vs with
    | nil => simp
    | cons v vs ih =>
      simp only [List.map_cons, List.sum_cons, List.length_cons]; rw [ih (fun u hu => hvs u (by simp [hu])), Array.length_toList, hvs v (by simp), Nat.add_mul]; omega
  generalize hrow : (vs.flatMap fun v => v.cells.toList) = row at hrun hflen; have hsz1 : (w.alloc (.cells row.toArray e)).heap.size = w.heap.size + 1 := by show (w.heap.push _).size = _; simp
  have hget : ∀ b, b < w.heap.size → (w.alloc (.cells row.toArray e)).heap[b]? = w.heap[b]? := fun b hb => by
    show (w.heap.push _)[b]? = _; rw [Array.getElem?_push, if_neg (by omega)]
  have hnew : (w.alloc (.cells row.toArray e)).heap[w.heap.size]? = some (.cells row.toArray e (0, 0)) := by show (w.heap.push _)[w.heap.size]? = _; simp
  have ht := h.take (w' := w.alloc (.cells row.toArray e)) (ids := ids) (id := id) (k := .tree ep t xs) (bc := some (w.heap.size, len)) hnd hks hid rfl
    (fun k0 hk0 => .inl ((freshEp_some hep).2 k0 hk0)) rfl rfl ⟨rfl, Nat.le_refl _⟩ (by rw [hsz1]; omega) (fun b C e => by
      simp only [Option.some.injEq, Prod.mk.injEq] at e; obtain ⟨rfl, rfl⟩ := e
      exact ⟨by rw [hsz1]; omega, .inl (Nat.le_refl _)⟩) (fun b hb _ => hget b hb)
    (fun hO => ⟨by omega, .inr ⟨w.heap.size, len, _, e, fun k => (vs.getD k undef).cells.toList, T', Bind.take_same _ _ _ _, hnew, by simpa using hflen, by omega,
      fun k c hk hc => Bind.take_own (hT1 k c hk hc), hT2, fun k hk => by
      (have hkv : k < vs.length := by omega); have hr := (h4 k hk hkv).cells.1; (have e1 : vs.getD k undef = vs[k] := by simp [hkv]); dsimp only; rw [e1]; refine ⟨by rw [Array.length_toList]; exact hvs _ (List.getElem_mem hkv), fun j v hj => ?_, hr.mono fun c hc => ⟨hc, hO c (.inl (hT1 k c hk hc))⟩⟩
      have hjs : j < t.size := by
        have := (List.getElem?_eq_some_iff.1 hj).1
        rw [Array.length_toList, hvs _ (List.getElem_mem hkv)] at this
        exact this
      have := Great.flat_get hpos vs hvs (k * t.size + j)
      rw [Nat.mul_comm k, Nat.mul_add_div hpos, Nat.div_eq_of_lt hjs, Nat.mul_add_mod, Nat.mod_eq_of_lt hjs, Nat.add_zero, List.getElem?_eq_getElem hkv] at this
      rw [Nat.mul_comm k, ← hrow]
      simpa [this] using hj⟩⟩)
  (have hmemw : updm mem (ks ++ [(id, .tree ep t xs)]) = setm (updm mem ks) id (.tree ep t xs) := by rw [updm_append, updm_one]); refine ⟨_, _, _, hrun, by rw [hmemw]; exact ht.1, ?_⟩; rw [hmemw]; refine tr_rep rfl ?_; rw [Bind.take_same, ← h2, ← hln]; exact ⟨⟨w.heap.size, 0, none⟩, rfl, by omega, fun _ => by simp⟩

theorem makeSliceT_gives (h : SimB E N env mem a w β) (hty : CtxTy P C) {T id ep : Nat} {t : Ty} (hT : C.ty T = some (.slice t)) {k1 k2 : IntKind} {n m : Int} (hnm : 0 ≤ n ∧ n ≤ m ∧ m ≤ 4294967296)
    (hep : (freshEp id).eval mem = some ep) :
    Gives P E N env (updm mem [(id, .tree ep t (List.replicate n.toNat t.zero))]) a (Instr.makeSlice T (.int k1 n) (.int k2 m)) w (.tr id ep) := by
  obtain ⟨e, hu, he⟩ := (hty T _ hT).und; have hte := hty e t he; obtain ⟨i, z, hi, hisz, hi4, hby, hz, hzr⟩ := hte.info
  have hrun := run_make (P := P) w T e i z hu hi hz k1 k2 n m hnm.1 hnm.2.1 (by
    have : (i.bytes : Int) * m ≤ 4096 * 4294967296 := Int.mul_le_mul (by omega) hnm.2.2 (by omega) (by omega)
    rw [Int.mul_comm] at this
    first | omega | (rw [Int.mul_comm]; omega)) (by omega)
  have hzc := (hzr (allow E w β) w).cells; rw [hisz] at hrun; have hzk := hte.zc i z hi hz
  have hs := h.alloc (k := .tree ep t (List.replicate n.toNat t.zero)) (madeCells z.cells (m.toNat * t.size)) e m.toNat (freshEp_some hep) (fun w' β' mem' hA hm hb hh =>
    ⟨by simp; omega, .inr ⟨w.heap.size, m.toNat, _, e, fun _ => z.cells.toList, fun _ _ => False, hb, hh, by simp [madeCells], by simp; omega, by simp, by simp, fun k hk => by
      have hk' : k < n.toNat := by simpa using hk
      refine ⟨by rw [Array.length_toList]; exact hzc.2, fun j v hj => ?_, by
        have h1 := (hzr (allow E w' β') w').cells.1; rw [hzk] at h1 ⊢
        simpa using zero_repO fuel h1⟩
      have hjs : j < t.size := by
        have := (List.getElem?_eq_some_iff.1 hj).1
        rwa [Array.length_toList, hzc.2] at this
      have hlt : k * t.size + j < m.toNat * t.size := by
        have : (k + 1) * t.size ≤ m.toNat * t.size := Nat.mul_le_mul_right _ (by omega); rw [Nat.add_mul] at this; omega
      (have hj2 : j < z.cells.size := by rw [hzc.2]; exact hjs); (have : (k * t.size + j) % z.cells.size = j := by rw [hzc.2, Nat.mul_comm, Nat.mul_add_mod, Nat.mod_eq_of_lt hjs]); simp only [madeCells, Array.getElem?_map, Array.getElem?_range, hlt, if_true, Option.map_some, this]; simp at hj; simp [hj2] at hj ⊢
      exact hj⟩⟩)
  refine ⟨_, _, _, hrun, hs, ?_⟩; rw [updm_one]; refine tr_rep rfl ?_; rw [Bind.set_same]; exact ⟨⟨w.heap.size, 0, none⟩, by simp, by simp; omega, fun _ => by simp⟩

theorem appendZ_gives (h : SimB E N env mem a w β) (hty : CtxTy P C) {T T' ty d : Nat} {t : Ty} (hT : C.ty T = some (.slice t)) {sv sy : SV} {v x : Value} {r : Res}
    (hv : RepSV (allow E w β) w β mem sv v) (hx : RepSV (allow E w β) w β mem sy x) (hs : (appendZ C d t T' sv sy).eval mem = some r) (hob : ∀ p ∈ r.ob, p) :
    Gives P E N env (updm mem r.memw) a (Builtin.append_ #[T, T'] ty #[v, x]) w r.val := by
  unfold appendZ at hs; split at hs
  case h_2 => simp [Rd.eval] at hs
  rename_i n; split at hs
  case isFalse => simp [Rd.eval] at hs
  rename_i hT'; obtain ⟨hT', hts⟩ := hT'; obtain ⟨ep, hep, hs⟩ := Rd.bind_some hs; simp only [Rd.eval, Option.some.injEq] at hs; subst hs; have hn : 0 < n ∧ n ≤ 4294967296 := hob _ (List.mem_singleton.2 rfl); obtain ⟨m, rfl⟩ : ∃ m : Nat, n = (m : Int) := ⟨n.toNat, by omega⟩; simp only [Int.toNat_natCast]; cases hv; cases hx; obtain ⟨e, hu, he⟩ := (hty T _ hT).und; have hu' : P.underlying T' = some (.int .i64) := (hty T' _ hT').und; have hte := hty e t he; obtain ⟨i, z, hi, hisz, hi4, hby, hz, hzr⟩ := hte.info; have hzc := (hzr (allow E w β) w).cells; have hm48 : m * i.bytes ≤ 4294967296 * 4096 := Nat.mul_le_mul (by omega) hby
  have hrun := Lib.run_append_grow_zeros (P := P) w T T' ty e i z .i64 .i64 hu hu' hi hz none 0 0 [] (by simp [Builtin.firstCells]) m (by omega) (by omega) (by omega) (by omega) (by omega)
    (growslice_fits (by omega) (by simpa using Nat.le_trans hm48 (by decide)))
  rw [Nat.zero_add] at hrun; generalize hcapn : grownCap w m 0 e = capn at hrun; (have hcapn' : m ≤ capn := by rw [← hcapn]; exact grownCap_le w e (by omega)); generalize hrow : ([] : List Value).toArray ++ Builtin.zeroCells z.cells m ++ Builtin.zeroCells z.cells (capn - m) = row at hrun
  have hrl : row.size = capn * t.size := by
    rw [← hrow]; simp only [Array.size_append, size_zeroCells, hzc.2]; simp only [List.size_toArray, List.length_nil, Nat.zero_add]; rw [← Nat.add_mul]; congr 1; omega
  have hsim := h.drew.alloc (k := .arr ep t (List.replicate m t.zero)) row e capn (freshEp_some hep) (fun w' β' mem' hA hm hb hh =>
    ⟨by simp; omega, .inr ⟨w.heap.size, capn, row, e, fun _ => z.cells.toList, hb, hh, hrl, by simpa using hcapn', fun k hk => by
      (have hk' : k < m := by simpa using hk); refine ⟨by rw [Array.length_toList]; exact hzc.2, fun j v hj => ?_, by simpa using (hzr (allow E w' β') w').cells.1⟩
      have hjs : j < t.size := by
        have := (List.getElem?_eq_some_iff.1 hj).1
        rwa [Array.length_toList, hzc.2] at this
      have hlt : k * t.size + j < m * t.size := by
        have : (k + 1) * t.size ≤ m * t.size := Nat.mul_le_mul_right _ (by omega); rw [Nat.add_mul] at this; omega
      (have hj2 : j < z.cells.size := by rw [hzc.2]; exact hjs); have e1 : (k * t.size + j) % t.size = j := by rw [Nat.mul_comm, Nat.mul_add_mod, Nat.mod_eq_of_lt hjs]
      have e2 : row[k * t.size + j]? = (Builtin.zeroCells z.cells m)[k * t.size + j]? := by
        rw [← hrow, Array.getElem?_append, if_pos (by simp only [Array.size_append, size_zeroCells, hzc.2]; simpa using hlt)]; simp
      rw [e2]; simp only [Builtin.zeroCells, Array.getElem?_map, Array.getElem?_range, hzc.2, hlt, if_true, Option.map_some]; rw [e1]; simp at hj; simp [hj2] at hj ⊢
      exact hj⟩⟩)
  refine ⟨_, _, _, hrun, hsim, ?_⟩; rw [updm_one]; refine .arr _ ep _ ⟨_, setm_same _ _ _, Nat.le_refl _⟩ rfl fun u zs hm => ?_; rw [setm_same] at hm; simp only [Option.some.injEq, Blk.arr.injEq, true_and] at hm; obtain ⟨rfl, hm⟩ := hm; obtain rfl := eq_of_heq hm; rw [Bind.set_same]; exact ⟨⟨w.heap.size, 0, none⟩, by simp, by simp; omega, fun _ => by simp⟩


omit U in
theorem run_copy_in {P : Program} {w : World} {T T' ty e : TypeId} {size : Nat} (ht : P.underlying T = some (.slice e)) (hsz : (sizeOf e).run P w = .ok size w)
    {g dLen dCap el n : Nat} {cur : Array Value} (hg : w.heap[g]? = some (.cells cur el (0, 0))) {x : Value} {news : List Value}
    (hlen : (Builtin.lenOf x).run P w = .ok n w) (hn : n ≤ dLen) (hf : (Builtin.firstCells size n x).run P w = .ok news.toArray w) (h1 : ∀ u ∈ news, u.oneCell' = true)
    (hfit : news.length ≤ cur.size) :
    (Builtin.copy_ #[T, T'] ty #[.slice (some ⟨g, 0, none⟩) dLen dCap, x]).run P w =
      .ok (goInt n) (w.setRow g (cur.toList.take 0 ++ news ++ cur.toList.drop (0 + news.length)).toArray) := by
  have hst := run_storeCells_at P g 0 el news 0 cur w hg (by simpa using hfit) h1; have hm : Nat.min n dLen = n := Nat.min_eq_left hn; simp only [Nat.add_zero] at hst; simp [Builtin.copy_, run_underlying ht, hsz, hlen, hm, hf, hst]

omit U in
theorem run_copy_in_nil {P : Program} {w : World} {T T' ty e : TypeId} {size : Nat} (ht : P.underlying T = some (.slice e)) (hsz : (sizeOf e).run P w = .ok size w) {x : Value} {news : Array Value}
    (hlen : (Builtin.lenOf x).run P w = .ok 0 w) (hf : (Builtin.firstCells size 0 x).run P w = .ok news w) :
    (Builtin.copy_ #[T, T'] ty #[.slice none 0 0, x]).run P w = .ok (goInt (0 : Nat)) w := by
  simp [Builtin.copy_, run_underlying ht, hsz, hlen, hf]

theorem copy_gives (h : SimB E N env mem a w β) {T T' ty : Nat} {t : Ty} (hty : CtxTy P C) (hT : C.ty T = some (.slice t)) {sv sy : SV} {v x : Value} {ys : List t.den} {r : Res}
    (hv : RepSV (allow E w β) w β mem sv v) (hx : RepSV (allow E w β) w β mem sy x) (hl : (listOf t sy).eval mem = some ys) (hs : (copySV t sv ys).eval mem = some r) (hob : ∀ p ∈ r.ob, p) :
    Gives P E N env (updm mem r.memw) a (Builtin.copy_ #[T, T'] ty #[v, x]) w r.val := by
  obtain ⟨dss, hsrc⟩ := listOf_src (P := P) h hx hl; obtain ⟨e, hu, he⟩ := (hty T _ hT).und; have hte := hty e t he; have hszr := hte.size w
  have i64m : ∀ n : Nat, (n : Int) ≤ 4294967296 → IntKind.i64.min ≤ (n : Int) ∧ (n : Int) ≤ IntKind.i64.max := fun n hn => by
    (have e1 : IntKind.i64.min = -9223372036854775808 := by decide); (have e2 : IntKind.i64.max = 9223372036854775807 := by decide); omega
  cases hv with
  | arr id ep v hm h1 hv =>
    simp only [copySV] at hs; replace hs := Rd.mem_some hs
    cases hmi : mem id with
    | none => rw [hmi] at hs; simp [Rd.eval] at hs
    | some k =>
      rw [hmi] at hs
      cases k with
      | box => simp [Rd.eval] at hs
      | tree => simp [Rd.eval] at hs
      | dead => simp [Rd.eval] at hs
      | mp => simp [Rd.eval] at hs
      | hole => simp [Rd.eval] at hs
      | arr ep' u xs =>
        simp only at hs; split at hs
        · rename_i e1; subst e1; split at hs
          · rename_i zs hz; obtain ⟨e2, rfl⟩ := TV.to_some hz; (obtain rfl : u = t := by injection e2); simp only [Rd.eval, Option.some.injEq] at hs; subst hs; have hlen : xs.length = ys.length := hob _ (List.mem_singleton.2 rfl); have hv := hv _ _ hmi; obtain ⟨hlim, ⟨hb, rfl⟩ | ⟨b, D, cs, el, css, hb, hh, hsz, hD, hel⟩⟩ := h.blk id _ hmi
            · rw [hb] at hv; obtain ⟨_, _, rfl⟩ := hv; have hy : ys = [] := List.length_eq_zero_iff.1 hlen.symm; subst hy; have hrun := run_copy_in_nil (T' := T') (ty := ty) hu hszr (x := x) (by rw [hsrc.len w]; rfl) (hsrc.cells w rfl)
              have e2 : setm mem id (.arr ep' u ([] : List u.den)) = mem := by
                funext j; by_cases hj : j = id
                · subst hj; rw [setm_same, hmi]
                · rw [setm_ne _ _ hj]
              refine ⟨_, _, β, hrun, by rw [updm_one, e2]; exact h, ?_⟩; have := i64m ([] : List u.den).length (by simp); exact .int _ _ this.1 this.2
            · rw [hb] at hv; obtain ⟨p, rfl, hle2, hp⟩ := hv; obtain rfl := hp (.inl rfl); simp only [Nat.sub_zero, Nat.zero_mul, Nat.zero_add] at *; have hnl : (cat dss ys.length).length = ys.length * u.size := cat_length hsrc.cl
              have hfit : (cat dss ys.length).length ≤ cs.size := by
                rw [hnl, hsz]; exact Nat.mul_le_mul_right _ (by omega)
              have hrun := run_copy_in (T' := T') (ty := ty) (dCap := D) hu hszr hh (hsrc.len w) (Nat.le_of_eq hlen.symm) (hsrc.cells w rfl) (cat_one hsrc) hfit
              have hs := h.write (w' := w.setRow b (cs.toList.take 0 ++ cat dss ys.length ++ cs.toList.drop (0 + (cat dss ys.length).length)).toArray)
                (id := id) (k := .arr ep' u ys) hmi hb (Nat.le_refl _) (fun _ => ⟨rfl, hlen⟩) rfl rfl rfl ⟨rfl, Nat.le_refl _⟩ (by simp) (fun c hc => setRow_other _ _ _ _ hc)
                ⟨by rw [← hlen]; exact hlim, .inr ⟨b, D, _, el, dss, hb, setRow_heap _ _ _ _ _ _ hh, by
                  simp only [List.size_toArray, List.length_append, List.length_take, List.length_drop, Array.length_toList]
                  omega, by omega, by
                  have hA : ∀ c, allow E w β c → allow E (w.setRow b (cs.toList.take 0 ++ cat dss ys.length ++ cs.toList.drop (0 + (cat dss ys.length).length)).toArray) β c ∧
                      (w.setRow b (cs.toList.take 0 ++ cat dss ys.length ++ cs.toList.drop (0 + (cat dss ys.length).length)).toArray).heap[c]? = w.heap[c]? := by
                    rintro c ⟨c1, c2, c3⟩; exact ⟨⟨by simpa using c1, c2, c3⟩, setRow_other _ _ _ _ (by rintro rfl; exact c3.1 id D hb)⟩
                  intro k hk; refine ⟨hsrc.cl k hk, fun j v hj => ?_, (hsrc.rep k hk).mono hA⟩; have hjl : j < u.size := by rw [← hsrc.cl k hk]; exact (List.getElem?_eq_some_iff.1 hj).1
                  have hlt : k * u.size + j < (cat dss ys.length).length := by
                    rw [hnl]; have : (k + 1) * u.size ≤ ys.length * u.size := Nat.mul_le_mul_right _ (by omega); rw [Nat.add_mul] at this; omega
                  simp only [List.take_zero, List.nil_append, List.getElem?_toArray]; rw [List.getElem?_append_left hlt, cat_get hsrc.cl hk hjl]
                  exact hj⟩⟩
              refine ⟨_, _, β, hrun, by rw [updm_one]; exact hs, ?_⟩; have := i64m ys.length (by rw [← hlen]; exact hlim); exact .int _ _ this.1 this.2
          · simp [Rd.eval] at hs
        · simp [Rd.eval] at hs
  | _ => simp [copySV, Rd.eval] at hs

end
end Go.Am
