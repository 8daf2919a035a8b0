/-
  Am, part I: append, make, literals, stores.
-/
import Derived.Test.YtjcjpeckfikfkaaAmH
set_option linter.all false
namespace Go.Am
variable [U : Univ]

omit U in
theorem run_append_in {P : Program} {w : World} {T T' ty e e' : TypeId} {size : Nat} (ht : P.underlying T = some (.slice e)) (ht' : P.underlying T' = some (.slice e'))
    (hsz : (sizeOf e).run P w = .ok size w)
    {g sLen sCap el n : Nat} {cur : Array Value} (hg : w.heap[g]? = some (.cells cur el (0, 0))) {x : Value} {news : List Value}
    (hlen : (Builtin.lenOf x).run P w = .ok n w) (hf : (Builtin.firstCells size n x).run P w = .ok news.toArray w) (h1 : ∀ u ∈ news, u.oneCell' = true)
    (hroom : sLen + n ≤ sCap) (hfit : sLen * size + news.length ≤ cur.size) :
    (Builtin.append_ #[T, T'] ty #[.slice (some ⟨g, 0, none⟩) sLen sCap, x]).run P w =
      .ok (.slice (some ⟨g, 0, none⟩) (sLen + n) sCap) (w.setRow g (cur.toList.take (sLen * size) ++ news ++ cur.toList.drop (sLen * size + news.length)).toArray) := by
  have hst := run_storeCells_at P g (sLen * size) el news 0 cur w hg (by simpa using hfit) h1
  simp only [Nat.add_zero] at hst
  simp [Builtin.append_, run_underlying ht, run_underlying ht', hsz, hlen, hroom, hf, Addr.add_lit, hst]

omit U in
theorem run_append_in_nil {P : Program} {w : World} {T T' ty e e' : TypeId} {size : Nat} (ht : P.underlying T = some (.slice e)) (ht' : P.underlying T' = some (.slice e'))
    (hsz : (sizeOf e).run P w = .ok size w) {x : Value} {news : Array Value}
    (hlen : (Builtin.lenOf x).run P w = .ok 0 w) (hf : (Builtin.firstCells size 0 x).run P w = .ok news w) :
    (Builtin.append_ #[T, T'] ty #[.slice none 0 0, x]).run P w = .ok (.slice none 0 0) w := by
  simp [Builtin.append_, run_underlying ht, run_underlying ht', hsz, hlen, hf]

omit U in
theorem run_append_up {P : Program} {w : World} {T T' ty e e' : TypeId} {i : TypeInfo} {z : Value} (ht : P.underlying T = some (.slice e)) (ht' : P.underlying T' = some (.slice e'))
    (hi : P.info? e = some i) (hzero : i.zero = some z)
    {base : Option Addr} {sLen sCap n : Nat} {x : Value} {olds news : List Value}
    (hlen : (Builtin.lenOf x).run P w = .ok n w) (ho : (Builtin.firstCells i.size sLen (.slice base sLen sCap)).run P w.drew = .ok olds.toArray w.drew)
    (hf : (Builtin.firstCells i.size n x).run P w.drew = .ok news.toArray w.drew)
    (hg : sCap < sLen + n) (h63 : ((sLen + n : Nat) : Int) ≤ 9223372036854775807) (hfit : Builtin.nextslicecap (sLen + n) sCap * i.bytes ≤ 281474976710656) :
    (Builtin.append_ #[T, T'] ty #[.slice base sLen sCap, x]).run P w =
      .ok (.slice (some ⟨w.heap.size, 0, none⟩) (sLen + n) (grownCap w (sLen + n) sCap e))
        (w.drew.alloc (.cells (olds ++ news ++ (Builtin.zeroCells z.cells (grownCap w (sLen + n) sCap e - (sLen + n))).toList).toArray e)) := by
  have hn : ¬ (sLen + n ≤ sCap) := by omega
  have h63' : ¬ (9223372036854775807 < ((sLen : Int) + (n : Int))) := by omega
  have h48' : ¬ (281474976710656 < Builtin.nextslicecap (sLen + n) sCap * i.bytes) := by omega
  have hszr : (sizeOf e).run P w = .ok i.size w := by simp [sizeOf, typeInfo, hi]
  have hti : ∀ w, (typeInfo e).run P w = .ok i w := fun w => by simp [typeInfo, hi]
  have hzv : ∀ w, (zeroValue e).run P w = .ok z w := fun w => by simp [zeroValue, typeInfo, hi, hzero]
  have hdr : ({ w with drawn := w.drawn + 1 } : World) = w.drew := rfl
  simp only [Builtin.append_, Sem.run_bind, run_underlying ht, run_underlying ht', hszr, hlen, hn, Result.andThen_ok, Sem.run_pure, if_false, Bool.false_eq_true, hti, run_choose, Question.forced,
    h48', hdr, run_askRoom, ho, hf, hzv, run_newRow, Sem.run_ite, false_or, IntKind.max_i64, Bool.not_false, if_true, List.getElem?_toArray, List.getElem?_cons_zero, List.getElem?_cons_succ, gt_iff_lt, Int.natCast_add]
  simp only [h63', false_and, if_false, h48', hdr, ho, hf, hzv, run_newRow, Question.forced, grownCap, Result.andThen_ok, Sem.run_bind, Sem.run_ite, run_choose, Bool.false_eq_true, gt_iff_lt, Int.natCast_add, Sem.run_pure, run_askRoom]
  congr 3
  apply Array.ext'
  simp

section
variable {E : Ent} {N : Nat} {env : Nat → SV} {mem : Nat → Option Blk} {a : Act} {w : World} {β : Nat → Option (Nat × Nat)} {P : Program} {C : Ctx}

theorem SimB.drew (h : SimB E N env mem a w β) : SimB E N env mem a w.drew β where
  defers := h.defers.mono (A := allow E w β) (A' := allow E w.drew β) (w := w) (w' := w.drew) fun b hb => ⟨hb, rfl⟩
  size := h.size
  hN := h.hN
  os := h.os
  tape := h.tape
  output := ⟨h.output.1, Nat.le_succ_of_le h.output.2⟩
  grow := h.grow
  old := h.old
  dom := h.dom
  inj := h.inj
  par := h.par
  blk := fun i k hk => RepBlk.mono (A := allow E w β) (w := w) (A' := allow E w.drew β) (w' := w.drew) (fun b hb => ⟨hb, rfl⟩) (fun i k hk => ⟨k, hk, Nat.le_refl _, fun _ => ⟨k.alike_refl, rfl⟩⟩) rfl (fun _ _ _ => rfl) (h.blk i k hk)
  slot := fun s => RepSV.mono (A := allow E w β) (w := w) (A' := allow E w.drew β) (w' := w.drew) (fun b hb => ⟨hb, rfl⟩) (fun i k hk => ⟨k, hk, Nat.le_refl _, fun _ => ⟨k.alike_refl, rfl⟩⟩) (h.slot s)

theorem cat_one {A : Nat → Prop} {t : Ty} {ys : List t.den} {x : Value} {css : Nat → List Value} (h : Src P A w t ys x css) : ∀ u ∈ cat css ys.length, u.oneCell' = true := by
  intro u hu
  simp only [cat, List.mem_flatMap, List.mem_range] at hu
  obtain ⟨k, hk, hu⟩ := hu
  exact (h.rep k hk).one u hu

omit U in
theorem grownCap_le (w : World) {need old : Nat} (e : TypeId) (h : need < 2 ^ 63) : need ≤ grownCap w need old e := by
  simp only [grownCap, Question.cut]
  omega

theorem row_get {t : Ty} {A : Nat → Prop} {xs ys : List t.den} {cs : List Value} {css dss : Nat → List Value} {k0 : Nat} (hk0 : k0 ≤ xs.length)
    (hx : ∀ k, k < xs.length → (css k).length = t.size) (hxr : ∀ k (h : k < xs.length), RepC A w t xs[k] (css k))
    (hy : ∀ k, k < ys.length → (dss k).length = t.size) (hyr : ∀ k (h : k < ys.length), RepC A w t ys[k] (dss k))
    (h1 : ∀ k j v, k < k0 → (css k)[j]? = some v → cs[k * t.size + j]? = some v)
    (h2 : ∀ i v, (cat dss ys.length)[i]? = some v → cs[k0 * t.size + i]? = some v) :
    ∀ k (hk : k < (xs.take k0 ++ ys).length), (if k < k0 then css k else dss (k - k0)).length = t.size ∧
      (∀ (j : Nat) (v : Value), (if k < k0 then css k else dss (k - k0))[j]? = some v → cs[k * t.size + j]? = some v) ∧
      RepC A w t (xs.take k0 ++ ys)[k] (if k < k0 then css k else dss (k - k0)) := by
  intro k hk
  have hl : (xs.take k0).length = k0 := by simp; omega
  by_cases hlt : k < k0
  · simp only [if_pos hlt]
    refine ⟨hx k (by omega), fun j v hj => h1 k j v hlt hj, ?_⟩
    have := hxr k (by omega)
    rw [show (xs.take k0 ++ ys)[k] = xs[k]'(by omega) by rw [List.getElem_append_left (by omega), List.getElem_take]]
    exact this
  · simp only [if_neg hlt]
    have hky : k - k0 < ys.length := by simp [hl] at hk; omega
    refine ⟨hy _ hky, fun j v hj => ?_, ?_⟩
    · have hj' : j < t.size := by rw [← hy _ hky]; exact (List.getElem?_eq_some_iff.1 hj).1
      have := h2 ((k - k0) * t.size + j) v (by rw [cat_get hy hky hj']; exact hj)
      rw [← Nat.add_assoc, ← Nat.add_mul] at this
      rwa [show k0 + (k - k0) = k by omega] at this
    · have := hyr _ hky
      rw [show (xs.take k0 ++ ys)[k] = ys[k - k0]'hky by
        rw [List.getElem_append_right (by omega)]
        congr 1; omega]
      exact this

theorem append_gives (h : SimB E N env mem a w β) {T T' ty d : Nat} {t : Ty} (hty : CtxTy P C) (hT : C.ty T = some (.slice t)) (hT' : C.ty T' = some (.slice t)) {sv sy : SV} {v x : Value} {ys : List t.den} {r : Res}
    (hv : RepSV (allow E w β) w β mem sv v) (hx : RepSV (allow E w β) w β mem sy x) (hl : (listOf t sy).eval mem = some ys) (hs : (appendSV d t sv ys).eval mem = some r) (hob : ∀ p ∈ r.ob, p) :
    Gives P E N env (updm mem r.memw) a (Builtin.append_ #[T, T'] ty #[v, x]) w r.val := by
  obtain ⟨dss, hsrc⟩ := listOf_src (P := P) h hx hl
  obtain ⟨e, hu, he⟩ := (hty T _ hT).und
  obtain ⟨e', hu', _⟩ := (hty T' _ hT').und
  have hte := hty e t he
  obtain ⟨i, z, hi, hisz, _, hby, hz, hzr⟩ := hte.info
  have hszr := hte.size w
  -- the call grows: a new block
  have grow : ∀ {id ep0 : Nat} {xs : List t.den} {k0 : Nat} {base : Option Addr} {cap : Nat} {css : Nat → List Value} {olds : List Value}, k0 ≤ xs.length →
      (ep0 ≠ 0 ∧ ∀ k1, mem id = some k1 → k1.ep < ep0) →
      (∀ k, k < xs.length → (css k).length = t.size) → (∀ k (h : k < xs.length), RepC (allow E w β) w t xs[k] (css k)) →
      olds = cat css k0 → ((k0 : Int) + (ys.length : Int) ≤ 4294967296) →
      (Builtin.firstCells i.size k0 (.slice base k0 cap)).run P w.drew = .ok olds.toArray w.drew → cap < k0 + ys.length →
      Gives P E N env (updm mem [(id, .arr ep0 t (xs.take k0 ++ ys))]) a (Builtin.append_ #[T, T'] ty #[.slice base k0 cap, x]) w (.arr id ep0) := by
    intro id ep0 xs k0 base cap css olds hk0 hep hx1 hx2 holds hle ho hcap
    have hb : Builtin.nextslicecap (k0 + ys.length) cap * i.bytes ≤ 281474976710656 := growslice_fits hcap (by
      have : (k0 + ys.length) * i.bytes ≤ 4294967296 * 4096 := Nat.mul_le_mul (by omega) hby
      omega)
    have hrun := run_append_up (ty := ty) hu hu' hi hz (hsrc.len w) ho (by rw [hisz]; exact hsrc.cells _ rfl) hcap (by omega) hb
    generalize hcapn : grownCap w (k0 + ys.length) cap e = capn at hrun
    have hcapn' : k0 + ys.length ≤ capn := by rw [← hcapn]; exact grownCap_le w e (by omega)
    have hzsz : z.cells.size = t.size := (hzr (allow E w β) w).cells.2
    have hol : olds.length = k0 * t.size := by rw [holds]; exact cat_length (fun k hk => hx1 k (by omega))
    have hnl : (cat dss ys.length).length = ys.length * t.size := cat_length hsrc.cl
    have hll : (xs.take k0 ++ ys).length = k0 + ys.length := by simp; omega
    generalize hrow : olds ++ cat dss ys.length ++ (Builtin.zeroCells z.cells (capn - (k0 + ys.length))).toList = row at hrun
    have hrl : row.length = capn * t.size := by
      rw [← hrow]
      simp only [List.length_append, hol, hnl, Array.length_toList, size_zeroCells, hzsz]
      rw [← Nat.add_mul, ← Nat.add_mul]
      congr 1; omega
    have hdrew := h.drew.alloc (k := .arr ep0 t (xs.take k0 ++ ys)) row.toArray e capn hep (fun w' β' mem' hA hm hb hh => ⟨by rw [hll, Int.natCast_add]; exact hle, .inr ⟨w.heap.size, capn, row.toArray, e,
      fun k => if k < k0 then css k else dss (k - k0), hb, hh, by simpa using hrl, by omega, by
        have hA : ∀ b, allow E w β b → allow E w' β' b ∧ w'.heap[b]? = w.heap[b]? := hA
        have := row_get (A := allow E w' β') (w := w') (cs := row) hk0 hx1 (fun k hk => (hx2 k hk).mono hA) hsrc.cl (fun k hk => (hsrc.rep k hk).mono hA)
          (fun k j v hk hj => by
            have hkx : k < xs.length := by omega
            have hj' : j < t.size := by rw [← hx1 k hkx]; exact (List.getElem?_eq_some_iff.1 hj).1
            have hlt : k * t.size + j < olds.length := by
              rw [hol]
              have : (k + 1) * t.size ≤ k0 * t.size := Nat.mul_le_mul_right _ (by omega)
              rw [Nat.add_mul] at this; omega
            rw [← hrow, List.append_assoc, List.getElem?_append_left hlt, holds, cat_get (fun k hk => hx1 k (by omega)) hk hj']
            exact hj)
          (fun i v hi => by
            have hlt : i < (cat dss ys.length).length := (List.getElem?_eq_some_iff.1 hi).1
            rw [← hrow, List.append_assoc, List.getElem?_append_right (by omega), ← hol]
            simp only [Nat.add_sub_cancel_left]
            rw [List.getElem?_append_left hlt]
            exact hi)
        simpa using this⟩⟩)
    refine ⟨_, _, _, hrun, hdrew, ?_⟩
    rw [updm_one]
    refine .arr id ep0 _ ⟨_, setm_same _ _ _, Nat.le_refl _⟩ rfl fun u zs hm => ?_
    rw [setm_same] at hm
    simp only [Option.some.injEq, Blk.arr.injEq, true_and] at hm
    obtain ⟨rfl, hm⟩ := hm
    obtain rfl := eq_of_heq hm
    rw [upd_same, hll]
    exact ⟨⟨w.heap.size, 0, none⟩, rfl, by omega, fun _ => by simp⟩
  -- a part of what there is, from its beginning
  have part : ∀ {id ep k0 : Nat} {xs : List t.den} {v : Value}, mem id = some (.arr ep t xs) → k0 ≤ xs.length → SliceAt (β id) t.size 0 k0 v → ((k0 : Int) + (ys.length : Int) ≤ 4294967296) →
      Gives P E N env (updm mem [(id, .arr (ep + 1) t (xs.take k0 ++ ys))]) a (Builtin.append_ #[T, T'] ty #[v, x]) w (.arr id (ep + 1)) := by
    intro id ep k0 xs v hm hk0 hv hle
    have hll : (xs.take k0 ++ ys).length = k0 + ys.length := by simp; omega
    have hep : ep + 1 ≠ 0 ∧ ∀ k1, mem id = some k1 → k1.ep < ep + 1 := by
      refine ⟨Nat.succ_ne_zero _, ?_⟩
      intro k1 hk1
      rw [hm] at hk1
      obtain rfl := Option.some.inj hk1
      exact Nat.lt_succ_self _
    have arrv : ∀ {w' : World} {β' : Nat → Option (Nat × Nat)} {v : Value}, v.oneCell' = true → SliceAt (β' id) t.size 0 (k0 + ys.length) v →
        RepSV (allow E w' β') w' β' (updm mem [(id, .arr (ep + 1) t (xs.take k0 ++ ys))]) (.arr id (ep + 1)) v := by
      intro w' β' v h1 hv
      rw [updm_one]
      refine .arr id (ep + 1) _ ⟨_, setm_same _ _ _, Nat.le_refl _⟩ h1 fun u zs hm => ?_
      rw [setm_same] at hm
      simp only [Option.some.injEq, Blk.arr.injEq, true_and] at hm
      obtain ⟨rfl, hm⟩ := hm
      obtain rfl := eq_of_heq hm
      rw [hll]
      exact hv
    obtain ⟨hlim, ⟨hb, rfl⟩ | ⟨b, D, cs, el, css, hb, hh, hsz, hD, hel⟩⟩ := h.blk id _ hm
    ·
      rw [hb] at hv
      obtain ⟨_, rfl, rfl⟩ := hv
      by_cases hy : ys.length = 0
      · have hrun := run_append_in_nil (ty := ty) hu hu' hszr (x := x) (by rw [hsrc.len w, hy]) (by have := hsrc.cells w rfl; rwa [hy] at this)
        have hs : SimB E N env (setm mem id (.arr (ep + 1) t (([] : List t.den).take 0 ++ ys))) a w β := by
          have e : ys = [] := List.length_eq_zero_iff.1 hy
          subst e
          have := h.fresh (w' := w) (id := id) (k := .arr (ep + 1) t []) none hep rfl rfl ⟨rfl, Nat.le_refl _⟩ (Nat.le_refl _) (fun _ _ => rfl) (by simp)
            ⟨by simp, .inl ⟨upd_same _ _ _, rfl⟩⟩
          have e2 : upd β id none = β := by
            funext j
            by_cases hj : j = id
            · subst hj; rw [upd_same, hb]
            · rw [upd_ne _ _ hj]
          rw [e2] at this
          exact this
        refine ⟨_, _, _, hrun, hs, arrv rfl ?_⟩
        rw [hb, hy]
        exact ⟨rfl, rfl, rfl⟩
      · exact grow (k0 := 0) (xs := []) (css := fun _ => []) (olds := []) (by simp) hep (by simp) (by simp) rfl hle (by simp [Builtin.firstCells]) (by omega)
    · rw [hb] at hv
      obtain ⟨p, rfl, hle2, hp⟩ := hv
      obtain rfl := hp (.inl rfl)
      simp only [Nat.sub_zero, Nat.zero_mul, Nat.zero_add] at *
      by_cases hroom : k0 + ys.length ≤ D
      · have hnl : (cat dss ys.length).length = ys.length * t.size := cat_length hsrc.cl
        have hfit : k0 * t.size + (cat dss ys.length).length ≤ cs.size := by
          rw [hnl, hsz, ← Nat.add_mul]; exact Nat.mul_le_mul_right _ hroom
        have hrun := run_append_in (ty := ty) hu hu' hszr hh (hsrc.len w) (hsrc.cells w rfl) (cat_one hsrc) hroom hfit
        have hs := h.write (w' := w.setRow b (cs.toList.take (k0 * t.size) ++ cat dss ys.length ++ cs.toList.drop (k0 * t.size + (cat dss ys.length).length)).toArray)
          (id := id) (k := .arr (ep + 1) t (xs.take k0 ++ ys)) hm hb (Nat.le_succ _) (by intro e; simp [Blk.ep] at e) rfl rfl rfl ⟨rfl, Nat.le_refl _⟩ (by simp) (fun c hc => setRow_other _ _ _ _ hc)
          ⟨by rw [hll, Int.natCast_add]; exact hle, .inr ⟨b, D, _, el, fun k => if k < k0 then css k else dss (k - k0), hb, setRow_heap _ _ _ _ _ _ hh, by
            simp only [List.size_toArray, List.length_append, List.length_take, List.length_drop, Array.length_toList]
            omega, by omega, by
            have hA : ∀ c, allow E w β c → allow E (w.setRow b (cs.toList.take (k0 * t.size) ++ cat dss ys.length ++ cs.toList.drop (k0 * t.size + (cat dss ys.length).length)).toArray) β c ∧
                (w.setRow b (cs.toList.take (k0 * t.size) ++ cat dss ys.length ++ cs.toList.drop (k0 * t.size + (cat dss ys.length).length)).toArray).heap[c]? = w.heap[c]? := by
              rintro c ⟨c1, c2, c3⟩
              exact ⟨⟨by simpa using c1, c2, c3⟩, setRow_other _ _ _ _ (by rintro rfl; exact c3 id D hb)⟩
            have htl : (cs.toList.take (k0 * t.size)).length = k0 * t.size := by simp; omega
            have := row_get (cs := cs.toList.take (k0 * t.size) ++ cat dss ys.length ++ cs.toList.drop (k0 * t.size + (cat dss ys.length).length)) hk0
              (fun k hk => (hel k hk).1) (fun k hk => (hel k hk).2.2.mono hA) hsrc.cl (fun k hk => (hsrc.rep k hk).mono hA)
              (fun k j v hk hj => by
                have hkx : k < xs.length := by omega
                have hj' : j < t.size := by rw [← (hel k hkx).1]; exact (List.getElem?_eq_some_iff.1 hj).1
                have hlt : k * t.size + j < k0 * t.size := by
                  have : (k + 1) * t.size ≤ k0 * t.size := Nat.mul_le_mul_right _ (by omega)
                  rw [Nat.add_mul] at this; omega
                rw [List.append_assoc, List.getElem?_append_left (by omega), List.getElem?_take, if_pos hlt]
                simpa using (hel k hkx).2.1 j v hj)
              (fun i v hi => by
                have hlt : i < (cat dss ys.length).length := (List.getElem?_eq_some_iff.1 hi).1
                rw [List.append_assoc, List.getElem?_append_right (by omega), htl]
                simp only [Nat.add_sub_cancel_left]
                rw [List.getElem?_append_left hlt]
                exact hi)
            simpa using this⟩⟩
        refine ⟨_, _, _, hrun, hs, arrv rfl ?_⟩
        rw [hb]
        exact ⟨⟨b, 0, none⟩, rfl, by omega, fun _ => by simp⟩
      · refine grow (xs := xs) hk0 hep (fun k hk => (hel k hk).1) (fun k hk => (hel k hk).2.2) rfl hle ?_ (by omega)
        rw [hisz]
        refine run_firstCells_some w.drew t.size k0 ⟨b, 0, none⟩ k0 D _ (cat_length (fun k hk => (hel k (by omega)).1)) fun i v hi => ?_
        obtain ⟨k, j, hk, hj, rfl, hv⟩ := cat_get' (fun k hk => (hel k (by omega)).1) hi
        rw [Addr.add_lit]
        have := (hel k (by omega)).2.1 j v hv
        show w.cell? _ = _
        simp [World.cell?, hh, this]
  -- the cases
  cases hv with
  | nilsl =>
    simp only [appendSV] at hs
    obtain ⟨ep, hep, hs⟩ := Rd.bind_some hs
    simp only [Rd.eval, Option.some.injEq] at hs
    subst hs
    have hle := hob _ (List.mem_singleton.2 rfl)
    have hep' := freshEp_some hep
    by_cases hy : ys.length = 0
    · have hrun := run_append_in_nil (ty := ty) hu hu' hszr (x := x) (by rw [hsrc.len w, hy]) (by have := hsrc.cells w rfl; rwa [hy] at this)
      have e : ys = [] := List.length_eq_zero_iff.1 hy
      subst e
      have hs := h.fresh (w' := w) (id := d * 4) (k := .arr ep t []) none hep' rfl rfl ⟨rfl, Nat.le_refl _⟩ (Nat.le_refl _) (fun _ _ => rfl) (by simp)
        ⟨by simp, .inl ⟨upd_same _ _ _, rfl⟩⟩
      refine ⟨_, _, _, hrun, hs, ?_⟩
      rw [updm_one]
      refine .arr _ ep _ ⟨_, setm_same _ _ _, Nat.le_refl _⟩ rfl fun u zs hm => ?_
      rw [setm_same] at hm
      simp only [Option.some.injEq, Blk.arr.injEq, true_and] at hm
      obtain ⟨rfl, hm⟩ := hm
      obtain rfl := eq_of_heq hm
      rw [upd_same]
      exact ⟨rfl, rfl, rfl⟩
    · have := grow (id := d * 4) (ep0 := ep) (k0 := 0) (xs := []) (base := none) (cap := 0) (css := fun _ => []) (olds := []) (by simp) hep' (by simp) (by simp) rfl (by simpa using hle) (by simp [Builtin.firstCells]) (by omega)
      simpa using this
  | arr id ep v hm h1 hv =>
    simp only [appendSV] at hs
    replace hs := Rd.mem_some hs
    cases hmi : mem id with
    | none => rw [hmi] at hs; simp [Rd.eval] at hs
    | some k =>
      rw [hmi] at hs
      cases k with
      | box => simp [Rd.eval] at hs
      | dead => simp [Rd.eval] at hs
      | arr ep' u xs =>
        simp only at hs
        split at hs
        · rename_i e1
          subst e1
          split at hs
          · rename_i zs hz
            obtain ⟨e2, rfl⟩ := TV.to_some hz
            obtain rfl : u = t := by injection e2
            simp only [Rd.eval, Option.some.injEq] at hs
            subst hs
            have := part (k0 := xs.length) hmi (Nat.le_refl _) (hv _ _ hmi) (hob _ (List.mem_singleton.2 rfl))
            rw [List.take_length] at this
            exact this
          · simp [Rd.eval] at hs
        · simp [Rd.eval] at hs
  | sub id ep off len v hm h1 hv =>
    simp only [appendSV] at hs
    replace hs := Rd.mem_some hs
    cases hmi : mem id with
    | none => rw [hmi] at hs; simp [Rd.eval] at hs
    | some k =>
      rw [hmi] at hs
      cases k with
      | box => simp [Rd.eval] at hs
      | dead => simp [Rd.eval] at hs
      | arr ep' u xs =>
        simp only at hs
        split at hs
        · rename_i e1
          obtain ⟨rfl, rfl⟩ := e1
          split at hs
          · rename_i zs hz
            obtain ⟨e2, rfl⟩ := TV.to_some hz
            obtain rfl : u = t := by injection e2
            simp only [Rd.eval, Option.some.injEq] at hs
            subst hs
            obtain ⟨k1, k2⟩ := hv _ _ hmi
            exact part (k0 := len) hmi (by omega) k2 (hob _ (List.mem_singleton.2 rfl))
          · simp [Rd.eval] at hs
        · simp [Rd.eval] at hs
  | _ => simp [appendSV, Rd.eval] at hs

end
end Go.Am
