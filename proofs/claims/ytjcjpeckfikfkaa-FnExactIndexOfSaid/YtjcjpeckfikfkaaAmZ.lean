/-
  Am, part Z: from a row's arguments to data; from a contract to a row.
-/
import Derived.Test.YtjcjpeckfikfkaaAmY
import Derived.WalkKit
import Derived.ProofKit
import Derived.OpenShut
import Derived.WideKeyArgs
set_option linter.all false
namespace Go.Am
variable [U : Univ]

omit U in
theorem cell_block {w : World} {a : Addr} {v : Value} (h : w.cell? a = some v) : a.block < w.heap.size ∧ a.spot = none := by
  unfold World.cell? at h; split at h
  · rename_i c _ _ hh; refine ⟨(Array.getElem?_eq_some_iff.1 hh).1, ?_⟩
    cases hs : a.spot with
    | none => rfl
    | some x => rw [hs] at h; simp at h
  · cases h

omit U in
theorem cells_get {w : World} {a : Addr} {n : Nat} {l : List Value} (h : w.cells? 0 a n = some l) : l.length = n ∧ ∀ j, j < n → w.cell? (a.add j) = l[j]? := by
  unfold World.cells? at h; split at h
  · have h1 := mapM_some_length h; refine ⟨by simpa using h1, fun j hj => mapM_some_get h j j (by simp [hj])⟩
  · cases h

theorem RepL.of_pieces {A : Nat → Prop} {w : World} : ∀ (ts : List Ty) (cs : List Value), cs.length = (ts.map Ty.size).sum →
    (∀ (k : Nat) (t : Ty), ts[k]? = some t → ∃ d : t.den, RepC A w t d ((cs.drop (((ts.take k).map Ty.size).sum)).take t.size)) →
    ∃ tvs : List TV, tvs.map Sigma.fst = ts ∧ RepL A w tvs cs := by
  intro ts
  induction ts with
  | nil =>
    intro cs hl _; obtain rfl : cs = [] := List.length_eq_zero_iff.1 (by simpa using hl); exact ⟨[], rfl, .nil⟩
  | cons t ts ih =>
    intro cs hl h; obtain ⟨d, hd⟩ := h 0 t rfl; simp only [List.take_zero, List.map_nil, List.sum_nil, List.drop_zero] at hd
    obtain ⟨tvs, h1, h2⟩ := ih (cs.drop t.size) (by simp only [List.length_drop, hl, List.map_cons, List.sum_cons]; omega) (fun k u hk => by
      obtain ⟨d, hd⟩ := h (k + 1) u (by simpa using hk); refine ⟨d, ?_⟩; simp only [List.take_succ_cons, List.map_cons, List.sum_cons] at hd
      rwa [List.drop_drop])
    refine ⟨⟨t, d⟩ :: tvs, by simp [h1], ?_⟩; have := RepL.cons t d tvs _ _ hd h2
    rwa [List.take_append_drop] at this

theorem trod_rep {P : Program} {C : Ctx} (hty : CtxTy P C) {H : Type} {enc : TypeId × Value → H} {w : World} : ∀ (fuel : Nat) {T : Nat} {t : Ty} {cs : List Value} {x : DataW H × List MemPlace},
    C.ty T = some t → DataW.trod enc P w 0 (fun _ => true) true fuel T cs = some x → ∃ d : t.den, RepC (fun b => b < w.heap.size) w t d cs := by
  intro fuel
  induction fuel with
  | zero => intro T t cs x _ h; simp [DataW.trod] at h
  | succ n ih =>
    intro T t cs x hT h; have ht := hty T t hT; have hu := ht.und
    cases t with
    | int k =>
      obtain ⟨m, rfl, _, hw⟩ := DataW.trod_int hu h; simp only [Lit.wf, Bool.and_eq_true, decide_eq_true_eq] at hw; exact ⟨m, .int k m hw.1 hw.2⟩
    | bool =>
      obtain ⟨b, rfl, _⟩ := DataW.trod_bool hu h; exact ⟨b, .bool b⟩
    | str =>
      obtain ⟨s, rfl, _, hs⟩ := DataW.trod_string hu h; refine ⟨s, .str s ?_⟩; simp only [maxLen] at hs; unfold lim; omega
    | slice e =>
      obtain ⟨E, hE, hCE⟩ := hu; rcases DataW.trod_slice hE h with ⟨rfl, _⟩ | ⟨a, len, cap, elems, rest, m, hm, rfl, _, _, hlc, hcap, hel, hget, _⟩
      · exact ⟨([] : List e.den), .nil e⟩
      · obtain rfl : n = m := by omega
        have hsz : P.cellsOf E = e.size := by
          obtain ⟨i, z, hi, hs, _⟩ := (hty E e hCE).info; simp [Program.cellsOf, hi, hs]
        have hone : ∀ i, ∃ (csi : List Value) (d : e.den), i < len → w.cells? 0 (a.add (i * e.size)) e.size = some csi ∧ RepC (fun b => b < w.heap.size) w e d csi := by
          intro i; by_cases hi : i < len
          · have := hget i hi
            rw [List.getElem?_eq_getElem (by omega), hsz] at this
            obtain ⟨csi, h1, h2⟩ := Option.bind_eq_some_iff.1 this
            obtain ⟨d, hd⟩ := ih hCE h2; exact ⟨csi, d, fun _ => ⟨h1, hd⟩⟩
          · exact ⟨[], e.zero, fun h => absurd h hi⟩
        let css : Nat → List Value := fun i => (hone i).choose; let dd : Nat → e.den := fun i => (hone i).choose_spec.choose; have hs : ∀ i, i < len → w.cells? 0 (a.add (i * e.size)) e.size = some (css i) ∧ RepC (fun b => b < w.heap.size) w e (dd i) (css i) := fun i hi => (hone i).choose_spec.choose_spec hi; have hpos := e.size_pos
        have hblk : 0 < len → a.block < w.heap.size ∧ a.spot = none := by
          intro h0; obtain ⟨h1, _⟩ := hs 0 h0; obtain ⟨hl, hc⟩ := cells_get h1; have := hc 0 hpos
          rw [List.getElem?_eq_getElem (by omega)] at this
          have := cell_block this
          simpa [Addr.add] using this
        have hlen : ((List.range len).map dd).length = len := by simp
        have := RepC.slice (A := fun b => b < w.heap.size) (w := w) e ((List.range len).map dd) a cap css (by rw [hlen]; simp only [maxLen] at hcap; unfold lim; omega) (by rw [hlen]; exact hlc)
          (fun hne => (hblk (by rcases Nat.eq_zero_or_pos len with h | h; · subst h; exact absurd rfl hne
                                · exact h)).1)
          (fun hne => (hblk (by rcases Nat.eq_zero_or_pos len with h | h; · subst h; exact absurd rfl hne
                                · exact h)).2)
          (fun i hi => (cells_get (hs i (by omega)).1).1)
          (fun i j v hi hj => by
            (have hi' : i < len := by omega); obtain ⟨h1, _⟩ := hs i hi'; obtain ⟨hl, hc⟩ := cells_get h1; (have hjl : j < e.size := by rw [← hl]; exact (List.getElem?_eq_some_iff.1 hj).1); have h2 := hc j hjl; rw [hj] at h2; have hsp := (hblk (by omega)).2
            have : (a.add (i * e.size)).add j = ⟨a.block, a.off + i * e.size + j, none⟩ := by
              obtain ⟨ab, ao, as⟩ := a; simp only at hsp; subst hsp; unfold Addr.add; split <;> split <;> simp_all
            rw [this] at h2
            exact h2)
          (fun i hi => by
            simp only [List.getElem_map, List.getElem_range]
            exact (hs i (by simpa using hi)).2)
        rw [hlen] at this
        exact ⟨_, this⟩
    | named k =>
      obtain ⟨fs, hfs, hfl, hfd⟩ := hu; obtain ⟨xs, m, hm, _, hcl, hxl, hget⟩ := DataW.trod_struct hfs h; obtain rfl : n = m := by omega
      have hsz : P.cellsOf T = U.sz k := by
        obtain ⟨i, z, hi, hs, _⟩ := ht.info; simp [Program.cellsOf, hi, hs, Ty.size]
      obtain ⟨tvs, h1, h2⟩ := RepL.of_pieces (A := fun b => b < w.heap.size) (w := w) (U.tys k) cs (by rw [hcl, hsz, U.sz_eq]) (fun j u hj => by
        obtain ⟨fd, hfd1, hfd2, hfd3⟩ := hfd j u hj; have hg := hget j fd hfd1; (have hjl : j < xs.length := by rw [hxl]; exact (Array.getElem?_eq_some_iff.1 hfd1).1); rw [List.getElem?_eq_getElem hjl] at hg; obtain ⟨d, hd⟩ := ih hfd2 hg; refine ⟨d, ?_⟩
        have hsu : P.cellsOf fd.type = u.size := by
          obtain ⟨i, z, hi, hs, _⟩ := (hty fd.type u hfd2).info; simp [Program.cellsOf, hi, hs]
        rw [hfd3, hsu] at hd
        exact hd)
      refine ⟨U.bld k tvs, .named k _ cs ?_⟩; rw [U.get_bld k tvs h1]; exact h2

end Go.Am
namespace Go.Am
open Go.ChangeShapes Go.WideShapes Go.ChangeAt Go.RowKit
variable [U : Univ]

section
variable {P : Program} {C : Ctx} {H : Type} {enc : TypeId × Value → H} {w : World}

theorem arg_rep (hty : CtxTy P C) {T : Nat} {t : Ty} (hT : C.ty T = some t) {v : Value} {d : DataW H} {p : List MemPlace} {base : Nat} (hok : Value.okWide P w .any base T v)
    (h : DataW.Trod enc P w 0 (fun _ => true) true T v d p) : ∃ x : t.den, RepV (fun b => b < w.heap.size) w t x v := by
  obtain ⟨fuel, h⟩ := h; obtain ⟨x, hx⟩ := trod_rep hty fuel hT h; refine ⟨x, ?_⟩; have hu := (hty T t hT).und; have hl := hx.length
  cases t with
  | named n =>
    obtain ⟨fs, hfs, _⟩ := hu; simp only [Value.okWide, hfs] at hok; obtain ⟨cs, rfl, _⟩ := hok; exact .agg n x cs.toList (by simpa [Value.cells] using hx)
  | int k =>
    simp only [Value.okWide, hu, Cell.okWide, Cell.ok] at hok; cases v <;> simp at hok <;> exact .one _ _ _ (by simp) (by simpa [Value.cells] using hx)
  | bool =>
    simp only [Value.okWide, hu, Cell.okWide, Cell.ok] at hok; cases v <;> simp at hok <;> exact .one _ _ _ (by simp) (by simpa [Value.cells] using hx)
  | str =>
    simp only [Value.okWide, hu, Cell.okWide, Cell.ok] at hok; cases v <;> simp at hok <;> exact .one _ _ _ (by simp) (by simpa [Value.cells] using hx)
  | slice e =>
    obtain ⟨E, hE, _⟩ := hu; simp only [Value.okWide, hE, Cell.okWide, Cell.ok] at hok; cases v <;> simp at hok <;> exact .one _ _ _ (by simp) (by simpa [Value.cells] using hx)

theorem args_rep (hty : CtxTy P C) {base : Nat} : ∀ {ts : List TypeId} {tys : List Ty} {vs : List Value} {ds : List (DataW H)} {ps : List MemPlace}, ts.map C.ty = tys.map some →
    (∀ (j : Nat) t v, ts[j]? = some t → vs[j]? = some v → Value.okWide P w .any base t v) → DataW.TrodAll enc P w 0 (fun _ => true) true ts vs ds ps →
    ∃ tvs : List TV, tvs.map Sigma.fst = tys ∧ RepArgs (fun b => b < w.heap.size) w (tys.map PK.val) vs tvs [] ∧ ds.length = ts.length := by
  intro ts
  induction ts with
  | nil =>
    intro tys vs ds ps hm _ h; obtain ⟨rfl, rfl, _⟩ := trodAll_nil h
    cases tys with
    | nil => exact ⟨[], rfl, .nil, rfl⟩
    | cons => simp at hm
  | cons T ts ih =>
    intro tys vs ds ps hm hok h; obtain ⟨v, vs', d, ds', p, q, rfl, rfl, rfl, h1, h2⟩ := trodAll_cons h
    cases tys with
    | nil => simp at hm
    | cons t tys =>
      simp only [List.map_cons, List.cons.injEq] at hm; obtain ⟨x, hx⟩ := arg_rep hty hm.1 (hok 0 T v rfl rfl) h1; obtain ⟨tvs, e1, e2, e3⟩ := ih hm.2 (fun j t v hj hv => hok (j + 1) t v (by simpa using hj) (by simpa using hv)) h2; exact ⟨⟨t, x⟩ :: tvs, by simp [e1], .val t x v _ _ _ _ hx e2, by simp [e3]⟩

omit U in
theorem trodAll_stays {W W' : World} {sp' : Nat → Bool} (hl : laidOutB P = true) : ∀ {ts : List TypeId} {vs : List Value} {ds : List (DataW H)} {ps : List MemPlace}, (∀ t ∈ ts, P.readableRec t = true ∧ t < P.types.size) →
    DataW.TrodAll enc P W 0 (fun _ => true) true ts vs ds ps → (∀ p ∈ ps, W.sameAt W' p) → (∀ p ∈ ps, sp' p.block = true) → DataW.TrodAll enc P W' 0 sp' true ts vs ds ps
  | [], [], [], _, _, h, _, _ => h
  | t :: _, _ :: _, _ :: _, _, hr, ⟨p, q, h1, h2, e⟩, hs, hp => by
    subst e
    exact ⟨p, q, Go.WideElems.Trod_stays hl (hr t (by simp)).1 (hr t (by simp)).2 h1 (fun x hx => hs x (by simp [hx])) (fun x hx => hp x (by simp [hx])),
      trodAll_stays hl (fun u hu => hr u (by simp [hu])) h2 (fun x hx => hs x (by simp [hx])) (fun x hx => hp x (by simp [hx])), rfl⟩

theorem law_contractG (W : World) (hglob : Laid W []) (hty : CtxTy P C) {f : FuncId} {fn : Func} {sp : FnSpec} {tys : List Ty} (hf : FnOK P f sp) (hps : sp.ps = tys.map PK.val) (hrs : sp.rs = [.val .bool]) (hpre : ∀ tvs : List TV, tvs.map Sigma.fst = tys → sp.pre tvs)
    (hfn : ∀ tvs : List TV, tvs.map Sigma.fst = tys → (∀ tv ∈ tvs, Wf tv) → sp.fn tvs = [⟨.bool, true⟩]) (hts : fn.params.toList.map C.ty = tys.map some) {T : TypeId} (hres : fn.resultTypes = #[T]) (hbool : P.underlying T = some .bool)
    (hlaid : laidOutB P = true) (hread : ∀ t ∈ fn.params.toList, P.readableRec t = true ∧ t < P.types.size) {s : ChangeSpec} (hvars : s.vars = [])
    (hs : ∀ (ds : List (DataW H)), ds.length = fn.params.size → s.fn H ds = { results := [.lit (.bool true)], args := ds }) {apart fresh handsOn again : Bool}
    (base : Nat) (args : Array Value) (ds gs : List (DataW H)) (before : List MemPlace)
    (hval : ∀ (j : Nat) t v, fn.params[j]? = some t → args[j]? = some v → Value.okWide P W .any base t v)
    (hW : DataW.Whole enc P fn.params.toList s.vars apart W args.toList ds gs before) :
    Calls P f args W fun e W' => ∃ v, e = .returned v ∧ s.post enc P fn apart fresh handsOn again W args v W' := by
  have hlt := hW.lt; have hW' := hW; obtain ⟨p, q, hA, hV, rfl, hz, hn⟩ := hW; rw [hvars] at hV; obtain ⟨rfl, rfl⟩ := trodVars_none hV; simp only [List.append_nil] at *; obtain ⟨tvs, e1, e2, e3⟩ := args_rep (w := W) hty hts (fun j t v hj hv => hval j t v (by simpa using hj) (by simpa using hv)) hA; have hc := hf.2 (fun b => b < W.heap.size) W args.toList tvs [] (fun b hb => ⟨hb, by simp⟩) (by simp) List.nodup_nil (by rw [hps]; exact e2) (hpre tvs e1) hglob; (have hargs : args.toList.toArray = args := by simp); rw [hargs] at hc; refine hc.mono fun e W' => ?_; rintro ⟨rvs, nb, A', hp⟩; have hr := hp.ress; rw [hrs, hfn tvs e1 (e2.types.2.2.2)] at hr
  obtain ⟨rfl, rfl⟩ : rvs = [.bool true] ∧ nb = [] := by
    cases hr with
    | val _ _ v _ _ _ _ h k =>
      cases k
      cases h with
      | one _ _ _ _ h => cases h; exact ⟨rfl, rfl⟩
  refine ⟨_, hp.ret, ?_⟩; simp only [packV]; (have hds : ds.length = fn.params.size := by rw [e3]; simp); have hold : ∀ b, b < W.heap.size → W'.heap[b]? = W.heap[b]? := fun b hb => hp.old b hb (by simp)
  have hsame : ∀ x ∈ p, W.sameAt W' x := by
    intro x hx; have := hlt x hx
    cases x with
    | cell b off => exact World.cell?_eq_of_heap (hold b this)
    | map b => exact hold b this
  (have hrl : Value.resultList fn.resultTypes.size (.bool true) = [.bool true] := by rw [hres]; rfl); (have hT : fn.resultTypes.toList = [T] := by rw [hres]); have hspec := hs ds hds; have hgs : ds ++ ([] : List (DataW H)) = ds := by simp
  have trodT : ∀ (b : Nat) (spr : Nat → Bool) (hd : Bool), DataW.TrodAll enc P W' b spr hd fn.resultTypes.toList (Value.resultList fn.resultTypes.size (.bool true)) [.lit (.bool true)] [] := by
    intro b spr hd; rw [hT, hrl]; exact trodAll_cons_mk (shut_bool hbool _) trodAll_mk0
  refine ⟨ds, [], p, [], p, [], hW', ?_, ?_, ?_, ?_, fun _ => ⟨?_, ds.cons (.lit (.bool true)), [], [] ++ p, ⟨[] ++ p, [], ?_, ?_, by simp, ?_, ?_⟩, ?_⟩⟩
  · rw [hgs, hspec]; exact trodT _ _ _
  · rw [hgs, hspec]; exact trodAll_stays hlaid hread hA hsame fun x hx => by simpa using hlt x hx
  · rw [hgs, hspec, hvars]; rfl
  · refine ⟨hp.os, hp.output.1, fun i hi => ?_⟩; rw [hold i hi]
    cases W.heap[i]? with
    | none => rfl
    | some o => cases o <;> simp
  · exact ok_one hres rfl (okWide_bool_mk hbool true)
  · rw [hT, hrl]; exact trodAll_cons_mk (shut_bool hbool _) (trodAll_stays hlaid hread hA hsame fun x hx => rfl)
  · rw [hvars]; rfl
  · intro b off hb; (have hb : MemPlace.cell b off ∈ p := by simpa using hb); rw [← hz b off hb]; unfold World.frozen?; simp only; rw [hold b (hlt _ hb)]
  · intro ha; simpa using hn ha
  · intro x hx _; simpa using hx

theorem law_contract (hty : CtxTy P C) {f : FuncId} {fn : Func} {sp : FnSpec} {tys : List Ty} (hf : FnOK P f sp) (hps : sp.ps = tys.map PK.val) (hrs : sp.rs = [.val .bool]) (hpre : ∀ tvs : List TV, tvs.map Sigma.fst = tys → sp.pre tvs)
    (hfn : ∀ tvs : List TV, tvs.map Sigma.fst = tys → (∀ tv ∈ tvs, Wf tv) → sp.fn tvs = [⟨.bool, true⟩]) (hts : fn.params.toList.map C.ty = tys.map some) {T : TypeId} (hres : fn.resultTypes = #[T]) (hbool : P.underlying T = some .bool)
    (hglob : ∀ w bs, Laid w bs) (hlaid : laidOutB P = true) (hread : ∀ t ∈ fn.params.toList, P.readableRec t = true ∧ t < P.types.size) {s : ChangeSpec} (hvars : s.vars = [])
    (hs : ∀ (ds : List (DataW H)), ds.length = fn.params.size → s.fn H ds = { results := [.lit (.bool true)], args := ds }) {apart fresh handsOn again : Bool}
    (W : World) (base : Nat) (args : Array Value) (ds gs : List (DataW H)) (before : List MemPlace)
    (hval : ∀ (j : Nat) t v, fn.params[j]? = some t → args[j]? = some v → Value.okWide P W .any base t v)
    (hW : DataW.Whole enc P fn.params.toList s.vars apart W args.toList ds gs before) :
    Calls P f args W fun e W' => ∃ v, e = .returned v ∧ s.post enc P fn apart fresh handsOn again W args v W' :=
  law_contractG W (hglob W []) hty hf hps hrs hpre hfn hts hres hbool hlaid hread hvars hs base args ds gs before hval hW

end
end Go.Am
