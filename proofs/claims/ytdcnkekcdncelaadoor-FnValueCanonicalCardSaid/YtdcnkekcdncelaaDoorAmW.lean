/-
  Am, part W: the contract of a function from its body; facts of a state.
-/
import Derived.Test.YtdcnkekcdncelaaDoorAmV
set_option linter.all false
namespace Go.Am
open List
variable [U : Univ]

def AllTV : List Ty → (List TV → Prop) → Prop
  | [], p => p []
  | t :: ts, p => ∀ x : t.den, AllTV ts fun l => p (⟨t, x⟩ :: l)

theorem AllTV.get : ∀ {ts : List Ty} {p : List TV → Prop}, AllTV ts p → ∀ tvs : List TV, tvs.map (·.1) = ts → p tvs := by
  intro ts
  induction ts with
  | nil =>
    intro p h tvs e
    cases tvs with
    | nil => exact h
    | cons => simp at e
  | cons t ts ih =>
    intro p h tvs e
    cases tvs with
    | nil => simp at e
    | cons tv tvs =>
      obtain ⟨u, x⟩ := tv; simp only [map_cons, List.cons.injEq] at e; obtain ⟨rfl, e⟩ := e; exact ih (h x) tvs e

def retQ (C : Ctx) (sp : FnSpec) (vars : List ResultVar) (tvs : List TV) : Exit → St → Prop
  | .normal, st | .ret, st => (endOf C st.env sp.ps sp.rs vars).eval st.memf = some (sp.fn tvs, sp.bx tvs)
  | _, _ => False

section
variable {E : Ent} {N : Nat} {env : Nat → SV} {mem : Nat → Option Blk} {a : Act} {w : World} {β : Bind} {P : Program} {C : Ctx}

omit U in
theorem packV_arr (vs : List Value) : (if h : vs.toArray.size = 1 then vs.toArray[0] else .tuple vs.toArray) = packV vs := by
  match vs with
  | [] => rfl
  | [v] => rfl
  | u :: v :: r => simp [packV]

theorem RepC.cellm {A : Nat → Prop} {w w' : World} (hc : ∀ a v, w.cell? a = some v → w'.cell? a = some v) {t : Ty} {x : t.den} {cs : List Value}
    (h : RepC A w t x cs) : RepC A w' t x cs := by
  refine RepC.rec (motive_1 := fun t x cs _ => RepC A w' t x cs) (motive_2 := fun l cs _ => RepL A w' l cs) ?_ ?_ ?_ ?_ ?_ ?_ ?_ ?_ h
  · intro k n lo hi; exact .int k n lo hi
  · intro b; exact .bool b
  · intro s h; exact .str s h
  · intro n x cs _ ih; exact .named n x cs ih
  · intro t; exact .nil t
  · intro t xs a cap css hl hcap hA' hs hlen hc' _ ih; exact .slice t xs a cap css hl hcap hA' hs hlen (fun i j v hi hj => hc _ _ (hc' i j v hi hj)) ih
  · exact .nil
  · intro t x r cs ds _ _ h k; exact .cons t x r cs ds h k

theorem RepV.cellm {A : Nat → Prop} {w w' : World} (hc : ∀ a v, w.cell? a = some v → w'.cell? a = some v) {t : Ty} {x : t.den} {v : Value} (h : RepV A w t x v) : RepV A w' t x v := by
  cases h with
  | agg n x cs h => exact .agg n x cs (h.cellm hc)
  | one t x v ht h => exact .one t x v ht (h.cellm hc)

theorem RepSV.cellm {A : Nat → Prop} {w w' : World} (hc : ∀ a v, w.cell? a = some v → w'.cell? a = some v) {sv : SV} {v : Value} (h : RepSV A w β mem sv v) : RepSV A w' β mem sv v := by
  induction h with
  | top v => exact .top v
  | int k n lo hi => exact .int k n lo hi
  | bool b => exact .bool b
  | str s h => exact .str s h
  | data t x v h => exact .data t x v (h.cellm hc)
  | nilsl => exact .nilsl
  | nilptr => exact .nilptr
  | err0 => exact .err0
  | err1 T v => exact .err1 T v
  | arr id ep v hm h1 h => exact .arr id ep v hm h1 h
  | sub id ep off len v hm h1 h => exact .sub id ep off len v hm h1 h
  | ref id ep off b hm h => exact .ref id ep off b hm h
  | bsl id ep off len b cap hle hm h => exact .bsl id ep off len b cap hle hm h
  | eref id ep i p b o hm h => exact .eref id ep i p b o hm h
  | tr id ep v hm h1 h => exact .tr id ep v hm h1 h
  | tref id ep i p b o hm h => exact .tref id ep i p b o hm h
  | dref t x b off cs hb hcs h => exact .dref t x b off cs hb (fun j v hj => hc _ _ (hcs j v hj)) (h.cellm hc)
  | agg l vs hl h1 _ ih => exact .agg l vs hl h1 ih
  | tup l vs hl _ ih => exact .tup l vs hl ih
  | clo f l vs hl _ ih => exact .clo f l vs hl ih
  | cnd p sv v _ h' ih => exact .cnd p sv v ih h'

omit U in
theorem putObj_cells {w : World} {r : Nat} {o o' : Obj} (hr : w.heap[r]? = some o) (ho : ∀ c e f, o ≠ .cells c e f) : ∀ a v, w.cell? a = some v → (w.putObj r o').cell? a = some v := by
  intro a v h; by_cases e : a.block = r
  · unfold World.cell? at h; rw [e, hr] at h
    cases o with
    | cells c e f => exact absurd rfl (ho c e f)
    | _ => cases h
  · rw [World.cell?_eq_of_heap (w := w)]
    · exact h
    · exact World.putObj_heap_other e

theorem SimB.putObj (h : SimB E N env mem a w β) {r : Nat} {o o' : Obj} (hr : w.heap[r]? = some o) (ho : ∀ c e f, o ≠ .cells c e f) (hA : allow E w β r) (hw : E.w0.heap.size ≤ r) (E' : Ent)
    (e0 : E'.w0 = E.w0) (e1 : E'.A0 = E.A0) (e2 : E'.bs = E.bs) (e3 : E'.par = E.par) (e4 : E'.outer = E.outer) (ds : List Deferred) (hm : Marks E' (allow E w β) (w.putObj r o') ds) :
    SimB E' N env mem { a with defers := ds } (w.putObj r o') β := by
  have hall : allow E' (w.putObj r o') β = allow E w β := by
    funext b; unfold allow; rw [World.putObj_size, e0, e1]
  have hcell := putObj_cells (o' := o') hr ho
  have hne : ∀ i b C, β i = some (b, C) → (w.putObj r o').heap[b]? = w.heap[b]? := by
    intro i b C hb; exact World.putObj_heap_other (fun e => hA.2.2.1 i C (e ▸ hb))
  exact {
    defers := by rw [hall]; exact hm
    size := h.size, hN := h.hN
    os := h.os.trans (by rw [e0]), tape := h.tape.trans (by rw [e0]), output := ⟨h.output.1.trans (by rw [e0]), by rw [e0]; exact h.output.2⟩
    grow := by rw [World.putObj_size, e0]; exact h.grow
    old := by
      rw [e0, e2]; intro b hb hn; rw [World.putObj_heap_other (by omega)]; exact h.old b hb hn
    dom := by
      intro i b D hb; rw [World.putObj_size, e0, e2]; exact h.dom i b D hb
    inj := h.inj
    own := by
      intro b i hb; rw [World.putObj_size, e0]; exact h.own b i hb
    blk := by
      intro i k hk; rw [hall]; have hb := h.blk i k hk
      cases k with
      | box ep cells =>
        obtain ⟨b, D, cs, el, h1, h2, h3, h4⟩ := hb; refine ⟨b, D, cs, el, h1, (hne i b D h1).trans h2, h3, fun j sv hj => ?_⟩; obtain ⟨v, hv, hv1, hr⟩ := h4 j sv hj; exact ⟨v, hv, hv1, hr.cellm hcell⟩
      | arr ep t xs =>
        obtain ⟨hl, ⟨h1, h2⟩ | ⟨b, D, cs, el, css, h1, h2, h3, h4, h5⟩⟩ := hb
        · exact ⟨hl, .inl ⟨h1, h2⟩⟩
        · refine ⟨hl, .inr ⟨b, D, cs, el, css, h1, (hne i b D h1).trans h2, h3, h4, fun k hk => ?_⟩⟩; obtain ⟨g1, g2, g3⟩ := h5 k hk; exact ⟨g1, g2, g3.cellm hcell⟩
      | tree ep t xs =>
        obtain ⟨hl, ⟨h1, h2⟩ | ⟨b, D, cs, el, css, T, h1, h2, h3, h4, h5, h6, h7⟩⟩ := hb
        · exact ⟨hl, .inl ⟨h1, h2⟩⟩
        · refine ⟨hl, .inr ⟨b, D, cs, el, css, T, h1, (hne i b D h1).trans h2, h3, h4, h5, h6, fun k hk => ?_⟩⟩; obtain ⟨g1, g2, g3⟩ := h7 k hk; refine ⟨g1, g2, g3.mono fun c hc => ⟨hc, World.putObj_heap_other fun e => ?_⟩⟩; have := h5 k c hk hc
          rw [e, hA.2.2.2] at this
          cases this
      | dead ep => exact hb
    slot := by
      intro s; rw [hall]; (have e : slotV E' { a with defers := ds } s = slotV E a s := by unfold slotV; rw [e4]); rw [e]; exact (h.slot s).cellm hcell
    par := by rw [e3]; exact h.par }

theorem leaves_marks {fn : Func} {R : Ending → World → Prop} : ∀ (ds : List Deferred) {w : World}, SimB E N env mem { a with defers := ds } w β →
    (∀ w', SimB E N env mem { a with defers := [] } w' β → ∃ v, (results fn a.tmps).run P w' = .ok v w' ∧ R (.returned v) w') →
    LeavesInM Fence.wide 0 P fn a.tmps R ds .returning w := by
  intro ds
  induction ds with
  | nil => exact fun h hR => hR _ h
  | cons d ds ih =>
    intro w h hR; obtain ⟨D, rfl, hA, hw, hE, hD⟩ := h.defers.each d (by simp); refine ⟨by simp, .inl ⟨D, _, rfl, run_takeDeferred hD, ?_⟩⟩; have hnd := nodup_cons.1 h.defers.nodup; refine ih (SimB.putObj h (o' := .deferred none) hD (by simp) hA hw E rfl rfl rfl rfl rfl ds ⟨fun d hd => ?_, hnd.2, fun b o hb => ?_⟩) hR
    · obtain ⟨D', rfl, k1, k2, k3, k4⟩ := h.defers.each d (by simp [hd]); refine ⟨D', rfl, k1, k2, k3, ?_⟩; rw [World.putObj_heap_other]
      · exact k4
      · rintro rfl; exact hnd.1 hd
    · obtain ⟨k1, k2⟩ := h.defers.objs b o hb; refine ⟨k1, ?_⟩; rw [World.putObj_heap_other]
      · exact k2
      · rintro rfl; rw [hE] at hb; cases hb

theorem FnOK.of_bodyR {f : FuncId} {fn : Func} {c : Code} {sp : FnSpec} (hf : P.funcs[f]? = some fn) (hname : (fn.name == "runtime.NumGoroutine") = false) (hb : fn.body = some c) (hC : CtxTy P C) (hN : (Nat.ble sp.ps.length fn.ntmps && Nat.ble fn.ntmps OFF) = true)
    (h : AllTV (sp.ps.map PK.ty) fun tvs => (∀ tv ∈ tvs, Wf tv) → sp.pre tvs → ∀ E, E.ro = none → AW P E fn.ntmps c (retQ C sp fn.results.toList tvs) ⟨entS 0 sp.ps tvs, entM 0 sp.ps tvs⟩) : FnOK P f sp := by
  refine ⟨⟨fn, hf, hname, by rw [hb]; rfl⟩, ?_⟩; intro A w vs tvs bs hA hbs hnd hargs hpre hlay; simp only [Bool.and_eq_true] at hN; replace hN : sp.ps.length ≤ fn.ntmps ∧ fn.ntmps ≤ OFF := ⟨Nat.le_of_ble_eq_true hN.1, Nat.le_of_ble_eq_true hN.2⟩; obtain ⟨h1, h2, h3, h4⟩ := hargs.types; have haw := h.get tvs h1 h4 hpre { w0 := w, A0 := A, bs, wf := hA, wb := hbs, lay := hlay, par := tab (boxIds 0 sp.ps) bs } rfl _ w (ent_sound hargs hN.1 hN.2 hA hbs hnd hlay); refine callsIn_wide.1 (callsIn_of_wp_marks (n := 0) (F := Fence.wide) hf hb trivial (wpIn_mono haw ?_)); rintro e a' w' ⟨st, ⟨β, hs⟩, hq⟩
  have key : (endOf C st.env sp.ps sp.rs fn.results.toList).eval st.memf = some (sp.fn tvs, sp.bx tvs) → LeavesInM Fence.wide 0 P fn a'.tmps (fun e w' => ∃ rvs nb A', Post A w bs sp tvs e w' rvs nb A') a'.defers .returning w' := by
    intro he; refine leaves_marks a'.defers hs fun w' hs => ?_; simp only [endOf] at he; obtain ⟨svs, e1, he⟩ := Rd.bind_some he; obtain ⟨⟨xs, os, ls⟩, e2, he⟩ := Rd.bind_some he; obtain ⟨⟨ys, ks⟩, e3, he⟩ := Rd.bind_some he; obtain ⟨u, e4, he⟩ := Rd.bind_some he; split at he
    · rename_i hcond; simp only [Rd.eval, Option.some.injEq, Prod.mk.injEq] at he; obtain ⟨rfl, rfl⟩ := he; simp only [Bool.and_eq_true] at hcond; obtain ⟨hc1, hc2⟩ := hcond; have hos := nodupN_nodup hc1
      have hdis : ∀ i ∈ os, i ∉ ls ++ ks ∧ i ∉ boxIds 0 sp.ps := by
        intro i hi; have := all_eq_true.1 hc2 i hi
        simp only [Bool.and_eq_true, Bool.not_eq_true', ← Bool.not_eq_true, contains_iff_mem] at this
        exact this
      obtain ⟨rvs, r1, r2, r3, r4⟩ := retSVs_sound hs hC e1; have harr := allArr_sound e4; let E : Ent := { w0 := w, A0 := A, bs, wf := hA, wb := hbs, lay := hlay, par := tab (boxIds 0 sp.ps) bs }; let B : Nat → Prop := fun b => allow E w' β b ∨ ∃ id ∈ ls ++ ks, Held β id b; have hB : ∀ b, allow E w' β b → B b := fun b hb => .inl hb; obtain ⟨nb, n1, n2, n3⟩ := finsOf_sound hs hB r2 r4 e2 hos (fun id hi b hb => .inr ⟨id, by simp [hi], hb⟩); obtain ⟨b1, b2⟩ := boxFin_sound (bs := bs) hs hB e3 (h3 0) (fun j id b g1 g2 => tab_get (boxIds_nodup _ _) g1 g2) (fun id hi b hb => .inr ⟨id, by simp [hi], hb⟩)
      have hnotbs : ∀ id b D, β id = some (b, D) → (id ∈ ls ++ ks ∨ id ∈ os) → b ∉ bs := by
        rintro id b D hb hid hbb; obtain ⟨j, hj, rfl⟩ := mem_iff_getElem.1 hbb; (have hj' : j < (boxIds 0 sp.ps).length := by rw [h3 0]; exact hj); obtain ⟨D', hD'⟩ := b2 j _ bs[j] (getElem?_eq_getElem hj') (getElem?_eq_getElem hj); have := hs.inj _ _ _ _ _ hb hD'
        subst this
        rcases hid with hid | hid
        · obtain ⟨kx, hm, hbx⟩ := harr _ hid; obtain ⟨⟨k, hk, hkb⟩, _⟩ := hs.dom _ _ _ hb; have := hkb hbb; rw [hm] at hk; obtain rfl := Option.some.inj hk
          rw [hbx] at this
          cases this
        · exact (hdis _ hid).2 (getElem_mem _)
      have hnew : ∀ id b, Held β id b → (id ∈ ls ++ ks ∨ id ∈ os) → w.heap.size ≤ b ∧ b < w'.heap.size := by
        rintro id b (⟨D, hb⟩ | hb) hid
        · obtain ⟨_, d2, d3⟩ := hs.dom _ _ _ hb; rcases d3 with d3 | d3
          · exact absurd d3 (hnotbs id b D hb hid)
          · exact ⟨d3, d2⟩
        · obtain ⟨_, d2, d3, _⟩ := hs.own _ _ hb; exact ⟨d3, d2⟩
      refine ⟨packV rvs, ?_, rvs, nb, B, ?_⟩
      · unfold results; simp only [Sem.run_bind]; rw [run_mapM (P := P) (w := w') _ fn.results rvs (by simpa using r1) (fun i hi hi' => ?_)]
        · simp only [Result.andThen_ok, Sem.run_pure]; rw [packV_arr]
        · have := r3 i hi hi'
          cases hv : fn.results.toList[i] with
          | tmp t => rw [hv] at this; exact this
          | cell x t => rw [hv] at this; exact this
      · refine ⟨rfl, hs.os, hs.tape, hs.output, hs.grow, hs.old, ?_, n2, ?_, n3, b1⟩
        · rintro b (⟨p1, p2, p3, p4⟩ | ⟨id, hid, hb⟩)
          · refine ⟨p1, p2, fun hn => ?_⟩; obtain ⟨id, _, ⟨D, hb⟩ | hb⟩ := n1 b hn
            · exact p3 id D hb
            · rw [p4] at hb; cases hb
          · have := hnew id b hb (.inl hid); refine ⟨this.2, .inr this.1, fun hn => ?_⟩; obtain ⟨id', hi', hb'⟩ := n1 b hn; have := Held.inj hs hb hb'
            subst this
            exact (hdis _ hi').1 hid
        · intro b hn; obtain ⟨id, hid, hb⟩ := n1 b hn; exact hnew id b hb (.inr hid)
    · simp [Rd.eval] at he
  cases e with
  | normal => exact key hq
  | ret => exact key hq
  | _ => exact hq.elim

theorem AllTV.mono : ∀ {ts : List Ty} {p q : List TV → Prop}, AllTV ts p → (∀ tvs, p tvs → q tvs) → AllTV ts q := by
  intro ts
  induction ts with
  | nil => exact fun h hpq => hpq _ h
  | cons t ts ih => exact fun h hpq x => ih (h x) fun tvs => hpq _

theorem FnOK.of_body {f : FuncId} {fn : Func} {c : Code} {sp : FnSpec} (hf : P.funcs[f]? = some fn) (hname : (fn.name == "runtime.NumGoroutine") = false) (hb : fn.body = some c) (hC : CtxTy P C) (hN : (Nat.ble sp.ps.length fn.ntmps && Nat.ble fn.ntmps OFF) = true)
    (h : AllTV (sp.ps.map PK.ty) fun tvs => (∀ tv ∈ tvs, Wf tv) → sp.pre tvs → ∀ E, AW P E fn.ntmps c (retQ C sp fn.results.toList tvs) ⟨entS 0 sp.ps tvs, entM 0 sp.ps tvs⟩) : FnOK P f sp :=
  FnOK.of_bodyR hf hname hb hC hN (h.mono fun tvs h hw hp E _ => h hw hp E)

variable {c : Code} {Q : Exit → St → Prop} {st : St}

end
end Go.Am
