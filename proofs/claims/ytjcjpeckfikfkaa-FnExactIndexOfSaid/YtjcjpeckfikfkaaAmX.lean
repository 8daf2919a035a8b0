/-
  Am, part X: regions that draw the order of their operations.
-/
import Derived.Test.YtjcjpeckfikfkaaAmV
set_option linter.all false
namespace Go.Am
open List
variable [U : Univ]

def AllTV : List Ty → (List TV → Prop) → Prop
  | [], p => p []
  | t :: ts, p => ∀ x : t.den, AllTV ts fun l => p (⟨t, x⟩ :: l)

theorem AllTV.get : ∀ {ts : List Ty} {p : List TV → Prop}, AllTV ts p → ∀ tvs : List TV, tvs.map (·.1) = ts → p tvs := by
  intro ts
  induction ts with
  | nil =>
    intro p h tvs e
    cases tvs with
    | nil => exact h
    | cons => simp at e
  | cons t ts ih =>
    intro p h tvs e
    cases tvs with
    | nil => simp at e
    | cons tv tvs =>
      obtain ⟨u, x⟩ := tv; simp only [map_cons, List.cons.injEq] at e; obtain ⟨rfl, e⟩ := e; exact ih (h x) tvs e

def retQ (C : Ctx) (sp : FnSpec) (vars : List ResultVar) (tvs : List TV) : Exit → St → Prop
  | .normal, st | .ret, st => (endOf C st.env sp.ps sp.rs vars).eval st.memf = some (sp.fn tvs, sp.bx tvs)
  | _, _ => False

section
variable {E : Ent} {N : Nat} {env : Nat → SV} {mem : Nat → Option Blk} {a : Act} {w : World} {β : Bind} {P : Program} {C : Ctx}

omit U in
theorem packV_arr (vs : List Value) : (if h : vs.toArray.size = 1 then vs.toArray[0] else .tuple vs.toArray) = packV vs := by
  match vs with
  | [] => rfl
  | [v] => rfl
  | u :: v :: r => simp [packV]

theorem RepC.cellm {A : Nat → Prop} {w w' : World} (hc : ∀ a v, w.cell? a = some v → w'.cell? a = some v) {t : Ty} {x : t.den} {cs : List Value}
    (h : RepC A w t x cs) : RepC A w' t x cs := by
  refine RepC.rec (motive_1 := fun t x cs _ => RepC A w' t x cs) (motive_2 := fun l cs _ => RepL A w' l cs) ?_ ?_ ?_ ?_ ?_ ?_ ?_ ?_ h
  · intro k n lo hi; exact .int k n lo hi
  · intro b; exact .bool b
  · intro s h; exact .str s h
  · intro n x cs _ ih; exact .named n x cs ih
  · intro t; exact .nil t
  · intro t xs a cap css hl hcap hA' hs hlen hc' _ ih; exact .slice t xs a cap css hl hcap hA' hs hlen (fun i j v hi hj => hc _ _ (hc' i j v hi hj)) ih
  · exact .nil
  · intro t x r cs ds _ _ h k; exact .cons t x r cs ds h k

theorem RepV.cellm {A : Nat → Prop} {w w' : World} (hc : ∀ a v, w.cell? a = some v → w'.cell? a = some v) {t : Ty} {x : t.den} {v : Value} (h : RepV A w t x v) : RepV A w' t x v := by
  cases h with
  | agg n x cs h => exact .agg n x cs (h.cellm hc)
  | one t x v ht h => exact .one t x v ht (h.cellm hc)

theorem RepSV.cellm {A : Nat → Prop} {w w' : World} (hc : ∀ a v, w.cell? a = some v → w'.cell? a = some v) {sv : SV} {v : Value} (h : RepSV A w β mem sv v) : RepSV A w' β mem sv v := by
  induction h with
  | top v => exact .top v
  | int k n lo hi => exact .int k n lo hi
  | bool b => exact .bool b
  | str s h => exact .str s h
  | data t x v h => exact .data t x v (h.cellm hc)
  | nilsl => exact .nilsl
  | nilptr => exact .nilptr
  | err0 => exact .err0
  | err1 T v => exact .err1 T v
  | el id i cs => exact .el id i cs
  | mp id ep b hm h => exact .mp id ep b hm h
  | arr id ep v hm h1 h => exact .arr id ep v hm h1 h
  | sub id ep off len v hm h1 h => exact .sub id ep off len v hm h1 h
  | ref id ep off b hm h => exact .ref id ep off b hm h
  | bsl id ep off len b cap hle hm h => exact .bsl id ep off len b cap hle hm h
  | eref id ep i p b o hm h => exact .eref id ep i p b o hm h
  | tr id ep v hm h1 h => exact .tr id ep v hm h1 h
  | tref id ep i p b o hm h => exact .tref id ep i p b o hm h
  | dref t x b off cs hb hcs h => exact .dref t x b off cs hb (fun j v hj => hc _ _ (hcs j v hj)) (h.cellm hc)
  | agg l vs hl h1 _ ih => exact .agg l vs hl h1 ih
  | tup l vs hl _ ih => exact .tup l vs hl ih
  | clo f l vs hl _ ih => exact .clo f l vs hl ih
  | cnd p sv v _ h' ih => exact .cnd p sv v ih h'

omit U in
theorem putObj_cells {w : World} {r : Nat} {o o' : Obj} (hr : w.heap[r]? = some o) (ho : ∀ c e f, o ≠ .cells c e f) : ∀ a v, w.cell? a = some v → (w.putObj r o').cell? a = some v := by
  intro a v h; by_cases e : a.block = r
  · unfold World.cell? at h; rw [e, hr] at h
    cases o with
    | cells c e f => exact absurd rfl (ho c e f)
    | _ => cases h
  · rw [World.cell?_eq_of_heap (w := w)]
    · exact h
    · exact World.putObj_heap_other e

theorem SimB.putObj (h : SimB E N env mem a w β) {r : Nat} {o o' : Obj} (hr : w.heap[r]? = some o) (ho : ∀ c e f, o ≠ .cells c e f) (hA : allow E w β r) (hw : E.w0.heap.size ≤ r) (E' : Ent)
    (e0 : E'.w0 = E.w0) (e1 : E'.A0 = E.A0) (e2 : E'.bs = E.bs) (e3 : E'.par = E.par) (e4 : E'.outer = E.outer) (ds : List Deferred) (hm : Marks E' (allow E w β) (w.putObj r o') ds) :
    SimB E' N env mem { a with defers := ds } (w.putObj r o') β := by
  have hall : allow E' (w.putObj r o') β = allow E w β := by
    funext b; unfold allow; rw [World.putObj_size, e0, e1]
  have hcell := putObj_cells (o' := o') hr ho
  have hne : ∀ i b C, β i = some (b, C) → (w.putObj r o').heap[b]? = w.heap[b]? := by
    intro i b C hb; exact World.putObj_heap_other (fun e => hA.2.2.1 i C (e ▸ hb))
  exact {
    defers := by rw [hall]; exact hm
    size := h.size, hN := h.hN
    os := h.os.trans (by rw [e0]), tape := h.tape.trans (by rw [e0]), output := ⟨h.output.1.trans (by rw [e0]), by rw [e0]; exact h.output.2⟩
    grow := by rw [World.putObj_size, e0]; exact h.grow
    old := by
      rw [e0, e2]; intro b hb hn; rw [World.putObj_heap_other (by omega)]; exact h.old b hb hn
    dom := by
      intro i b D hb; rw [World.putObj_size, e0, e2]; exact h.dom i b D hb
    inj := h.inj
    own := by
      intro b i hb; rw [World.putObj_size, e0]; exact h.own b i hb
    blk := by
      intro i k hk; rw [hall]; have hb := h.blk i k hk
      cases k with
      | box ep cells =>
        obtain ⟨b, D, cs, el, h1, h2, h3, h4⟩ := hb; refine ⟨b, D, cs, el, h1, (hne i b D h1).trans h2, h3, fun j sv hj => ?_⟩; obtain ⟨v, hv, hv1, hr⟩ := h4 j sv hj; exact ⟨v, hv, hv1, hr.cellm hcell⟩
      | arr ep t xs =>
        obtain ⟨hl, ⟨h1, h2⟩ | ⟨b, D, cs, el, css, h1, h2, h3, h4, h5⟩⟩ := hb
        · exact ⟨hl, .inl ⟨h1, h2⟩⟩
        · refine ⟨hl, .inr ⟨b, D, cs, el, css, h1, (hne i b D h1).trans h2, h3, h4, fun k hk => ?_⟩⟩; obtain ⟨g1, g2, g3⟩ := h5 k hk; exact ⟨g1, g2, g3.cellm hcell⟩
      | tree ep t xs =>
        obtain ⟨hl, ⟨h1, h2⟩ | ⟨b, D, cs, el, css, T, h1, h2, h3, h4, h5, h6, h7⟩⟩ := hb
        · exact ⟨hl, .inl ⟨h1, h2⟩⟩
        · refine ⟨hl, .inr ⟨b, D, cs, el, css, T, h1, (hne i b D h1).trans h2, h3, h4, h5, h6, fun k hk => ?_⟩⟩; obtain ⟨g1, g2, g3⟩ := h7 k hk; refine ⟨g1, g2, g3.mono fun c hc => ⟨hc, World.putObj_heap_other fun e => ?_⟩⟩; have := h5 k c hk hc
          rw [e, hA.2.2.2] at this
          cases this
      | dead ep => exact hb
      | hole ep t xs hs o =>
        obtain ⟨hl, b, D, cs, el, css, T, h1, h2, h3, h4, h0, h5, h6, h7⟩ := hb; refine ⟨hl, b, D, cs, el, css, T, h1, (hne i b D h1).trans h2, h3, h4, h0, h5, h6, fun k hk => ?_⟩; obtain ⟨g1, g2, g3⟩ := h7 k hk; refine ⟨g1, g2, fun hn => (g3 hn).mono fun c hc => ⟨hc, World.putObj_heap_other fun e => ?_⟩⟩; have := h5 k c hk hn hc
        rw [e, hA.2.2.2] at this
        cases this
      | mp ep l =>
        obtain ⟨b, D, es, clk, h1, h2, h3⟩ := hb; exact ⟨b, D, es, clk, h1, (hne i b D h1).trans h2, h3⟩
    slot := by
      intro s; rw [hall]; (have e : slotV E' { a with defers := ds } s = slotV E a s := by unfold slotV; rw [e4]); rw [e]; exact (h.slot s).cellm hcell
    par := by rw [e3]; exact h.par }

theorem leaves_marks {fn : Func} {R : Ending → World → Prop} : ∀ (ds : List Deferred) {w : World}, SimB E N env mem { a with defers := ds } w β →
    (∀ w', SimB E N env mem { a with defers := [] } w' β → ∃ v, (results fn a.tmps).run P w' = .ok v w' ∧ R (.returned v) w') →
    LeavesInM Fence.wide 0 P fn a.tmps R ds .returning w := by
  intro ds
  induction ds with
  | nil => exact fun h hR => hR _ h
  | cons d ds ih =>
    intro w h hR; obtain ⟨D, rfl, hA, hw, hE, hD⟩ := h.defers.each d (by simp); refine ⟨by simp, .inl ⟨D, _, rfl, run_takeDeferred hD, ?_⟩⟩; have hnd := nodup_cons.1 h.defers.nodup; refine ih (SimB.putObj h (o' := .deferred none) hD (by simp) hA hw E rfl rfl rfl rfl rfl ds ⟨fun d hd => ?_, hnd.2, fun b o hb => ?_⟩) hR
    · obtain ⟨D', rfl, k1, k2, k3, k4⟩ := h.defers.each d (by simp [hd]); refine ⟨D', rfl, k1, k2, k3, ?_⟩; rw [World.putObj_heap_other]
      · exact k4
      · rintro rfl; exact hnd.1 hd
    · obtain ⟨k1, k2⟩ := h.defers.objs b o hb; refine ⟨k1, ?_⟩; rw [World.putObj_heap_other]
      · exact k2
      · rintro rfl; rw [hE] at hb; cases hb

theorem FnOK.of_bodyR {f : FuncId} {fn : Func} {c : Code} {sp : FnSpec} (hf : P.funcs[f]? = some fn) (hname : (fn.name == "runtime.NumGoroutine") = false) (hb : fn.body = some c) (hC : CtxTy P C) (hN : (Nat.ble sp.ps.length fn.ntmps && Nat.ble fn.ntmps OFF) = true)
    (h : AllTV (sp.ps.map PK.ty) fun tvs => (∀ tv ∈ tvs, Wf tv) → sp.pre tvs → ∀ E, E.ro = none → AW P E fn.ntmps c (retQ C sp fn.results.toList tvs) ⟨entS 0 sp.ps tvs, entM 0 sp.ps tvs⟩) : FnOK P f sp := by
  refine ⟨⟨fn, hf, hname, by rw [hb]; rfl⟩, ?_⟩; intro A w vs tvs bs hA hbs hnd hargs hpre hlay; simp only [Bool.and_eq_true] at hN; replace hN : sp.ps.length ≤ fn.ntmps ∧ fn.ntmps ≤ OFF := ⟨Nat.le_of_ble_eq_true hN.1, Nat.le_of_ble_eq_true hN.2⟩; obtain ⟨h1, h2, h3, h4⟩ := hargs.types; have haw := h.get tvs h1 h4 hpre { w0 := w, A0 := A, bs, wf := hA, wb := hbs, lay := hlay, par := tab (boxIds 0 sp.ps) bs } rfl _ w (ent_sound hargs hN.1 hN.2 hA hbs hnd hlay); refine callsIn_wide.1 (callsIn_of_wp_marks (n := 0) (F := Fence.wide) hf hb trivial (wpIn_mono haw ?_)); rintro e a' w' ⟨st, ⟨β, hs⟩, hq⟩
  have key : (endOf C st.env sp.ps sp.rs fn.results.toList).eval st.memf = some (sp.fn tvs, sp.bx tvs) → LeavesInM Fence.wide 0 P fn a'.tmps (fun e w' => ∃ rvs nb A', Post A w bs sp tvs e w' rvs nb A') a'.defers .returning w' := by
    intro he; refine leaves_marks a'.defers hs fun w' hs => ?_; simp only [endOf] at he; obtain ⟨svs, e1, he⟩ := Rd.bind_some he; obtain ⟨⟨xs, os, ls⟩, e2, he⟩ := Rd.bind_some he; obtain ⟨⟨ys, ks⟩, e3, he⟩ := Rd.bind_some he; obtain ⟨u, e4, he⟩ := Rd.bind_some he; split at he
    · rename_i hcond; simp only [Rd.eval, Option.some.injEq, Prod.mk.injEq] at he; obtain ⟨rfl, rfl⟩ := he; simp only [Bool.and_eq_true] at hcond; obtain ⟨hc1, hc2⟩ := hcond; have hos := nodupN_nodup hc1
      have hdis : ∀ i ∈ os, i ∉ ls ++ ks ∧ i ∉ boxIds 0 sp.ps := by
        intro i hi; have := all_eq_true.1 hc2 i hi
        simp only [Bool.and_eq_true, Bool.not_eq_true', ← Bool.not_eq_true, contains_iff_mem] at this
        exact this
      obtain ⟨rvs, r1, r2, r3, r4⟩ := retSVs_sound hs hC e1; have harr := allArr_sound e4; let E : Ent := { w0 := w, A0 := A, bs, wf := hA, wb := hbs, lay := hlay, par := tab (boxIds 0 sp.ps) bs }; let B : Nat → Prop := fun b => allow E w' β b ∨ ∃ id ∈ ls ++ ks, Held β id b; have hB : ∀ b, allow E w' β b → B b := fun b hb => .inl hb; obtain ⟨nb, n1, n2, n3⟩ := finsOf_sound hs hB r2 r4 e2 hos (fun id hi b hb => .inr ⟨id, by simp [hi], hb⟩); obtain ⟨b1, b2⟩ := boxFin_sound (bs := bs) hs hB e3 (h3 0) (fun j id b g1 g2 => tab_get (boxIds_nodup _ _) g1 g2) (fun id hi b hb => .inr ⟨id, by simp [hi], hb⟩)
      have hnotbs : ∀ id b D, β id = some (b, D) → (id ∈ ls ++ ks ∨ id ∈ os) → b ∉ bs := by
        rintro id b D hb hid hbb; obtain ⟨j, hj, rfl⟩ := mem_iff_getElem.1 hbb; (have hj' : j < (boxIds 0 sp.ps).length := by rw [h3 0]; exact hj); obtain ⟨D', hD'⟩ := b2 j _ bs[j] (getElem?_eq_getElem hj') (getElem?_eq_getElem hj); have := hs.inj _ _ _ _ _ hb hD'
        subst this
        rcases hid with hid | hid
        · obtain ⟨kx, hm, hbx⟩ := harr _ hid; obtain ⟨⟨k, hk, hkb⟩, _⟩ := hs.dom _ _ _ hb; have := hkb hbb; rw [hm] at hk; obtain rfl := Option.some.inj hk
          rw [hbx] at this
          cases this
        · exact (hdis _ hid).2 (getElem_mem _)
      have hnew : ∀ id b, Held β id b → (id ∈ ls ++ ks ∨ id ∈ os) → w.heap.size ≤ b ∧ b < w'.heap.size := by
        rintro id b (⟨D, hb⟩ | hb) hid
        · obtain ⟨_, d2, d3⟩ := hs.dom _ _ _ hb; rcases d3 with d3 | d3
          · exact absurd d3 (hnotbs id b D hb hid)
          · exact ⟨d3, d2⟩
        · obtain ⟨_, d2, d3, _⟩ := hs.own _ _ hb; exact ⟨d3, d2⟩
      refine ⟨packV rvs, ?_, rvs, nb, B, ?_⟩
      · unfold results; simp only [Sem.run_bind]; rw [run_mapM (P := P) (w := w') _ fn.results rvs (by simpa using r1) (fun i hi hi' => ?_)]
        · simp only [Result.andThen_ok, Sem.run_pure]; rw [packV_arr]
        · have := r3 i hi hi'
          cases hv : fn.results.toList[i] with
          | tmp t => rw [hv] at this; exact this
          | cell x t => rw [hv] at this; exact this
      · refine ⟨rfl, hs.os, hs.tape, hs.output, hs.grow, hs.old, ?_, n2, ?_, n3, b1⟩
        · rintro b (⟨p1, p2, p3, p4⟩ | ⟨id, hid, hb⟩)
          · refine ⟨p1, p2, fun hn => ?_⟩; obtain ⟨id, _, ⟨D, hb⟩ | hb⟩ := n1 b hn
            · exact p3 id D hb
            · rw [p4] at hb; cases hb
          · have := hnew id b hb (.inl hid); refine ⟨this.2, .inr this.1, fun hn => ?_⟩; obtain ⟨id', hi', hb'⟩ := n1 b hn; have := Held.inj hs hb hb'
            subst this
            exact (hdis _ hi').1 hid
        · intro b hn; obtain ⟨id, hid, hb⟩ := n1 b hn; exact hnew id b hb (.inr hid)
    · simp [Rd.eval] at he
  cases e with
  | normal => exact key hq
  | ret => exact key hq
  | _ => exact hq.elim

theorem AllTV.mono : ∀ {ts : List Ty} {p q : List TV → Prop}, AllTV ts p → (∀ tvs, p tvs → q tvs) → AllTV ts q := by
  intro ts
  induction ts with
  | nil => exact fun h hpq => hpq _ h
  | cons t ts ih => exact fun h hpq x => ih (h x) fun tvs => hpq _

theorem FnOK.of_body {f : FuncId} {fn : Func} {c : Code} {sp : FnSpec} (hf : P.funcs[f]? = some fn) (hname : (fn.name == "runtime.NumGoroutine") = false) (hb : fn.body = some c) (hC : CtxTy P C) (hN : (Nat.ble sp.ps.length fn.ntmps && Nat.ble fn.ntmps OFF) = true)
    (h : AllTV (sp.ps.map PK.ty) fun tvs => (∀ tv ∈ tvs, Wf tv) → sp.pre tvs → ∀ E, AW P E fn.ntmps c (retQ C sp fn.results.toList tvs) ⟨entS 0 sp.ps tvs, entM 0 sp.ps tvs⟩) : FnOK P f sp :=
  FnOK.of_bodyR hf hname hb hC hN (h.mono fun tvs h hw hp E _ => h hw hp E)

variable {c : Code} {Q : Exit → St → Prop} {st : St}

theorem AW.fact (p : Prop) (hp : ∀ a w, Sim E N st.env st.memf a w → p) (h : p → AW P E N c Q st) : AW P E N c Q st :=
  fun a w hs => h (hp a w hs) a w hs

theorem AW.wf_arr {id ep : Nat} {t : Ty} {xs : List t.den} (hs : st.memf id = some (.arr ep t xs)) (h : (xs.length : Int) ≤ 4294967296 → (∀ x ∈ xs, Wf ⟨t, x⟩) → AW P E N c Q st) : AW P E N c Q st := by
  refine AW.fact ((xs.length : Int) ≤ 4294967296 ∧ ∀ x ∈ xs, Wf ⟨t, x⟩) ?_ (fun hp => h hp.1 hp.2); rintro a w ⟨β, hw⟩; obtain ⟨hl, ⟨_, rfl⟩ | ⟨b, D, cs, el, css, _, _, _, _, hel⟩⟩ := hw.blk _ _ hs
  · exact ⟨hl, by simp⟩
  · refine ⟨hl, fun x hx => ?_⟩; obtain ⟨k, hk, rfl⟩ := mem_iff_getElem.1 hx; exact (hel k hk).2.2.wf

end
end Go.Am


namespace Go.Am
variable [U : Univ]

theorem opv_congr {env env' : Nat → SV} {x : Operand} (h : ∀ t, x = .tmp t → env t = env' t) : opv env x = opv env' x := by
  cases x with
  | tmp t => simp only [opv, peek, h t rfl]
  | _ => rfl

theorem opvs_congr {env env' : Nat → SV} : ∀ {l : List Operand}, (∀ x ∈ l, opv env x = opv env' x) → opvs env l = opvs env' l := by
  intro l
  induction l with
  | nil => intro _; rfl
  | cons x l ih =>
    intro h; simp only [opvs, h x (by simp), ih fun y hy => h y (by simp [hy])]

theorem partsOf_congr {env env' : Nat → SV} : ∀ {l : List (Nat × Operand)}, (∀ x ∈ l.map (·.2), opv env x = opv env' x) → partsOf env l = partsOf env' l := by
  intro l
  induction l with
  | nil => intro _; rfl
  | cons x l ih =>
    obtain ⟨i, x⟩ := x; intro h; simp only [partsOf, h x (by simp), ih fun y hy => h y (by simp at hy ⊢; exact .inr hy)]

theorem optInt_congr {env env' : Nat → SV} {x : Option Operand} (h : ∀ y, x = some y → opv env y = opv env' y) : optInt env x = optInt env' x := by
  cases x with
  | none => rfl
  | some y => simp only [optInt, h y rfl]

theorem stepOp_congr {C : Ctx} {wr : Bool} {env env' : Nat → SV} {d : Nat} {op : Op} (h : ∀ x ∈ op.operands, opv env x = opv env' x) : stepOp C wr env d op = stepOp C wr env' d op := by
  cases op with
  | build T parts =>
    have : partsOf env parts.toList = partsOf env' parts.toList := partsOf_congr fun x hx => h x (by simpa [Op.operands] using hx); simp only [stepOp, this]
  | buildSlice T n parts =>
    have : partsOf env parts.toList = partsOf env' parts.toList := partsOf_congr fun x hx => h x (by simpa [Op.operands] using hx); simp only [stepOp, this]
  | makeFunc f first captured =>
    have : opvs env captured.toList = opvs env' captured.toList := opvs_congr fun x hx => h x (by simp [Op.operands]; exact .inr (by simpa using hx))
    cases f with
    | func f => simp only [stepOp, this]
    | _ => rfl
  | call c =>
    have h1 : opvs env c.args.toList = opvs env' c.args.toList := opvs_congr fun x hx => h x (by simp [Op.operands, Call.operands]; cases c.callee <;> simp_all)
    cases hc : c.callee with
    | value f =>
      have h2 : opv env f = opv env' f := h f (by simp [Op.operands, Call.operands, hc]); simp only [stepOp, h1, hc, h2]
    | builtin b => simp only [stepOp, h1, hc]
    | invoke r m => simp only [stepOp, h1, hc]
  | slice T x lo hi mx =>
    have h1 : opv env x = opv env' x := h x (by simp [Op.operands]); have h2 : optInt env lo = optInt env' lo := optInt_congr fun y hy => h y (by simp [Op.operands, hy]); have h3 : optInt env hi = optInt env' hi := optInt_congr fun y hy => h y (by simp [Op.operands, hy])
    cases mx with
    | none => simp only [stepOp, h1, h2, h3]
    | some m => rfl
  | move x => simp only [stepOp, h x (by simp [Op.operands])]
  | assign x => simp only [stepOp, h x (by simp [Op.operands])]
  | pick c x y => simp only [stepOp, h c (by simp [Op.operands]), h x (by simp [Op.operands]), h y (by simp [Op.operands])]
  | alloc T => rfl
  | box T x => simp only [stepOp, h x (by simp [Op.operands])]
  | load T x => simp only [stepOp, h x (by simp [Op.operands])]
  | store T x y => simp only [stepOp, h x (by simp [Op.operands]), h y (by simp [Op.operands])]
  | nilCheck x => simp only [stepOp, h x (by simp [Op.operands])]
  | binOp op T x y T' => simp only [stepOp, h x (by simp [Op.operands]), h y (by simp [Op.operands])]
  | unOp op T x => simp only [stepOp, h x (by simp [Op.operands])]
  | convert S T x => simp only [stepOp, h x (by simp [Op.operands])]
  | makeSlice T x y => simp only [stepOp, h x (by simp [Op.operands]), h y (by simp [Op.operands])]
  | fieldAddr T x f => simp only [stepOp, h x (by simp [Op.operands])]
  | field T x f => simp only [stepOp, h x (by simp [Op.operands])]
  | indexAddr T x y => simp only [stepOp, h x (by simp [Op.operands]), h y (by simp [Op.operands])]
  | makeMap T x => cases x <;> rfl
  | lookup T x y b => cases b <;> simp only [stepOp, h x (by simp [Op.operands]), h y (by simp [Op.operands])]
  | mapUpdate T x y z => simp only [stepOp, h x (by simp [Op.operands]), h y (by simp [Op.operands]), h z (by simp [Op.operands])]
  | index T x y => simp only [stepOp, h x (by simp [Op.operands]), h y (by simp [Op.operands])]
  | extract x i => simp only [stepOp, h x (by simp [Op.operands])]
  | _ => rfl

theorem Rd.eval_congr {α : Type} {m m' : Nat → Option Blk} : ∀ {x : Rd α}, (∀ i ∈ x.log m, m' i = m i) → x.eval m' = x.eval m ∧ x.log m' = x.log m := by
  intro x
  induction x with
  | ret a => intro _; exact ⟨rfl, rfl⟩
  | fail => intro _; exact ⟨rfl, rfl⟩
  | mem i k ih =>
    intro h; have hi : m' i = m i := h i (by simp [Rd.log]); have := ih (m i) fun j hj => h j (by simp only [Rd.log, List.mem_cons]; exact .inr hj); simp only [Rd.eval, Rd.log, hi]; exact ⟨this.1, by rw [this.2]⟩

theorem stepAt_congr {C : Ctx} {wr : Bool} {kn : List (Nat × Bool)} {N : Nat} {ops : Array Oper} {env env' : Nat → SV} {i : Nat} (h : ∀ o, ops[i]? = some o → ∀ t ∈ o.looksAt ops, env t = env' t) :
    stepAt C wr kn N ops env i = stepAt C wr kn N ops env' i := by
  unfold stepAt
  cases ho : ops[i]? with
  | none => rfl
  | some o =>
    have h := h o ho
    have hop : ∀ d, stepOp C wr env d o.op = stepOp C wr env' d o.op := fun d => stepOp_congr fun x hx => opv_congr fun t ht => h t (by
      subst ht
      exact List.mem_append_left _ (List.mem_filterMap.2 ⟨.tmp t, by simpa using hx, rfl⟩))
    (have h1 : ∀ pre, stepPlain C wr env o pre = stepPlain C wr env' o pre := fun pre => by simp only [stepPlain, hop]); have h2 : ∀ p, stepCond C wr env o p = stepCond C wr env' o p := fun p => by simp only [stepCond, hop]
    have h3 : ∀ g want pre p x, stepGuard C wr kn env o g want pre p x = stepGuard C wr kn env' o g want pre p x := fun g want pre p x => by
      simp only [stepGuard, h1, h2]
    simp only [h1, h3]
    cases hg : o.guard with
    | none => rfl
    | some jw =>
      obtain ⟨j, want⟩ := jw
      cases hgs : (ops[j]?).bind (·.dst) with
      | none => simp only [hgs]
      | some g =>
        (have : peek env g = peek env' g := by unfold peek; rw [h g (List.mem_append_right _ (by simp only [hg]; rw [hgs]; simp))]); simp only [hgs, this]

def runR (C : Ctx) (wr : Bool) (kn : List (Nat × Bool)) (N : Nat) (ops : Array Oper) : List Nat → (Nat → SV) → (Nat → Option Blk) → Option (List (StepR × List Nat))
  | [], _, _ => some []
  | i :: r, env, mem =>
    match (stepAt C wr kn N ops env i).eval mem with
    | none => none
    | some s => match runR C wr kn N ops r (s.env env) (updm mem s.memw) with
      | none => none
      | some l => some ((s, (stepAt C wr kn N ops env i).log mem) :: l)

def envS (S : Nat → Bool) : Nat → List (StepR × List Nat) → (Nat → SV) → Nat → SV
  | _, [], e => e
  | i, x :: r, e => envS S (i + 1) r (bif S i then x.1.env e else e)

def memS (S : Nat → Bool) : Nat → List (StepR × List Nat) → (Nat → Option Blk) → Nat → Option Blk
  | _, [], m => m
  | i, x :: r, m => memS S (i + 1) r (bif S i then updm m x.1.memw else m)

structure Foot where
  d : Option Nat
  rs : List Nat
  ws : List Nat
  ls : List Nat

def footOf (ops : Array Oper) (i : Nat) (x : StepR × List Nat) : Foot where
  d := x.1.dst
  rs := match ops[i]? with
    | some o => o.looksAt ops
    | none => []
  ws := x.1.memw.map (·.1)
  ls := x.2

def feet (ops : Array Oper) : Nat → List (StepR × List Nat) → List Foot
  | _, [] => []
  | i, x :: r => footOf ops i x :: feet ops (i + 1) r

def noneIn (l r : List Nat) : Bool := l.all fun i => !memN i r
def optIn (d : Option Nat) (r : List Nat) : Bool :=
  match d with
  | some d => memN d r
  | none => false

def Foot.apart (x y : Foot) : Bool :=
  !(optIn x.d y.rs) && (!(optIn y.d x.rs) && (!(optIn x.d y.d.toList) && (noneIn x.ws y.ls && (noneIn y.ws x.ls && noneIn x.ws y.ws))))

def maskOf (acc : List Nat) : List Edge → Nat → Nat
  | [], m => m
  | e :: r, m => maskOf acc r (bif Region.binds .any e then m ||| (1 <<< e.on) ||| acc.getD e.on 0 else m)

def masksL : List Oper → List Nat → List Nat
  | [], acc => acc
  | o :: r, acc => masksL r (acc ++ [maskOf acc o.after.toList 0])

def backEdges : Nat → List Oper → Bool
  | _, [] => true
  | i, o :: r => o.after.toList.all (fun e => !(Region.binds .any e) || Nat.blt e.on i) && backEdges (i + 1) r

def pairsOK (ms : List Nat) (fs : List Foot) : Bool :=
  (List.range fs.length).all fun j => (List.range j).all fun i => Nat.testBit (ms.getD j 0) i ||
    match fs[i]?, fs[j]? with
    | some x, some y => x.apart y
    | _, _ => true

def indep (ops : Array Oper) (rs : List (StepR × List Nat)) : Bool :=
  backEdges 0 ops.toList && pairsOK (masksL ops.toList []) (feet ops 0 rs)

def obsOf : List (StepR × List Nat) → List Prop
  | [] => []
  | x :: r => x.1.ob ++ obsOf r

def regionAny (C : Ctx) (wr : Bool) (kn : List (Nat × Bool)) (N : Nat) (ops : Array Oper) (ks ms : List Nat) (st : St) : Option (St × List Prop) :=
  match runR C wr kn N ops (List.range ops.size) st.env st.memf with
  | none => none
  | some rs =>
    match keep ks ms (envS (fun _ => true) 0 rs st.env) (memS (fun _ => true) 0 rs st.memf) with
    | some st' => bif indep ops rs then some (st', obsOf rs) else none
    | none => none

section
variable {S S' : Nat → Bool}

theorem envS_congr : ∀ {rs : List (StepR × List Nat)} {i s : Nat} {e e' : Nat → SV}, e s = e' s → (∀ (j : Nat) (x : StepR × List Nat), rs[j]? = some x → x.1.dst = some s → S (i + j) = S' (i + j)) → envS S i rs e s = envS S' i rs e' s := by
  intro rs
  induction rs with
  | nil => intro i s e e' h _; exact h
  | cons x rs ih =>
    intro i s e e' h hs; simp only [envS]; refine ih ?_ fun j y hj hd => ?_
    · by_cases hd : x.1.dst = some s
      · have := hs 0 x rfl hd
        simp only [Nat.add_zero] at this
        rw [this]
        cases S' i with
        | true => simp only [cond_true, StepR.env, hd, upd_same]
        | false => simpa using h
      · have : ∀ f : Nat → SV, x.1.env f s = f s := by
          intro f; unfold StepR.env
          cases hx : x.1.dst with
          | none => rfl
          | some d =>
            simp only; exact upd_ne _ _ (fun e => hd (by rw [hx, e]))
        have : ∀ (c : Bool) (f : Nat → SV), (bif c then x.1.env f else f) s = f s := by
          intro c f
          cases c with
          | true => exact this f
          | false => rfl
        rw [this, this, h]
    · have := hs (j + 1) y (by simpa using hj) hd
      rwa [show i + (j + 1) = i + 1 + j by omega] at this

theorem updm_notin {m : Nat → Option Blk} {l : List (Nat × Blk)} {i : Nat} (h : i ∉ l.map (·.1)) : updm m l i = m i := by
  induction l generalizing m with
  | nil => rfl
  | cons x l ih =>
    obtain ⟨j, k⟩ := x; simp only [List.map_cons, List.mem_cons, not_or] at h; rw [updm_cons, ih h.2, setm_ne _ _ h.1]

theorem updm_point {m m' : Nat → Option Blk} {l : List (Nat × Blk)} {i : Nat} (h : m i = m' i) : updm m l i = updm m' l i := by
  induction l generalizing m m' with
  | nil => exact h
  | cons x l ih =>
    obtain ⟨j, k⟩ := x; rw [updm_cons, updm_cons]; refine ih ?_; by_cases hij : i = j
    · subst hij; rw [setm_same, setm_same]
    · rw [setm_ne _ _ hij, setm_ne _ _ hij, h]

theorem memS_congr : ∀ {rs : List (StepR × List Nat)} {i s : Nat} {e e' : Nat → Option Blk}, e s = e' s → (∀ (j : Nat) (x : StepR × List Nat), rs[j]? = some x → s ∈ x.1.memw.map (·.1) → S (i + j) = S' (i + j)) → memS S i rs e s = memS S' i rs e' s := by
  intro rs
  induction rs with
  | nil => intro i s e e' h _; exact h
  | cons x rs ih =>
    intro i s e e' h hs; simp only [memS]; refine ih ?_ fun j y hj hd => ?_
    · by_cases hd : s ∈ x.1.memw.map (·.1)
      · have := hs 0 x rfl hd
        simp only [Nat.add_zero] at this
        rw [this]
        cases S' i with
        | true => exact updm_point h
        | false => exact h
      · have : ∀ (c : Bool) (f : Nat → Option Blk), (bif c then updm f x.1.memw else f) s = f s := by
          intro c f
          cases c with
          | true => exact updm_notin hd
          | false => rfl
        rw [this, this, h]
    · have := hs (j + 1) y (by simpa using hj) hd
      rwa [show i + (j + 1) = i + 1 + j by omega] at this

theorem envS_more : ∀ {rs : List (StepR × List Nat)} {i j : Nat} {x : StepR × List Nat} {e : Nat → SV}, rs[j]? = some x → (∀ k, S' k = (S k || k == i + j)) → S (i + j) = false →
    (∀ (k : Nat) (y : StepR × List Nat) d, j < k → rs[k]? = some y → S (i + k) = true → x.1.dst = some d → y.1.dst ≠ some d) → ∀ s, envS S' i rs e s = x.1.env (envS S i rs e) s := by
  intro rs
  induction rs with
  | nil => intro i j x e h; simp at h
  | cons y rs ih =>
    intro i j x e hx hS hj hw s; simp only [envS]
    cases j with
    | zero =>
      simp only [List.getElem?_cons_zero, Option.some.injEq] at hx; subst hx; (have h1 : S' i = true := by rw [hS]; simp); (have h2 : S i = false := by simpa using hj); rw [h1, h2, cond_true, cond_false]; unfold StepR.env
      cases hd : y.1.dst with
      | none =>
        simp only; exact envS_congr rfl fun k z hk _ => by rw [hS]; simp; omega
      | some d =>
        simp only; by_cases hs : s = d
        · subst hs; rw [upd_same]
          have : envS S' (i + 1) rs (upd e s y.1.val) s = envS (fun _ => false) (i + 1) rs (upd e s y.1.val) s := by
            refine envS_congr rfl fun k z hk hz => ?_; have h3 := hw (k + 1) z s (by omega) (by simpa using hk); have h4 : S (i + (k + 1)) ≠ true := fun h => h3 h hd hz; rw [hS]; simp only [Bool.or_eq_false_iff]; refine ⟨by rw [show i + 1 + k = i + (k + 1) by omega]; simpa using h4, by simp; omega⟩
          rw [this]
          have : ∀ (rs : List (StepR × List Nat)) (i : Nat) (e : Nat → SV), envS (fun _ => false) i rs e = e := by
            intro rs
            induction rs with
            | nil => intro i e; rfl
            | cons x rs ih => intro i e; exact ih _ _
          rw [this, upd_same]
        · rw [upd_ne _ _ hs]; exact envS_congr (upd_ne _ _ hs) fun k z hk _ => by rw [hS]; simp; omega
    | succ j =>
      (have h1 : S' i = S i := by rw [hS]; simp); rw [h1]; refine ih (j := j) (by simpa using hx) (fun k => by rw [hS, show i + (j + 1) = i + 1 + j by omega]) (by rw [show i + 1 + j = i + (j + 1) by omega]; exact hj) (fun k z d hk hz hSk => ?_) s; exact hw (k + 1) z d (by omega) (by simpa using hz) (by rw [show i + (k + 1) = i + 1 + k by omega]; exact hSk)

theorem memS_more : ∀ {rs : List (StepR × List Nat)} {i j : Nat} {x : StepR × List Nat} {e : Nat → Option Blk}, rs[j]? = some x → (∀ k, S' k = (S k || k == i + j)) → S (i + j) = false →
    (∀ (k : Nat) (y : StepR × List Nat) d, j < k → rs[k]? = some y → S (i + k) = true → d ∈ x.1.memw.map (·.1) → d ∉ y.1.memw.map (·.1)) → ∀ s, memS S' i rs e s = updm (memS S i rs e) x.1.memw s := by
  intro rs
  induction rs with
  | nil => intro i j x e h; simp at h
  | cons y rs ih =>
    intro i j x e hx hS hj hw s; simp only [memS]
    cases j with
    | zero =>
      simp only [List.getElem?_cons_zero, Option.some.injEq] at hx; subst hx; (have h1 : S' i = true := by rw [hS]; simp); (have h2 : S i = false := by simpa using hj); rw [h1, h2, cond_true, cond_false]; by_cases hs : s ∈ y.1.memw.map (·.1)
      · have h3 : ∀ (T : Nat → Bool) (f : Nat → Option Blk), (∀ k, T (i + 1 + k) = true → S (i + 1 + k) = true) → memS T (i + 1) rs f s = f s := by
          intro T f hT
          have : memS T (i + 1) rs f s = memS (fun _ => false) (i + 1) rs f s := by
            refine memS_congr rfl fun k z hk hz => ?_; rw [Bool.eq_false_iff]; intro h; exact hw (k + 1) z s (by omega) (by simpa using hk) (by rw [show i + (k + 1) = i + 1 + k by omega]; exact hT k h) hs hz
          rw [this]
          have : ∀ (rs : List (StepR × List Nat)) (i : Nat) (e : Nat → Option Blk), memS (fun _ => false) i rs e = e := by
            intro rs
            induction rs with
            | nil => intro i e; rfl
            | cons x rs ih => intro i e; exact ih _ _
          rw [this]
        rw [h3 S' _ (fun k hk => by
          rw [hS] at hk; simp only [Bool.or_eq_true, beq_iff_eq] at hk; rcases hk with hk | hk
          · exact hk
          · omega)]
        exact updm_point (h3 S e (fun k hk => hk)).symm
      · rw [updm_notin hs]; exact memS_congr (updm_notin hs) fun k z hk _ => by rw [hS]; simp; omega
    | succ j =>
      (have h1 : S' i = S i := by rw [hS]; simp); rw [h1]; refine ih (j := j) (by simpa using hx) (fun k => by rw [hS, show i + (j + 1) = i + 1 + j by omega]) (by rw [show i + 1 + j = i + (j + 1) by omega]; exact hj) (fun k z d hk hz hSk => ?_) s; exact hw (k + 1) z d (by omega) (by simpa using hz) (by rw [show i + (k + 1) = i + 1 + k by omega]; exact hSk)

end

theorem runR_get {C : Ctx} {wr : Bool} {kn : List (Nat × Bool)} {N : Nat} {ops : Array Oper} : ∀ {n i : Nat} {env : Nat → SV} {mem : Nat → Option Blk} {rs : List (StepR × List Nat)}, runR C wr kn N ops (List.range' i n) env mem = some rs →
    rs.length = n ∧ ∀ (j : Nat) (x : StepR × List Nat), rs[j]? = some x → (stepAt C wr kn N ops (envS (fun k => Nat.blt k (i + j)) i rs env) (i + j)).eval (memS (fun k => Nat.blt k (i + j)) i rs mem) = some x.1 ∧
      (stepAt C wr kn N ops (envS (fun k => Nat.blt k (i + j)) i rs env) (i + j)).log (memS (fun k => Nat.blt k (i + j)) i rs mem) = x.2 := by
  intro n
  induction n with
  | zero =>
    intro i env mem rs h; simp only [List.range', runR, Option.some.injEq] at h; subst h; exact ⟨rfl, by simp⟩
  | succ n ih =>
    intro i env mem rs h; simp only [List.range', runR] at h; split at h
    · simp at h
    · rename_i s hs; split at h
      · simp at h
      · rename_i l hl; obtain rfl := Option.some.inj h; obtain ⟨h1, h2⟩ := ih hl; refine ⟨by simp [h1], fun j x hj => ?_⟩
        cases j with
        | zero =>
          simp only [List.getElem?_cons_zero, Option.some.injEq] at hj; subst hj
          have e1 : envS (fun k => Nat.blt k (i + 0)) i ((s, (stepAt C wr kn N ops env i).log mem) :: l) env = env := by
            funext t
            have : envS (fun k => Nat.blt k (i + 0)) i ((s, (stepAt C wr kn N ops env i).log mem) :: l) env t = envS (fun _ => false) i ((s, (stepAt C wr kn N ops env i).log mem) :: l) env t :=
              envS_congr rfl fun k z hk _ => by rw [Bool.eq_false_iff]; simp [Nat.blt_eq]
            rw [this]
            have : ∀ (rs : List (StepR × List Nat)) (i : Nat) (e : Nat → SV), envS (fun _ => false) i rs e = e := by
              intro rs
              induction rs with
              | nil => intro i e; rfl
              | cons x rs ih => intro i e; exact ih _ _
            rw [this]
          have e2 : memS (fun k => Nat.blt k (i + 0)) i ((s, (stepAt C wr kn N ops env i).log mem) :: l) mem = mem := by
            funext t
            have : memS (fun k => Nat.blt k (i + 0)) i ((s, (stepAt C wr kn N ops env i).log mem) :: l) mem t = memS (fun _ => false) i ((s, (stepAt C wr kn N ops env i).log mem) :: l) mem t :=
              memS_congr rfl fun k z hk _ => by rw [Bool.eq_false_iff]; simp [Nat.blt_eq]
            rw [this]
            have : ∀ (rs : List (StepR × List Nat)) (i : Nat) (e : Nat → Option Blk), memS (fun _ => false) i rs e = e := by
              intro rs
              induction rs with
              | nil => intro i e; rfl
              | cons x rs ih => intro i e; exact ih _ _
            rw [this]
          rw [e1, e2]; exact ⟨hs, rfl⟩
        | succ j =>
          have := h2 j x (by simpa using hj); rw [show i + (j + 1) = i + 1 + j by omega]; (have hlt : Nat.blt i (i + 1 + j) = true := by rw [Nat.blt_eq]; omega); simp only [envS, memS, hlt, cond_true]
          exact this

theorem maskOf_spec {acc : List Nat} {S : Nat → Bool} (hacc : ∀ j i, (acc.getD j 0).testBit i = true → S j = true → S i = true) : ∀ {es : List Edge} {m : Nat}, (∀ i, m.testBit i = true → S i = true) →
    (∀ e ∈ es, Region.binds .any e = true → S e.on = true) → ∀ i, (maskOf acc es m).testBit i = true → S i = true := by
  intro es
  induction es with
  | nil => intro m hm _ i h; exact hm i h
  | cons e es ih =>
    intro m hm he i h; simp only [maskOf] at h; refine ih ?_ (fun e' h' => he e' (by simp [h'])) i h; intro k hk
    cases hb : Region.binds .any e with
    | false => rw [hb, cond_false] at hk; exact hm k hk
    | true =>
      rw [hb, cond_true, Nat.testBit_or, Nat.testBit_or, Bool.or_eq_true, Bool.or_eq_true] at hk; have hS := he e (by simp) hb; rcases hk with (hk | hk) | hk
      · exact hm k hk
      · rw [Nat.testBit_shiftLeft] at hk; simp only [Bool.and_eq_true, decide_eq_true_eq] at hk
        have : k - e.on = 0 := by
          have := hk.2
          cases hd : k - e.on with
          | zero => rfl
          | succ n => rw [hd] at this; simp [Nat.testBit_succ] at this
        (have : k = e.on := by omega); rw [this]; exact hS
      · exact hacc _ _ hk hS

def Closed (ops : List Oper) (S : Nat → Bool) : Prop := ∀ (j : Nat) (o : Oper), ops[j]? = some o → S j = true → ∀ e ∈ o.after.toList, Region.binds .any e = true → S e.on = true

theorem masksL_spec {S : Nat → Bool} {all : List Oper} (hS : Closed all S) : ∀ (l : List Oper) (acc : List Nat), (∀ k, l[k]? = all[acc.length + k]?) → (∀ j i, (acc.getD j 0).testBit i = true → S j = true → S i = true) →
    ∀ j i, ((masksL l acc).getD j 0).testBit i = true → S j = true → S i = true := by
  intro l
  induction l with
  | nil => intro acc _ h; exact h
  | cons o l ih =>
    intro acc hl hacc; refine ih _ ?_ ?_
    · intro k; have := hl (k + 1)
      simp only [List.getElem?_cons_succ] at this
      rw [this]; simp only [List.length_append, List.length_singleton]; congr 1; omega
    · intro j i hb hj; rw [List.getD_eq_getElem?_getD, List.getElem?_append] at hb; split at hb
      · exact hacc j i (by rw [List.getD_eq_getElem?_getD]; exact hb) hj
      · rename_i hge; by_cases hje : j = acc.length
        · subst hje; simp only [Nat.sub_self, List.getElem?_cons_zero, Option.getD_some] at hb
          have ho : all[acc.length]? = some o := by
            have := hl 0; simpa using this.symm
          exact maskOf_spec hacc (m := 0) (by simp) (fun e he hbe => hS _ o ho hj e he hbe) i hb
        · rw [List.getElem?_eq_none (by simp; omega)] at hb; simp at hb

theorem backEdges_spec : ∀ {l : List Oper} {i : Nat}, backEdges i l = true → ∀ (j : Nat) (o : Oper), l[j]? = some o → ∀ e ∈ o.after.toList, Region.binds .any e = true → e.on < i + j := by
  intro l
  induction l with
  | nil => intro i _ j o h; simp at h
  | cons x l ih =>
    intro i h j o hj e he hb; simp only [backEdges, Bool.and_eq_true] at h
    cases j with
    | zero =>
      simp only [List.getElem?_cons_zero, Option.some.injEq] at hj; subst hj; have := List.all_eq_true.1 h.1 e he
      simp only [hb, Bool.not_true, Bool.false_or, Nat.blt_eq] at this
      omega
    | succ j =>
      have := ih h.2 j o (by simpa using hj) e he hb; omega

theorem feet_get {ops : Array Oper} : ∀ {rs : List (StepR × List Nat)} {i j : Nat} {x : StepR × List Nat}, rs[j]? = some x → (feet ops i rs)[j]? = some (footOf ops (i + j) x) := by
  intro rs
  induction rs with
  | nil => intro i j x h; simp at h
  | cons y rs ih =>
    intro i j x h
    cases j with
    | zero =>
      simp only [List.getElem?_cons_zero, Option.some.injEq] at h; subst h; rfl
    | succ j =>
      simp only [feet, List.getElem?_cons_succ]; rw [ih (by simpa using h), show i + 1 + j = i + (j + 1) by omega]

theorem feet_length {ops : Array Oper} : ∀ {rs : List (StepR × List Nat)} {i : Nat}, (feet ops i rs).length = rs.length := by
  intro rs
  induction rs with
  | nil => intro i; rfl
  | cons y rs ih => intro i; simp [feet, ih]

structure Apart (ops : Array Oper) (i j : Nat) (x y : StepR × List Nat) : Prop where
  dr : ∀ o d, ops[j]? = some o → x.1.dst = some d → d ∉ o.looksAt ops
  rd : ∀ o d, ops[i]? = some o → y.1.dst = some d → d ∉ o.looksAt ops
  dd : ∀ d, x.1.dst = some d → y.1.dst ≠ some d
  wl : ∀ d, d ∈ x.1.memw.map (·.1) → d ∉ y.2
  lw : ∀ d, d ∈ y.1.memw.map (·.1) → d ∉ x.2
  ww : ∀ d, d ∈ x.1.memw.map (·.1) → d ∉ y.1.memw.map (·.1)

theorem noneIn_spec {l r : List Nat} (h : noneIn l r = true) : ∀ i ∈ l, i ∉ r := by
  intro i hi; have := List.all_eq_true.1 h i hi
  simp only [Bool.not_eq_true', ← Bool.not_eq_true] at this
  exact fun hm => this (memN_iff.2 hm)

theorem optIn_spec {d : Option Nat} {r : List Nat} (h : (!optIn d r) = true) : ∀ i, d = some i → i ∉ r := by
  rintro i rfl hm; simp only [optIn, memN_iff.2 hm, Bool.not_true] at h; exact absurd h (by simp)

theorem indep_spec {ops : Array Oper} {rs : List (StepR × List Nat)} (h : indep ops rs = true) {S : Nat → Bool} (hS : Closed ops.toList S) {i j : Nat} (hij : i < j) {x y : StepR × List Nat} (hx : rs[i]? = some x) (hy : rs[j]? = some y) :
    (S j = true → S i = true) ∨ Apart ops i j x y := by
  simp only [indep, Bool.and_eq_true] at h; (have hlt : j < (feet ops 0 rs).length := by rw [feet_length]; exact (List.getElem?_eq_some_iff.1 hy).1); have h2 := List.all_eq_true.1 h.2 j (by rw [List.mem_range]; exact hlt); have h3 := List.all_eq_true.1 h2 i (by rw [List.mem_range]; exact hij); rw [feet_get hx, feet_get hy] at h3; simp only [Nat.zero_add, Bool.or_eq_true] at h3; rcases h3 with h3 | h3
  · exact .inl fun hj => masksL_spec hS ops.toList [] (by simp) (by simp) j i h3 hj
  · refine .inr ?_; simp only [Foot.apart, footOf, Bool.and_eq_true] at h3; obtain ⟨a1, a2, a3, a4, a5, a6⟩ := h3; refine ⟨fun o d ho hd => ?_, fun o d ho hd => ?_, fun d hd hd' => ?_, fun d hd => noneIn_spec a4 d hd, fun d hd => noneIn_spec a5 d hd, fun d hd => noneIn_spec a6 d hd⟩
    · rw [ho] at a1; exact optIn_spec a1 d hd
    · rw [ho] at a2; exact optIn_spec a2 d hd
    · rw [hd'] at a3; exact optIn_spec a3 d hd (by simp)

section
variable {E : Ent} {N : Nat} {env : Nat → SV} {mem : Nat → Option Blk} {a : Act} {w : World} {β : Bind} {P : Program} {C : Ctx} {ops : Array Oper} {Q : Exit → Act → World → Prop}

def leftN (S : Nat → Bool) (n : Nat) : Nat := (List.range n).countP fun j => !(S j)

omit U in
theorem countP_more {S S' : Nat → Bool} {i : Nat} (hS : ∀ k, S' k = (S k || k == i)) (hi : S i = false) : ∀ (l : List Nat), i ∈ l → l.countP (fun j => !(S' j)) < l.countP (fun j => !(S j)) := by
  have hle : ∀ l : List Nat, l.countP (fun j => !(S' j)) ≤ l.countP (fun j => !(S j)) := fun l => List.countP_mono_left fun x _ h => by
    rw [hS] at h; simp only [Bool.not_or, Bool.and_eq_true] at h; exact h.1
  intro l
  induction l with
  | nil => intro h; cases h
  | cons x l ih =>
    intro h; by_cases hx : x = i
    · subst hx; (have h1 : S' x = true := by rw [hS]; simp); rw [List.countP_cons, List.countP_cons, hi, h1]; have := hle l; simp only [Bool.not_true, Bool.false_eq_true, if_false, Bool.not_false, if_true]; omega
    · have hm : i ∈ l := by
        rcases List.mem_cons.1 h with h | h
        · exact absurd h.symm hx
        · exact h
      have := ih hm; (have h1 : S' x = S x := by rw [hS]; simp [hx]); rw [List.countP_cons, List.countP_cons, h1]; omega

theorem Sim.congr {env' : Nat → SV} {mem' : Nat → Option Blk} (h : Sim E N env mem a w) (he : ∀ s, env' s = env s) (hm : ∀ s, mem' s = mem s) : Sim E N env' mem' a w := by
  obtain rfl : env' = env := funext he; obtain rfl : mem' = mem := funext hm; exact h

theorem region_any_sound (hC : CtxOK P C) {wr : Bool} {kn : List (Nat × Bool)} {rs : List (StepR × List Nat)} (hr : runR C wr kn N ops (List.range ops.size) env mem = some rs) (hi : indep ops rs = true) (hob : ∀ p ∈ obsOf rs, p)
    (hQ : ∀ a' w', Sim E N (envS (fun _ => true) 0 rs env) (memS (fun _ => true) 0 rs mem) a' w' → Q .normal a' w') :
    ∀ (fuel : Nat) (listed : Array Bool) (a : Act) (w : World), listed.size = ops.size → Closed ops.toList (fun j => listed.getD j false) → leftN (fun j => listed.getD j false) ops.size ≤ fuel →
      Sim E N (envS (fun j => listed.getD j false) 0 rs env) (memS (fun j => listed.getD j false) 0 rs mem) a w → wpAnyIn E.fence 0 P .any ops Q fuel listed a w := by
  obtain ⟨hlen, hget⟩ := runR_get (i := 0) (n := ops.size) (by rwa [← List.range_eq_range']); simp only [Nat.zero_add] at hget; have hback := backEdges_spec (Bool.and_eq_true _ _ ▸ hi).1
  -- nothing is ready only when all is done
  have done : ∀ listed : Array Bool, listed.size = ops.size → Region.ready .any ops listed = [] → ∀ j, j < ops.size → listed.getD j false = true := by
    intro listed hsz hnil j
    induction j using Nat.strongRecOn with
    | _ j ih =>
      intro hj; by_cases h : listed.getD j false = true
      · exact h
      · have hlt : j < listed.size := by omega
        have : j ∈ Region.ready .any ops listed := by
          rw [mem_ready]; refine ⟨by simp [hlt] at h ⊢; exact h, ops[j], by simp [hj], fun e he hb => ?_⟩; have := hback j ops[j] (by simp [hj]) e (by simpa using he) hb; exact ih e.on (by omega) (by omega)
        rw [hnil] at this
        cases this
  have fin : ∀ (listed : Array Bool) (a : Act) (w : World), (∀ j, j < ops.size → listed.getD j false = true) → Sim E N (envS (fun j => listed.getD j false) 0 rs env) (memS (fun j => listed.getD j false) 0 rs mem) a w → Q .normal a w := by
    intro listed a w hall hs; refine hQ a w (hs.congr (fun s => ?_) (fun s => ?_))
    · exact envS_congr rfl fun j x hj _ => by
        (have : j < ops.size := by rw [← hlen]; exact (List.getElem?_eq_some_iff.1 hj).1); rw [Nat.zero_add, hall j this]
    · exact memS_congr rfl fun j x hj _ => by
        (have : j < ops.size := by rw [← hlen]; exact (List.getElem?_eq_some_iff.1 hj).1); rw [Nat.zero_add, hall j this]
  intro fuel
  induction fuel with
  | zero =>
    intro listed a w hsz hcl hleft hs
    have hall : ∀ j, j < ops.size → listed.getD j false = true := by
      intro j hj; have : (List.range ops.size).countP (fun j => !(listed.getD j false)) = 0 := Nat.le_zero.1 hleft; have := List.countP_eq_zero.1 this j (List.mem_range.2 hj)
      simpa using this
    refine ⟨?_, fin listed a w hall hs⟩; rw [List.eq_nil_iff_forall_not_mem]; intro j hj; obtain ⟨h1, o, ho, _⟩ := mem_ready.1 hj; have hjl : j < ops.size := (Array.getElem?_eq_some_iff.1 ho).1; (have hlt : j < listed.size := by omega); have := hall j hjl; simp [hlt] at this h1; rw [this] at h1; cases h1
  | succ fuel ih =>
    intro listed a w hsz hcl hleft hs; refine ⟨fun hnil => fin listed a w (done listed hsz hnil) hs, fun j hj => ?_⟩; obtain ⟨h1, o, ho, hall⟩ := mem_ready.1 hj; have hjl : j < ops.size := (Array.getElem?_eq_some_iff.1 ho).1; have hlt : j < listed.size := by omega
    have hSj : listed.getD j false = false := by
      simp [hlt] at h1 ⊢; exact h1
    (have hjr : j < rs.length := by omega); obtain ⟨x, hx⟩ : ∃ x, rs[j]? = some x := ⟨rs[j], List.getElem?_eq_getElem hjr⟩
    have hS' : ∀ k, (listed.setIfInBounds j true).getD k false = (listed.getD k false || k == j) := by
      intro k; by_cases hk : k = j
      · subst hk; simp [hlt]
      · rw [getD_set_ne false (Ne.symm hk)]; simp [hk]
    have hcl' : Closed ops.toList (fun k => (listed.setIfInBounds j true).getD k false) := by
      intro k o' ho' hk e he hb; simp only [hS', Bool.or_eq_true] at hk ⊢; refine .inl ?_; rcases hk with hk | hk
      · exact hcl k o' ho' hk e he hb
      · (have hk : k = j := by simpa using hk); subst hk
        have : o' = o := by
          have : ops[k]? = some o' := by simpa using ho'
          rw [ho] at this
          exact (Option.some.inj this).symm
        subst this
        exact hall e (by simpa using he) hb
    -- a later one that is done already does not touch this one
    have later : ∀ k y, j < k → rs[k]? = some y → listed.getD k false = true → Apart ops j k x y := by
      intro k y hjk hy hk; rcases indep_spec hi hcl hjk hx hy with h | h
      · have h := h hk; rw [hSj] at h; cases h
      · exact h
    -- an earlier one that is not done does not touch this one
    have earlier : ∀ k y, k < j → rs[k]? = some y → listed.getD k false = false → Apart ops k j y x := by
      intro k y hkj hy hk; rcases indep_spec hi hcl' hkj hy hx with h | h
      · simp only [hS'] at h; have := h (by simp)
        rw [hk] at this
        simp only [Bool.false_or, beq_iff_eq] at this
        omega
      · exact h
    obtain ⟨g1, g2⟩ := hget j x hx
    have henv : stepAt C wr kn N ops (envS (fun k => listed.getD k false) 0 rs env) j = stepAt C wr kn N ops (envS (fun k => Nat.blt k j) 0 rs env) j := by
      refine stepAt_congr fun o' ho' t ht => envS_congr rfl fun k y hk hd => ?_; simp only [Nat.zero_add]; rcases Nat.lt_trichotomy k j with hkj | rfl | hkj
      · rw [show Nat.blt k j = true by rw [Nat.blt_eq]; exact hkj]
        cases hSk : listed.getD k false with
        | true => rfl
        | false => exact absurd ht ((earlier k y hkj hk hSk).dr o' t ho' hd)
      · rw [hSj]; symm; rw [Bool.eq_false_iff]; simp [Nat.blt_eq]
      · (have : Nat.blt k j = false := by rw [Bool.eq_false_iff]; simp [Nat.blt_eq]; omega); rw [this]
        cases hSk : listed.getD k false with
        | false => rfl
        | true => exact absurd ht ((later k y hkj hk hSk).rd o' t ho' hd)
    have hmem : ∀ i ∈ x.2, memS (fun k => listed.getD k false) 0 rs mem i = memS (fun k => Nat.blt k j) 0 rs mem i := by
      intro i hi'; refine memS_congr rfl fun k y hk hd => ?_; simp only [Nat.zero_add]; rcases Nat.lt_trichotomy k j with hkj | rfl | hkj
      · rw [show Nat.blt k j = true by rw [Nat.blt_eq]; exact hkj]
        cases hSk : listed.getD k false with
        | true => rfl
        | false => exact absurd hi' ((earlier k y hkj hk hSk).wl i hd)
      · rw [hSj]; symm; rw [Bool.eq_false_iff]; simp [Nat.blt_eq]
      · (have : Nat.blt k j = false := by rw [Bool.eq_false_iff]; simp [Nat.blt_eq]; omega); rw [this]
        cases hSk : listed.getD k false with
        | false => rfl
        | true => exact absurd hi' ((later k y hkj hk hSk).lw i hd)
    have hstep : (stepAt C wr kn N ops (envS (fun k => listed.getD k false) 0 rs env) j).eval (memS (fun k => listed.getD k false) 0 rs mem) = some x.1 := by
      rw [henv]; rw [(Rd.eval_congr (fun i hi' => hmem i (by rw [← g2]; exact hi'))).1]; exact g1
    obtain ⟨β, hb⟩ := hs
    have hobx : ∀ p ∈ x.1.ob, p := by
      have : ∀ (rs : List (StepR × List Nat)) (j : Nat), rs[j]? = some x → ∀ p ∈ x.1.ob, p ∈ obsOf rs := by
        intro rs
        induction rs with
        | nil => intro j h; simp at h
        | cons y rs ih =>
          intro j h p hp; simp only [obsOf, List.mem_append]
          cases j with
          | zero =>
            simp only [List.getElem?_cons_zero, Option.some.injEq] at h; subst h; exact .inl hp
          | succ j => exact .inr (ih j (by simpa using h) p hp)
      exact fun p hp => hob p (this rs j hx p hp)
    refine stepAt_sound hC hb hstep hobx fun a' w' hs' => ?_; refine ih _ a' w' (by simpa using hsz) hcl' ?_ (hs'.congr (fun s => ?_) (fun s => ?_))
    · have := countP_more (S := fun k => listed.getD k false) (S' := fun k => (listed.setIfInBounds j true).getD k false) hS' hSj (List.range ops.size) (List.mem_range.2 hjl)
      have h2 : leftN (fun k => (listed.setIfInBounds j true).getD k false) ops.size < leftN (fun k => listed.getD k false) ops.size := this
      exact Nat.le_of_lt_succ (Nat.lt_of_lt_of_le h2 hleft)
    · exact envS_more hx (fun k => by rw [Nat.zero_add]; exact hS' k) (by rw [Nat.zero_add]; exact hSj) (fun k y d hk hy hSk hd => by
        rw [Nat.zero_add] at hSk
        exact (later k y hk hy hSk).dd d hd) s
    · exact memS_more hx (fun k => by rw [Nat.zero_add]; exact hS' k) (by rw [Nat.zero_add]; exact hSj) (fun k y d hk hy hSk hd => by
        rw [Nat.zero_add] at hSk
        exact (later k y hk hy hSk).ww d hd) s

theorem AW.region_any {Q : Exit → St → Prop} {st : St} (hC : CtxOK P C) (hm : P.follows .mixedOrders = true) {id : Nat} (wr : Bool) (kn : List (Nat × Bool)) (ks ms : List Nat) (st' : St) (ob : List Prop) (h : Am.regionAny C wr kn N ops ks ms st = some (st', ob))
    (hob : ∀ p ∈ ob, p) (hq : Q .normal st') : AW P E N (.region id ops true) Q st := by
  intro a w hs; simp only [Am.regionAny] at h; split at h
  · simp at h
  · rename_i rs hr; split at h
    · rename_i st'' hk
      cases hi : indep ops rs with
      | false => rw [hi] at h; simp at h
      | true =>
        rw [hi, cond_true] at h; simp only [Option.some.injEq, Prod.mk.injEq] at h; obtain ⟨rfl, rfl⟩ := h; obtain ⟨β, hb⟩ := hs
        have hnone : ∀ j, (Array.replicate ops.size false).getD j false = false := by
          intro j; by_cases hj : j < ops.size <;> simp [hj]
        have e0 : ∀ (rs : List (StepR × List Nat)) (i : Nat) (e : Nat → SV), envS (fun _ => false) i rs e = e := by
          intro rs
          induction rs with
          | nil => intro i e; rfl
          | cons x rs ih => intro i e; exact ih _ _
        have m0 : ∀ (rs : List (StepR × List Nat)) (i : Nat) (e : Nat → Option Blk), memS (fun _ => false) i rs e = e := by
          intro rs
          induction rs with
          | nil => intro i e; rfl
          | cons x rs ih => intro i e; exact ih _ _
        refine wpIn_region_any hm (region_any_sound hC hr hi hob (fun a' w' hs' => ⟨st'', keep_sound hk hs', hq⟩) _ _ _ _ (by simp) (fun j o _ hj => by
          simp only [hnone] at hj
          cases hj) ?_ ⟨β, ?_⟩)
        · unfold leftN; have := List.countP_le_length (p := fun j => !((Array.replicate ops.size false).getD j false)) (l := List.range ops.size)
          simpa using this
        · rw [show (fun j => (Array.replicate ops.size false).getD j false) = fun _ => false from funext hnone, e0, m0]; exact hb.drew
    · simp at h

end
end Go.Am
