/-
  An, part A: a call that is walked in its place.
-/
import Derived.Test.YtjcjpeckfikfkaaAmY
set_option linter.all false
namespace Go.Am
open List
variable [U : Univ]
attribute [local irreducible] OFF

def enumSV : Nat → List SV → List (Nat × SV)
  | _, [] => []
  | i, v :: r => (i, v) :: enumSV (i + 1) r

def shiftS : List (Nat × SV) → List (Nat × SV)
  | [] => []
  | (i, v) :: r => (i + OFF, v) :: shiftS r

def unshS : List (Nat × SV) → List (Nat × SV)
  | [] => []
  | (i, v) :: r => bif Nat.blt i OFF then unshS r else (i - OFF, v) :: unshS r

def St.shift (st : St) (vs : List SV) : St := ⟨enumSV 0 vs ++ shiftS st.slots, st.mem⟩

def St.back (st : St) (dst : Option Nat) (v : SV) : St :=
  match dst with
  | some d => ⟨(d, v) :: unshS st.slots, st.mem⟩
  | none => ⟨unshS st.slots, st.mem⟩

theorem lookS_append (l l' : List (Nat × SV)) (i : Nat) (h : ∀ p ∈ l, p.1 ≠ i) : lookS (l ++ l') i = lookS l' i := by
  induction l with
  | nil => rfl
  | cons p l ih =>
    obtain ⟨j, v⟩ := p; have hj : j ≠ i := h (j, v) (by simp); (have : Nat.beq i j = false := by rw [Bool.eq_false_iff]; intro e; exact hj (Nat.eq_of_beq_eq_true e).symm); simp only [cons_append, lookS, this, cond_false]; exact ih fun p hp => h p (by simp [hp])

theorem enumSV_ne : ∀ (vs : List SV) (k : Nat) (p : Nat × SV), p ∈ enumSV k vs → k ≤ p.1 ∧ p.1 < k + vs.length := by
  intro vs
  induction vs with
  | nil => intro k p h; cases h
  | cons v vs ih =>
    intro k p h; rcases mem_cons.1 h with rfl | h
    · simp
    · have := ih (k + 1) p h; simp only [length_cons]; omega

theorem lookS_enum (l : List (Nat × SV)) : ∀ (vs : List SV) (k i : Nat) (sv : SV), vs[i]? = some sv → lookS (enumSV k vs ++ l) (k + i) = sv := by
  intro vs
  induction vs with
  | nil => intro k i sv h; simp at h
  | cons v vs ih =>
    intro k i sv h
    cases i with
    | zero =>
      simp only [getElem?_cons_zero, Option.some.injEq] at h; subst h; simp only [enumSV, cons_append, lookS, Nat.add_zero, Nat.beq_refl, cond_true]
    | succ i =>
      simp only [getElem?_cons_succ] at h; have := ih (k + 1) i sv h; (have e : Nat.beq (k + (i + 1)) k = false := by rw [Bool.eq_false_iff]; intro e; have := Nat.eq_of_beq_eq_true e; omega); simp only [enumSV, cons_append, lookS, e, cond_false]; rw [show k + (i + 1) = k + 1 + i by omega]
      exact this

theorem lookS_shift (l : List (Nat × SV)) (i : Nat) : lookS (shiftS l) (i + OFF) = lookS l i := by
  induction l with
  | nil => rfl
  | cons p l ih =>
    obtain ⟨j, v⟩ := p; simp only [shiftS, lookS, ih]; by_cases h : i = j
    · subst h; rw [show Nat.beq (i + OFF) (i + OFF) = true from Nat.beq_refl _, show Nat.beq i i = true from Nat.beq_refl _]
    · rw [show Nat.beq (i + OFF) (j + OFF) = false by rw [Bool.eq_false_iff]; intro e; have := Nat.eq_of_beq_eq_true e; omega,
        show Nat.beq i j = false by rw [Bool.eq_false_iff]; intro e; exact h (Nat.eq_of_beq_eq_true e)]

theorem lookS_shift_low (l : List (Nat × SV)) (i : Nat) (h : i < OFF) : lookS (shiftS l) i = .top := by
  induction l with
  | nil => rfl
  | cons p l ih =>
    obtain ⟨j, v⟩ := p; simp only [shiftS, lookS, ih]; rw [show Nat.beq i (j + OFF) = false by rw [Bool.eq_false_iff]; intro e; have := Nat.eq_of_beq_eq_true e; omega]; rfl

theorem lookS_unsh (l : List (Nat × SV)) (i : Nat) : lookS (unshS l) i = lookS l (i + OFF) := by
  induction l with
  | nil => rfl
  | cons p l ih =>
    obtain ⟨j, v⟩ := p; simp only [unshS]
    cases hj : Nat.blt j OFF with
    | true =>
      have : j < OFF := Nat.le_of_ble_eq_true hj; simp only [cond_true, lookS]; rw [show Nat.beq (i + OFF) j = false by rw [Bool.eq_false_iff]; intro e; have := Nat.eq_of_beq_eq_true e; omega, cond_false]; exact ih
    | false =>
      have : ¬ j < OFF := fun h => by
        rw [show Nat.blt j OFF = true from Nat.ble_eq_true_of_le h] at hj; cases hj
      simp only [cond_false, lookS, ih]; by_cases h : i = j - OFF
      · subst h; rw [show Nat.beq (j - OFF) (j - OFF) = true from Nat.beq_refl _, show Nat.beq (j - OFF + OFF) j = true by rw [Nat.sub_add_cancel (by omega)]; exact Nat.beq_refl _]
      · rw [show Nat.beq i (j - OFF) = false by rw [Bool.eq_false_iff]; intro e; exact h (Nat.eq_of_beq_eq_true e),
          show Nat.beq (i + OFF) j = false by rw [Bool.eq_false_iff]; intro e; have := Nat.eq_of_beq_eq_true e; omega]

section
variable {E : Ent} {N : Nat} {a : Act} {w : World} {β : Bind} {P : Program} {C : Ctx} {ops : Array Oper} {Q Q' : Exit → St → Prop} {st st' : St}

noncomputable def Ent.within (E : Ent) (o : Nat → Value) (ds : List Deferred) : Ent :=
  { E with outer := o, ro := none, obj := fun b => open Classical in if ({ target := .collected b, args := #[] } : Deferred) ∈ ds then some (.deferred (some [])) else E.obj b }

theorem Marks.enter {A : Nat → Prop} {ds : List Deferred} (h : Marks E A w ds) (o : Nat → Value) : Marks (E.within o ds) A w [] where
  each d hd := by cases hd
  nodup := nodup_nil
  objs b x e := by
    simp only [Ent.within] at e; split at e
    · rename_i hm; obtain ⟨D, h1, h2, h3, h4, h5⟩ := h.each _ hm; obtain rfl := Option.some.inj e; simp only [Deferred.mk.injEq, Target.collected.injEq, and_true] at h1; subst h1; exact ⟨⟨h2, h3⟩, h5⟩
    · exact h.objs b x e

theorem Marks.leave {A A' : Nat → Prop} {w' : World} {ds ds' : List Deferred} {o : Nat → Value} (h : Marks E A w ds) (hs : Marks (E.within o ds) A' w' ds') : Marks E A' w' ds where
  each d hd := by
    obtain ⟨D, rfl, h2, h3, h4, h5⟩ := h.each d hd; obtain ⟨⟨k1, k2⟩, k3⟩ := hs.objs D (.deferred (some [])) (by simp only [Ent.within]; rw [if_pos hd]); exact ⟨D, rfl, k1, k2, h4, k3⟩
  nodup := h.nodup
  objs b x e := by
    refine hs.objs b x ?_; simp only [Ent.within]; rw [if_neg]
    · exact e
    · intro hm; obtain ⟨D, h1, _, _, h4, _⟩ := h.each _ hm; simp only [Deferred.mk.injEq, Target.collected.injEq, and_true] at h1; subst h1; rw [h4] at e; cases e

theorem enter_sim (h : SimB E N st.env st.memf a w β) {vs : List SV} {cvs : List Value} {N' : Nat} (hl : vs.length = cvs.length)
    (hr : ∀ (i : Nat) (sv : SV) (v : Value), vs[i]? = some sv → cvs[i]? = some v → RepSV (allow E w β) w β st.memf sv v) (hN : vs.length ≤ N') (hN2 : N' ≤ OFF) :
    SimB (E.within (fun s => slotV E a (s - OFF)) a.defers) N' (st.shift vs).env (st.shift vs).memf { tmps := cvs.toArray ++ Array.replicate (N' - cvs.toArray.size) undef, defers := [] } w β where
  defers := h.defers.enter _
  size := by simp only [Array.size_append, size_toArray, Array.size_replicate]; omega
  hN := hN2
  os := h.os
  tape := h.tape
  output := h.output
  grow := h.grow
  old := h.old
  dom := h.dom
  inj := h.inj
  own := h.own
  blk := h.blk
  par := h.par
  slot := by
    intro s; show RepSV (allow E w β) w β st.memf (lookS (enumSV 0 vs ++ shiftS st.slots) s) _; unfold slotV; by_cases hs : s < OFF
    · rw [if_pos hs]; by_cases hv : s < vs.length
      · have h1 : vs[s]? = some vs[s] := getElem?_eq_getElem hv; have h2 : cvs[s]? = some (cvs[s]'(by omega)) := getElem?_eq_getElem (by omega); have := lookS_enum (shiftS st.slots) vs 0 s _ h1
        rw [Nat.zero_add] at this
        rw [this]
        have e : (cvs.toArray ++ Array.replicate (N' - cvs.toArray.size) undef).getD s undef = cvs[s]'(by omega) := by
          simp [Array.getElem?_append, show s < cvs.length by omega]
        rw [e]; exact hr s _ _ h1 h2
      · rw [lookS_append _ _ _ (fun p hp => by have := enumSV_ne vs 0 p hp; omega), lookS_shift_low _ _ hs]; exact .top _
    · rw [if_neg hs, lookS_append _ _ _ (fun p hp => by have := enumSV_ne vs 0 p hp; omega)]; have := lookS_shift st.slots (s - OFF)
      rw [Nat.sub_add_cancel (by omega)] at this
      rw [this]; exact h.slot (s - OFF)

theorem back_env (st' : St) (dst : Option Nat) (v : SV) : (st'.back dst v).env = putE (fun i => st'.env (i + OFF)) dst v := by
  funext i
  cases dst with
  | none => exact lookS_unsh _ _
  | some d =>
    show lookS ((d, v) :: unshS st'.slots) i = upd (fun i => st'.env (i + OFF)) d v i; simp only [lookS, upd, lookS_unsh]; rfl

theorem back_mem (st' : St) (dst : Option Nat) (v : SV) : (st'.back dst v).memf = st'.memf := by cases dst <;> rfl

theorem leave_sim {env : Nat → SV} {mem : Nat → Option Blk} {w' : World} {β' : Bind} {N' : Nat} {a' : Act} (h : SimB E N env mem a w β)
    (hs : SimB (E.within (fun s => slotV E a (s - OFF)) a.defers) N' st'.env st'.memf a' w' β') {dst : Option Nat} (hd : ∀ d, dst = some d → d < N) {sv : SV} {v : Value}
    (hv : RepSV (allow E w' β') w' β' st'.memf sv v) : SimB E N (st'.back dst sv).env (st'.back dst sv).memf (a.put dst v) w' β' := by
  have h1 : SimB E N (fun i => st'.env (i + OFF)) st'.memf a w' β' :=
    { defers := h.defers.leave hs.defers, size := h.size, hN := h.hN, os := hs.os, tape := hs.tape, output := hs.output, grow := hs.grow, old := hs.old, dom := hs.dom, inj := hs.inj, own := hs.own, blk := hs.blk, par := hs.par
      slot := fun s => by
        have := hs.slot (s + OFF)
        have e : slotV (E.within (fun s => slotV E a (s - OFF)) a.defers) a' (s + OFF) = slotV E a s := by
          unfold slotV Ent.within; rw [if_neg (by omega)]; simp only [Nat.add_sub_cancel]
        rw [e] at this
        exact this }
  rw [back_env, back_mem]; exact h1.put hd hv

def AWO (P : Program) (E : Ent) (N : Nat) (ops : Array Oper) (is : List Nat) (Q : Exit → St → Prop) (st : St) : Prop :=
  ∀ a w, Sim E N st.env st.memf a w → wpOpsIn E.fence 0 P ops (CQ E N Q) is a w

theorem AW.regionO {id : Nat} (l : List Nat) (hl : List.range ops.size = l) (h : AWO P E N ops l Q st) : AW P E N (.region id ops false) Q st := by
  intro a w hs; subst hl; exact wpIn_region (h a w hs)

theorem AWO.nil (h : Q .normal st) : AWO P E N ops [] Q st := fun _ _ hs => ⟨st, hs, h⟩

theorem AWO.keep {is : List Nat} (ks ms : List Nat) (st' : St) (h : Am.keep ks ms st.env st.memf = some st') (hc : AWO P E N ops is Q st') : AWO P E N ops is Q st :=
  fun a w hs => hc a w (keep_sound h hs)

theorem runL_rest {Q : Exit → Act → World → Prop} (hC : CtxOK P C) {wr : Bool} {kn : List (Nat × Bool)} {rest : List Nat} : ∀ {is : List Nat} {env : Nat → SV} {mem : Nat → Option Blk} {a : Act} {w : World} {e : Nat → SV} {m : Nat → Option Blk} {ob : List Prop},
    Sim E N env mem a w → runL C wr kn N ops is env mem = some (e, m, ob) → (∀ p ∈ ob, p) → (∀ a' w', Sim E N e m a' w' → wpOpsIn E.fence 0 P ops Q rest a' w') → wpOpsIn E.fence 0 P ops Q (is ++ rest) a w := by
  intro is
  induction is with
  | nil =>
    intro env mem a w e m ob h hs _ hQ; simp only [runL, Option.some.injEq, Prod.mk.injEq] at hs; obtain ⟨rfl, rfl, rfl⟩ := hs; exact hQ a w h
  | cons i is ih =>
    intro env mem a w e m ob h hs hob hQ; simp only [runL] at hs; split at hs
    · simp at hs
    · rename_i s hst; split at hs
      · simp at hs
      · rename_i e' m' ob' hr; simp only [Option.some.injEq, Prod.mk.injEq] at hs; obtain ⟨rfl, rfl, rfl⟩ := hs; obtain ⟨β, hb⟩ := h; rw [cons_append, wpOpsIn_cons]; exact stepAt_sound hC hb hst (fun p hp => hob p (by simp [hp])) fun a' w' hsim => ih hsim hr (fun p hp => hob p (by simp [hp])) hQ

def runK (C : Ctx) (wr : Bool) (kn : List (Nat × Bool)) (N : Nat) (ops : Array Oper) (is : List Nat) (ks ms : List Nat) (st : St) : Option (St × List Prop) :=
  match runL C wr kn N ops is st.env st.memf with
  | some (e, m, ob) => match Am.keep ks ms e m with
    | some st' => some (st', ob)
    | none => none
  | none => none

theorem AWO.run (hC : CtxOK P C) (wr : Bool) (kn : List (Nat × Bool)) (is rest : List Nat) (ks ms : List Nat) (st' : St) (ob : List Prop) {l : List Nat} (hl : l = is ++ rest)
    (h : runK C wr kn N ops is ks ms st = some (st', ob)) (hob : AllP ob) (hq : AWO P E N ops rest Q st') : AWO P E N ops l Q st := by
  intro a w hs; subst hl; simp only [runK] at h; split at h
  · rename_i e m ob' hr; split at h
    · rename_i st'' hk; simp only [Option.some.injEq, Prod.mk.injEq] at h; obtain ⟨rfl, rfl⟩ := h; exact runL_rest hC hs hr (hob.get) fun a' w' hs' => hq a' w' (keep_sound hk hs')
    · simp at h
  · simp at h

theorem AWO.runU (hC : CtxOK P C) (wr : Bool) (kn : List (Nat × Bool)) (is rest : List Nat) (ks ms : List Nat) (s : List (Nat × SV)) (m : List (Nat × Blk)) (ob : List Prop) {l : List Nat} (hl : l = is ++ rest)
    (h : runK C wr kn N ops is ks ms st = some (st.up ks ms s m, ob)) (hob : AllP ob) (hq : AWO P E N ops rest Q (st.up ks ms s m)) : AWO P E N ops l Q st := AWO.run hC wr kn is rest ks ms _ ob hl h hob hq

theorem AWO.keepU {is : List Nat} (ks ms : List Nat) (s : List (Nat × SV)) (m : List (Nat × Blk)) (h : Am.keep ks ms st.env st.memf = some (st.up ks ms s m)) (hc : AWO P E N ops is Q (st.up ks ms s m)) : AWO P E N ops is Q st :=
  AWO.keep ks ms _ h hc

def inQ (C : Ctx) (vars : List ResultVar) (K : SV → St → Prop) : Exit → St → Prop
  | .normal, st | .ret, st => ∃ svs, (retSVs C st.env vars).eval st.memf = some svs ∧ K (packSV svs) st
  | _, _ => False

def dstOK (N : Nat) : Option Nat → Bool
  | some d => Nat.blt d N
  | none => true

def Wanted (ops : Array Oper) (st : St) (o : Oper) : Prop :=
  o.guard = none ∨ ∃ j want g x, o.guard = some (j, want) ∧ (ops[j]?).bind (·.dst) = some g ∧ peek st.env g = .bool x ∧ x = want

theorem results_run (hC : CtxTy P C) {env : Nat → SV} {mem : Nat → Option Blk} {fn : Func} (h : SimB E N env mem a w β) {svs : List SV} (hs : (retSVs C env fn.results.toList).eval mem = some svs) :
    ∃ rvs : List Value, svs.length = rvs.length ∧ (∀ (i : Nat) (sv : SV) (v : Value), svs[i]? = some sv → rvs[i]? = some v → RepSV (allow E w β) w β mem sv v) ∧ (results fn a.tmps).run P w = .ok (packV rvs) w := by
  obtain ⟨rvs, r1, r2, r3, r4⟩ := retSVs_sound h hC hs; refine ⟨rvs, r2, r4, ?_⟩; unfold results; simp only [Sem.run_bind]; rw [run_mapM (P := P) (w := w) _ fn.results rvs (by simpa using r1) (fun i hi hi' => ?_)]
  · simp only [Result.andThen_ok, Sem.run_pure]; rw [packV_arr]
  · have := r3 i hi hi'
    cases hv : fn.results.toList[i] with
    | tmp t => rw [hv] at this; exact this
    | cell x t => rw [hv] at this; exact this

theorem AWO.call (hC : CtxTy P C) {i : Nat} {rest : List Nat} {dst : Option Nat} {f : Operand} {args : Array Operand} {ats : Array TypeId} {type : TypeId} {pos : String} {after : Array Edge} {guard : Option (Nat × Bool)}
    {vs caps : List SV} {g : FuncId} {fn : Func} {c : Code} {l : List Nat} (hl : l = i :: rest) (ho : ops[i]? = some ⟨dst, .call ⟨.value f, args, ats⟩, type, pos, after, guard⟩) (hg : Wanted ops st ⟨dst, .call ⟨.value f, args, ats⟩, type, pos, after, guard⟩) (hd : dstOK N dst = true)
    (hargs : opvs st.env args.toList = (vs, [])) (hf : opv st.env f = (.clo g caps, [])) (hfn : P.funcs[g]? = some fn) (hname : (fn.name == "runtime.NumGoroutine") = false) (hb : fn.body = some c)
    (hN : (Nat.ble (vs ++ caps).length fn.ntmps && Nat.ble fn.ntmps OFF) = true)
    (h : ∀ E' : Ent, E'.ro = none → AW P E' fn.ntmps c (inQ C fn.results.toList fun v st' => AWO P E N ops rest Q (st'.back dst v)) (st.shift (vs ++ caps))) : AWO P E N ops l Q st := by
  rintro a w ⟨β, hs⟩; subst hl
  have hd' : ∀ d, dst = some d → d < N := by
    rintro d rfl; exact Nat.le_of_ble_eq_true hd
  have hw : Region.wanted ⟨dst, .call ⟨.value f, args, ats⟩, type, pos, after, guard⟩ (yielded ops a.tmps) = true := by
    rcases hg with hg | ⟨j, want, sl, x, hg, hj, hx, rfl⟩
    · simp only at hg; subst hg; rfl
    · simp only at hg; subst hg; have hv := hs.peek sl; rw [hx] at hv; simp only [Region.wanted, yielded_bool hj hv.bool_inv]; simp
  obtain ⟨k1, k2⟩ := opvs_rep hs args.toList hargs (fun p hp => by cases hp); have hfr := opv_rep hs hf (fun p hp => by cases hp); generalize hfe : a.eval f = fval at hfr
  cases hfr with
  | clo _ _ cvs hcl hcr =>
    have hrun : ∀ w, (execOp a.eval ⟨dst, .call ⟨.value f, args, ats⟩, type, pos, after, guard⟩).run P w = .ok (.enter g (args.toList.map a.eval ++ cvs).toArray) w := by
      intro w; (have e1 : args.map a.eval = (args.toList.map a.eval).toArray := by apply Array.ext'; simp); simp only [execOp, resolve, hfe, Deferred.ofValue, Sem.run_bind, Sem.run_pure, Result.andThen_ok, invoke, callFunc, run_program, hfn, hname, hb, Bool.false_eq_true, if_false, e1]; simp
    rw [wpOpsIn_cons]; unfold wpOpIn; simp only [ho]; rw [if_pos hw]; refine ⟨fun _ _ => trivial, ?_⟩; rw [Oper.semAt_eq _ _ _ (fun c e => by cases e), hrun w, Oper.uponIn_enter]; refine ⟨fun h => (by cases h), ?_⟩; have hargl : (vs ++ caps).length = (args.toList.map a.eval ++ cvs).length := by simp only [length_append, k1, hcl]
    have hargr : ∀ (i : Nat) (sv : SV) (v : Value), (vs ++ caps)[i]? = some sv → (args.toList.map a.eval ++ cvs)[i]? = some v → RepSV (allow E w β) w β st.memf sv v := by
      intro i sv v hi hj; by_cases hlt : i < vs.length
      · rw [getElem?_append_left hlt] at hi; rw [getElem?_append_left (by omega)] at hj; exact k2 i sv v hi hj
      · rw [getElem?_append_right (by omega)] at hi hj; rw [k1] at hi; exact hcr _ sv v hi hj
    simp only [Bool.and_eq_true] at hN; have hstart := enter_sim hs hargl hargr (Nat.le_of_ble_eq_true hN.1) (Nat.le_of_ble_eq_true hN.2); refine callsIn_fence (callsIn_wide.1 (callsIn_of_wp_marks (n := 0) (F := Fence.wide) hfn hb trivial (wpIn_mono (h (E.within (fun s => slotV E a (s - OFF)) a.defers) rfl _ w ⟨β, hstart⟩) ?_))); rintro e a' w' ⟨st', ⟨β', hs'⟩, hq⟩
    cases e with
    | normal =>
      obtain ⟨svs, e1, hk⟩ := hq; refine leaves_marks a'.defers hs' fun w' hs' => ?_; obtain ⟨rvs, r1, r2, r3⟩ := results_run hC hs' e1; exact ⟨_, r3, hk _ _ ⟨β', leave_sim hs hs' hd' (packV_rep r1 r2)⟩⟩
    | ret =>
      obtain ⟨svs, e1, hk⟩ := hq; refine leaves_marks a'.defers hs' fun w' hs' => ?_; obtain ⟨rvs, r1, r2, r3⟩ := results_run hC hs' e1; exact ⟨_, r3, hk _ _ ⟨β', leave_sim hs hs' hd' (packV_rep r1 r2)⟩⟩
    | _ => exact hq.elim

def joinQ (C : Ctx) (vars : List ResultVar) (dst : Option Nat) (ks ms : List Nat) {α : Type} (S : α → St) (R : α → Prop) : Exit → St → Prop
  | .normal, st | .ret, st => ∃ x svs, (retSVs C st.env vars).eval st.memf = some svs ∧ Am.keep ks ms (st.back dst (packSV svs)).env (st.back dst (packSV svs)).memf = some (S x) ∧ R x
  | _, _ => False

theorem AWO.callJ (hC : CtxTy P C) {i : Nat} {rest : List Nat} {dst : Option Nat} {f : Operand} {args : Array Operand} {ats : Array TypeId} {type : TypeId} {pos : String} {after : Array Edge} {guard : Option (Nat × Bool)}
    {vs caps : List SV} {g : FuncId} {fn : Func} {c : Code} {l : List Nat} (ks ms : List Nat) {α : Type} (S : α → St) (R : α → Prop) (hl : l = i :: rest) (ho : ops[i]? = some ⟨dst, .call ⟨.value f, args, ats⟩, type, pos, after, guard⟩) (hg : Wanted ops st ⟨dst, .call ⟨.value f, args, ats⟩, type, pos, after, guard⟩) (hd : dstOK N dst = true)
    (hargs : opvs st.env args.toList = (vs, [])) (hf : opv st.env f = (.clo g caps, [])) (hfn : P.funcs[g]? = some fn) (hname : (fn.name == "runtime.NumGoroutine") = false) (hb : fn.body = some c)
    (hN : (Nat.ble (vs ++ caps).length fn.ntmps && Nat.ble fn.ntmps OFF) = true)
    (h : ∀ E' : Ent, E'.ro = none → AW P E' fn.ntmps c (joinQ C fn.results.toList dst ks ms S R) (st.shift (vs ++ caps)))
    (hn : ∀ x, R x → AWO P E N ops rest Q (S x)) : AWO P E N ops l Q st := by
  refine AWO.call hC hl ho hg hd hargs hf hfn hname hb hN fun o ho => (h o ho).mono fun e st' hq => ?_
  have key : (∃ x svs, (retSVs C st'.env fn.results.toList).eval st'.memf = some svs ∧ Am.keep ks ms (st'.back dst (packSV svs)).env (st'.back dst (packSV svs)).memf = some (S x) ∧ R x) →
      ∃ svs, (retSVs C st'.env fn.results.toList).eval st'.memf = some svs ∧ AWO P E N ops rest Q (st'.back dst (packSV svs)) := by
    rintro ⟨x, svs, h1, h2, h3⟩; exact ⟨svs, h1, AWO.keep _ _ _ h2 (hn x h3)⟩
  cases e with
  | normal => exact key hq
  | ret => exact key hq
  | _ => exact hq.elim

theorem CtxOK.rebase (h : CtxOK P C) (b : Nat) : CtxOK P { C with base := b } := ⟨fun T t hT => { info := (h.ty T t hT).info, und := (h.ty T t hT).und, zc := (h.ty T t hT).zc, eqs := by have := (h.ty T t hT).eqs; cases t <;> exact this, arrs := fun B n e => ⟨((h.ty T t hT).arrs B n e).pos, ((h.ty T t hT).arrs B n e).und, ((h.ty T t hT).arrs B n e).zero⟩, ptrs := (h.ty T t hT).ptrs, ifcs := (h.ty T t hT).ifcs, maps := (h.ty T t hT).maps }, h.fn⟩

end
end Go.Am
