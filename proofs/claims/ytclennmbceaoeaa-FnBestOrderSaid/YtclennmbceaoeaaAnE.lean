/-
  An, part E: a range over a function.
-/
import Derived.Test.YtclennmbceaoeaaAnD
import Derived.RangeFuncSeq
import Derived.Sort.Grow
import Derived.Deep.Draws
set_option linter.all false
namespace Go.Am
variable [U : Univ]
attribute [local irreducible] OFF

section
variable {E : Ent} {N : Nat} {env : Nat → SV} {mem : Nat → Option Blk} {a : Act} {w : World} {β : Bind} {P : Program} {C : Ctx} {Q Q' : Exit → St → Prop} {st st' : St}

theorem SimB.remark (h : SimB E N env mem a w β) (E' : Ent) (e0 : E'.w0 = E.w0) (e1 : E'.A0 = E.A0) (e2 : E'.bs = E.bs) (e3 : E'.par = E.par) (e4 : E'.outer = E.outer) (ds : List Deferred)
    (hm : Marks E' (allow E w β) w ds) : SimB E' N env mem { a with defers := ds } w β := by
  have hall : allow E' w β = allow E w β := by
    funext b; unfold allow; rw [e0, e1]
  exact {
    defers := by rw [hall]; exact hm
    size := h.size, hN := h.hN
    os := h.os.trans (by rw [e0]), tape := h.tape.trans (by rw [e0]), output := ⟨h.output.1.trans (by rw [e0]), by rw [e0]; exact h.output.2⟩
    grow := by rw [e0]; exact h.grow
    old := by rw [e0, e2]; exact h.old
    dom := by rw [e0, e2]; exact h.dom
    inj := h.inj
    own := by rw [e0]; exact h.own
    blk := by rw [hall]; exact h.blk
    slot := by
      intro s; rw [hall]; (have e : slotV E' { a with defers := ds } s = slotV E a s := by unfold slotV; rw [e4]); rw [e]; exact h.slot s
    par := by rw [e3]; exact h.par }

theorem allow_alloc (h : SimB E N env mem a w β) (o : Obj) : ∀ b, allow E w β b → allow E (w.alloc o) β b ∧ (w.alloc o).heap[b]? = w.heap[b]? := by
  rintro b ⟨h1, h2, h3⟩; exact ⟨⟨by rw [World.size_alloc]; omega, h2, h3⟩, Go.RowKit.Below.heap_alloc w o b h1⟩

theorem SimB.allocObj (h : SimB E N env mem a w β) (o : Obj) : SimB E N env mem a (w.alloc o) β := by
  refine h.evolve rfl rfl ⟨rfl, Nat.le_refl _⟩ (by rw [World.size_alloc]; omega) (fun b hb _ => Go.RowKit.Below.heap_alloc w o b (Nat.lt_of_lt_of_le hb h.grow)) (allow_alloc h o)
    (fun i k hk => ⟨k, hk, Nat.le_refl _, fun _ => ⟨k.alike_refl, rfl⟩⟩) (fun i b D hb => ?_) h.inj
    (fun b i hb => by obtain ⟨o1, o2, o3⟩ := h.own b i hb; exact ⟨o1, by rw [World.size_alloc]; omega, o3⟩) (fun c i _ _ _ hc => ⟨hc, Go.RowKit.Below.heap_alloc w o c (h.own c i hc).2.1⟩) (fun i k hk => .inl ⟨hk, rfl, fun b D hb => Go.RowKit.Below.heap_alloc w o b (h.dom i b D hb).2.1⟩) (fun i c hc => ⟨c, hc, rfl⟩)
  obtain ⟨h1, h2, h3⟩ := h.dom i b D hb; exact ⟨h1, by rw [World.size_alloc]; omega, h3⟩

theorem new_allow (h : SimB E N env mem a w β) (o : Obj) : allow E (w.alloc o) β w.heap.size ∧ E.w0.heap.size ≤ w.heap.size := by
  refine ⟨⟨by rw [World.size_alloc]; omega, .inr h.grow, fun i D hb => ?_, ?_⟩, h.grow⟩
  · have := (h.dom i _ D hb).2.1; omega
  · cases ho : β.own w.heap.size with
    | none => rfl
    | some i =>
      have := (h.own _ i ho).2.1; omega

def Ent.withL (E : Ent) (L : Nat) (o : Obj) : Ent := { E with obj := fun b => if b = L then some o else E.obj b }

noncomputable def Ent.round (E : Ent) (a : Act) (L : Nat) : Ent := { E.within (fun s => slotV E a (s - OFF)) a.defers with ro := some L }

theorem Marks.turn {E' : Ent} {A : Nat → Prop} {ds : List Deferred} {L : Nat} {o o' : Obj} (h : Marks E A w ds) (hL : E.obj L = some o) (hE : ∀ b, b ≠ L → E'.obj b = E.obj b) (hE' : E'.obj L = some o') (e0 : E'.w0 = E.w0) :
    Marks E' A (w.putObj L o') ds where
  each d hd := by
    obtain ⟨D, rfl, h2, h3, h4, h5⟩ := h.each d hd; (have hne : D ≠ L := by rintro rfl; rw [hL] at h4; cases h4); exact ⟨D, rfl, h2, by rw [e0]; exact h3, by rw [hE D hne]; exact h4, by rw [World.putObj_heap_other hne]; exact h5⟩
  nodup := h.nodup
  objs b x e := by
    by_cases hb : b = L
    · subst hb; rw [hE'] at e; obtain rfl := Option.some.inj e; obtain ⟨⟨k1, k2⟩, k3⟩ := h.objs b o hL; exact ⟨⟨k1, by rw [e0]; exact k2⟩, World.putObj_heap_same (Array.getElem?_eq_some_iff.1 k3).1⟩
    · rw [hE b hb] at e; obtain ⟨⟨k1, k2⟩, k3⟩ := h.objs b x e; exact ⟨⟨k1, by rw [e0]; exact k2⟩, by rw [World.putObj_heap_other hb]; exact k3⟩

theorem Marks.drop {E' : Ent} {A : Nat → Prop} {ds : List Deferred} {L : Nat} {o o' : Obj} (h : Marks E A w ds) (hL : E.obj L = some o) (hE : ∀ b, b ≠ L → E'.obj b = E.obj b) (hE' : E'.obj L = none) (e0 : E'.w0 = E.w0) :
    Marks E' A (w.putObj L o') ds where
  each d hd := by
    obtain ⟨D, rfl, h2, h3, h4, h5⟩ := h.each d hd; (have hne : D ≠ L := by rintro rfl; rw [hL] at h4; cases h4); exact ⟨D, rfl, h2, by rw [e0]; exact h3, by rw [hE D hne]; exact h4, by rw [World.putObj_heap_other hne]; exact h5⟩
  nodup := h.nodup
  objs b x e := by
    by_cases hb : b = L
    · subst hb; rw [hE'] at e; cases e
    · rw [hE b hb] at e; obtain ⟨⟨k1, k2⟩, k3⟩ := h.objs b x e; exact ⟨⟨k1, by rw [e0]; exact k2⟩, by rw [World.putObj_heap_other hb]; exact k3⟩

def lowS : List (Nat × SV) → List (Nat × SV)
  | [] => []
  | (i, v) :: r => bif Nat.blt i OFF then (i, v) :: lowS r else lowS r

def St.round (st : St) (p : Nat) (v : SV) : St := ⟨(p, v) :: (lowS st.slots ++ shiftS st.slots), st.mem⟩

theorem lowS_low (l : List (Nat × SV)) (p : Nat × SV) (h : p ∈ lowS l) : p.1 < OFF := by
  induction l with
  | nil => cases h
  | cons q l ih =>
    obtain ⟨j, v⟩ := q; simp only [lowS] at h
    cases hj : Nat.blt j OFF with
    | true =>
      rw [hj, cond_true] at h; rcases List.mem_cons.1 h with rfl | h
      · exact Nat.le_of_ble_eq_true hj
      · exact ih h
    | false =>
      rw [hj, cond_false] at h; exact ih h

theorem lookS_low (l l' : List (Nat × SV)) (i : Nat) (h : i < OFF) (hl : lookS l' i = .top) : lookS (lowS l ++ l') i = lookS l i := by
  induction l with
  | nil => exact hl
  | cons q l ih =>
    obtain ⟨j, v⟩ := q; simp only [lowS]
    cases hj : Nat.blt j OFF with
    | true =>
      rw [cond_true, List.cons_append]; simp only [lookS, ih]
    | false =>
      rw [cond_false, ih]
      have hne : ¬ j < OFF := fun h => by
        rw [show Nat.blt j OFF = true from Nat.ble_eq_true_of_le h] at hj; cases hj
      simp only [lookS]; rw [show Nat.beq i j = false by rw [Bool.eq_false_iff]; intro e; have := Nat.eq_of_beq_eq_true e; omega]; rfl

theorem round_sim (h : SimB E N st.env st.memf a w β) {p : Nat} (hp : p < N) {sv : SV} {v : Value} (hv : RepSV (allow E w β) w β st.memf sv v) (L : Nat) :
    SimB (E.round a L) N (st.round p sv).env (st.round p sv).memf { tmps := a.tmps.setIfInBounds p v, defers := [] } w β where
  defers := by
    have := h.defers.enter (fun s => slotV E a (s - OFF)); exact ⟨fun d hd => (by cases hd), List.nodup_nil, this.objs⟩
  size := by simp [h.size]
  hN := h.hN
  os := h.os
  tape := h.tape
  output := h.output
  grow := h.grow
  old := h.old
  dom := h.dom
  inj := h.inj
  own := h.own
  blk := h.blk
  par := h.par
  slot := by
    intro s; show RepSV (allow E w β) w β st.memf (lookS ((p, sv) :: (lowS st.slots ++ shiftS st.slots)) s) _; unfold slotV; by_cases hs : s < OFF
    · rw [if_pos hs]; by_cases hsp : s = p
      · subst hsp; simp only [lookS]; rw [show Nat.beq s s = true from Nat.beq_refl s, cond_true]
        have e : (a.tmps.setIfInBounds s v).getD s undef = v := by
          (have : s < a.tmps.size := by rw [h.size]; exact hp); simp [this]
        rw [e]; exact hv
      · simp only [lookS]; rw [show Nat.beq s p = false by rw [Bool.eq_false_iff]; intro e; exact hsp (Nat.eq_of_beq_eq_true e), cond_false, lookS_low _ _ _ hs (lookS_shift_low _ _ hs)]
        have e : (a.tmps.setIfInBounds p v).getD s undef = a.tmps.getD s undef := by
          simp [Array.getD_eq_getD_getElem?, Array.getElem?_setIfInBounds, Ne.symm hsp]
        rw [e]; have := h.slot s
        unfold slotV at this
        rw [if_pos hs] at this
        exact this
    · rw [if_neg hs]; have hpO : p < OFF := Nat.lt_of_lt_of_le hp h.hN; simp only [lookS]
      rw [show Nat.beq s p = false by rw [Bool.eq_false_iff]; intro e; have := Nat.eq_of_beq_eq_true e; omega, cond_false,
        lookS_append _ _ _ (fun q hq => by have := lowS_low _ q hq; omega)]
      have := lookS_shift st.slots (s - OFF)
      rw [Nat.sub_add_cancel (by omega)] at this
      rw [this]; exact h.slot (s - OFF)

theorem unround_sim {env : Nat → SV} {mem : Nat → Option Blk} {w' : World} {β' : Bind} {a' : Act} {L : Nat} (h : SimB E N env mem a w β)
    (hs : SimB (E.round a L) N st'.env st'.memf a' w' β') : SimB E N (st'.back none .top).env (st'.back none .top).memf a w' β' := by
  have hm : Marks E (allow E w' β') w' a.defers := h.defers.leave (o := fun s => slotV E a (s - OFF)) (ds' := a'.defers) (by
    have := hs.defers
    exact ⟨this.each, this.nodup, this.objs⟩)
  rw [back_env, back_mem]
  exact { defers := hm, size := h.size, hN := h.hN, os := hs.os, tape := hs.tape, output := hs.output, grow := hs.grow, old := hs.old, dom := hs.dom, inj := hs.inj, own := hs.own, blk := hs.blk, par := hs.par
          slot := fun s => by
            have := hs.slot (s + OFF)
            have e : slotV (E.round a L) a' (s + OFF) = slotV E a s := by
              show (if s + OFF < OFF then _ else slotV E a (s + OFF - OFF)) = slotV E a s; rw [if_neg (by omega), Nat.add_sub_cancel]
            rw [e] at this
            exact this }

def IterOK (P : Program) (g : FuncId) (cvs : List Value) (xs : List Value) (Kp : World → Prop) : Prop :=
  ∀ (L : Nat) (J : Nat → World → Prop) (Jx : World → Prop) (W : World), (∀ k W1, J k W1 → Kp W1) →
    (∀ k x W1, xs[k]? = some x → J k W1 → YieldAt Fence.wide 0 P L #[x] W1 fun e W' => (e = .returned (.bool true) ∧ J (k + 1) W') ∨ (e = .returned (.bool false) ∧ Jx W')) →
    J 0 W → CallsIn Fence.wide 0 P g (#[.func (.yield L) #[] #[]] ++ cvs.toArray) W fun e W' => (∃ v, e = .returned v) ∧ (J xs.length W' ∨ Jx W')

def IterOKg (P : Program) (g : FuncId) (cvs : List Value) (xs : List Value) (Kp : World → Prop) : Prop :=
  ∀ (L : Nat) (J : Nat → World → Prop) (Jx : World → Prop) (W : World), (∀ k W1, J k W1 → Kp W1) → (∀ k W1 q os, J k W1 → J k (Go.Sort.grow (W1.drewN q) os)) →
    (∀ k x W1, xs[k]? = some x → J k W1 → YieldAt Fence.wide 0 P L #[x] W1 fun e W' => (e = .returned (.bool true) ∧ J (k + 1) W') ∨ (e = .returned (.bool false) ∧ Jx W')) →
    J 0 W → CallsIn Fence.wide 0 P g (#[.func (.yield L) #[] #[]] ++ cvs.toArray) W fun e W' => (∃ v, e = .returned v) ∧ (J xs.length W' ∨ Jx W')

theorem IterOK.grows {g : FuncId} {cvs xs : List Value} {Kp : World → Prop} (h : IterOK P g cvs xs Kp) : IterOKg P g cvs xs Kp :=
  fun L J Jx W h1 _ h2 h3 => h L J Jx W h1 h2 h3

theorem SimB.growN (h : SimB E N env mem a w β) (q : Nat) (os : Array Obj) : SimB E N env mem a (Go.Sort.grow (w.drewN q) os) β := by
  have hh : ∀ b, b < w.heap.size → (Go.Sort.grow (w.drewN q) os).heap[b]? = w.heap[b]? := fun b hb => by
    show (w.heap ++ os)[b]? = _; rw [Array.getElem?_append_left hb]
  have hsz : w.heap.size ≤ (Go.Sort.grow (w.drewN q) os).heap.size := by
    show w.heap.size ≤ (w.heap ++ os).size; rw [Array.size_append]; omega
  refine h.evolve rfl rfl ⟨rfl, U.dr_mono _ _ (Nat.le_add_right _ q)⟩ hsz (fun b hb _ => hh b (Nat.lt_of_lt_of_le hb h.grow)) (fun b hb => ⟨⟨Nat.lt_of_lt_of_le hb.1 hsz, hb.2⟩, hh b hb.1⟩)
    (fun i k hk => ⟨k, hk, Nat.le_refl _, fun _ => ⟨k.alike_refl, rfl⟩⟩) (fun i b D hb => ?_) h.inj
    (fun b i hb => by obtain ⟨o1, o2, o3⟩ := h.own b i hb; exact ⟨o1, Nat.lt_of_lt_of_le o2 hsz, o3⟩) (fun c i _ _ _ hc => ⟨hc, hh c (h.own c i hc).2.1⟩) (fun i k hk => .inl ⟨hk, rfl, fun b D hb => hh b (h.dom i b D hb).2.1⟩) (fun i c hc => ⟨c, hc, rfl⟩)
  obtain ⟨h1, h2, h3⟩ := h.dom i b D hb; exact ⟨h1, Nat.lt_of_lt_of_le h2 hsz, h3⟩

def CapsAt {α : Type} (S : α → St) (caps : List SV) (cvs : List Value) (W : World) : Prop :=
  ∃ (E : Ent) (x : α) (β : Bind), (∀ (i : Nat) (sv : SV) (v : Value), caps[i]? = some sv → cvs[i]? = some v → RepSV (allow E W β) W β (S x).memf sv v) ∧
    ∀ i k, (S x).memf i = some k → RepBlk (allow E W β) W β (S x).memf i k

def roundQ {α : Type} (Q : Exit → St → Prop) (ks ms : List Nat) (S : α → St) (R : α → Prop) : Exit → St → Prop
  | .normal, st => ∃ x, Am.keep ks ms (st.back none .top).env (st.back none .top).memf = some (S x) ∧ R x
  | .ret, st => Q .ret (st.back none .top)
  | .exit id, st => Q (.exit id) (st.back none .top)
  | _, _ => False


theorem rangeFuncK {α : Type} (hro : E.ro = none) {tg p : Nat} {assign body : Code} {gf : FuncId} {gfn : Func} (hgf : P.funcs[gf]? = some gfn) (hname : (gfn.name == "runtime.NumGoroutine") = false) (hbody : gfn.body.isSome = true) (hp' : p < N) (htg' : tg < OFF)
    (S : α → St) (R : Nat → α → Prop) (els : List SV) (vals cvs : List Value) (hlen : els.length = vals.length) (x0 : α) (hs : SimB E N (S x0).env (S x0).memf a w β) (hcv : a.tmps.getD tg undef = .func (.func gf) #[] cvs.toArray) (Kp : World → Prop)
    (hK : ∀ (E' : Ent) (ds : List Deferred) (x : α) (β' : Bind) (W : World), (∀ b o, E.obj b = some o → E'.obj b = some o) → E'.w0 = E.w0 → E'.A0 = E.A0 → E'.bs = E.bs → SimB E' N (S x).env (S x).memf { a with defers := ds } W β' → Kp W)
    (hel : ∀ (k : Nat) (sv : SV) (v : Value), els[k]? = some sv → vals[k]? = some v → ∀ (E' : Ent) (ds : List Deferred) (x : α) (β' : Bind) (W : World), (∀ b o, E.obj b = some o → E'.obj b = some o) → E'.w0 = E.w0 → E'.A0 = E.A0 → E'.bs = E.bs →
      SimB E' N (S x).env (S x).memf { a with defers := ds } W β' → RepSV (allow E' W β') W β' (S x).memf sv v)
    (ks ms : List Nat) (hit : IterOKg P gf cvs vals Kp) (h0 : R 0 x0)
    (round : ∀ k x sv, els[k]? = some sv → R k x → ∀ E', AW P E' N assign (fun e st1 => match e with | .normal => ∀ E'', AW P E'' N body (roundQ Q ks ms S (R (k + 1))) st1 | _ => False) ((S x).round p sv))
    (done : ∀ x, R els.length x → Q .normal (S x)) : (Code.rangeFunc (.tmp tg) #[p] assign body).wpIn E.fence 0 P (CQ E N Q) a w := by
  refine wpIn_rangeFunc fun fn _ => ?_; obtain ⟨D, hD⟩ : ∃ D, D = w.heap.size := ⟨_, rfl⟩; obtain ⟨L, hLD⟩ : ∃ L, L = w.heap.size + 1 := ⟨_, rfl⟩; obtain ⟨mark, hmark⟩ : ∃ mark : Deferred, mark = { target := .collected D, args := #[] } := ⟨_, rfl⟩; obtain ⟨a1, ha1⟩ : ∃ a1 : Act, a1 = { a with defers := mark :: a.defers } := ⟨_, rfl⟩; obtain ⟨rec, hrec⟩ : ∃ rec : LoopState → Option Code → Loop, rec = fun s pd => { state := s, pending := pd, fn, tmps := a.tmps, params := #[p], assign, body, defers := D } := ⟨_, rfl⟩; obtain ⟨W1, hW1⟩ : ∃ W1, W1 = (w.alloc (.deferred (some []))).alloc (.loop (rec .ready none)) := ⟨_, rfl⟩
  have hdlt : ∀ d ∈ a.defers, ∃ D', d = { target := .collected D', args := #[] } ∧ D' < w.heap.size := by
    intro d hd; obtain ⟨D', h1, h2, _⟩ := hs.defers.each d hd; exact ⟨D', h1, h2.1⟩
  have hEobj : ∀ b, w.heap.size ≤ b → E.obj b = none := by
    intro b hb
    cases e : E.obj b with
    | none => rfl
    | some o =>
      have := (Array.getElem?_eq_some_iff.1 (hs.defers.objs b o e).2).1; omega
  (have ha1d : a1.defers = mark :: a.defers := by rw [ha1]); have ha1t : a1.tmps = a.tmps := by rw [ha1]
  have hLm : ({ target := .collected L, args := #[] } : Deferred) ∉ a1.defers := by
    rw [ha1d, List.mem_cons]; rintro (h | h)
    · rw [hmark] at h; simp only [Deferred.mk.injEq, Target.collected.injEq, and_true] at h; omega
    · obtain ⟨D', h1, h2⟩ := hdlt _ h; simp only [Deferred.mk.injEq, Target.collected.injEq, and_true] at h1; omega
  have hs1 : SimB (E.withL L (.loop (rec .ready none))) N (S x0).env (S x0).memf a1 W1 β := by
    have h1 := hs.allocObj (.deferred (some [])); have h2 := h1.allocObj (.loop (rec .ready none)); rw [← hW1] at h2; have n1 := new_allow hs (.deferred (some [])); have n1' := allow_alloc h1 (.loop (rec .ready none)) _ n1.1; have n2 := new_allow h1 (.loop (rec .ready none)); rw [← hW1] at n1' n2; rw [World.size_alloc, ← hLD] at n2; have := h2.remark (E.withL L (.loop (rec .ready none))) rfl rfl rfl rfl rfl (mark :: a.defers) ⟨fun d hd => ?_, ?_, fun b o e => ?_⟩
    · rw [ha1]; exact this
    · rcases List.mem_cons.1 hd with rfl | hd
      · refine ⟨D, hmark, by rw [hD]; exact n1'.1, by rw [hD]; exact n1.2, ?_, ?_⟩
        · show (if D = L then _ else E.obj D) = none; rw [if_neg (by omega)]; exact hEobj D (by omega)
        · rw [hD, n1'.2]; exact World.alloc_heap_new w _
      · obtain ⟨D', g1, g2, g3, g4, g5⟩ := h2.defers.each d hd; refine ⟨D', g1, g2, g3, ?_, g5⟩; obtain ⟨D'', k1, k2⟩ := hdlt d hd; rw [g1] at k1; simp only [Deferred.mk.injEq, Target.collected.injEq, and_true] at k1; show (if D' = L then _ else E.obj D') = none; rw [if_neg (by omega)]; exact g4
    · refine List.nodup_cons.2 ⟨fun hm => ?_, hs.defers.nodup⟩; obtain ⟨D', k1, k2⟩ := hdlt _ hm; rw [hmark] at k1; simp only [Deferred.mk.injEq, Target.collected.injEq, and_true] at k1; omega
    · change (if b = L then some (Obj.loop (rec .ready none)) else E.obj b) = some o at e; split at e
      · rename_i hb; subst hb; obtain rfl := Option.some.inj e; refine ⟨n2, ?_⟩; have := World.alloc_heap_new (w.alloc (.deferred (some []))) (.loop (rec .ready none))
        rw [World.size_alloc, ← hLD, ← hW1] at this
        exact this
      · exact h2.defers.objs b o e
  -- what lies at L, and how it turns
  have objL : ∀ o, (E.withL L o).obj L = some o := fun o => if_pos rfl
  have hsub : ∀ b o, E.obj b = some o → (E.withL L (.loop (rec .ready none))).obj b = some o := fun b o e => by
    have : b ≠ L := by
      rintro rfl; rw [hEobj b (by omega)] at e; cases e
    exact (if_neg this).trans e
  have objN : ∀ o b, b ≠ L → (E.withL L o).obj b = E.obj b := fun o b hb => if_neg hb
  have robjL : ∀ o, ((E.withL L o).round a1 L).obj L = some o := fun o => by
    show (open Classical in if ({ target := .collected L, args := #[] } : Deferred) ∈ a1.defers then some (Obj.deferred (some [])) else (E.withL L o).obj L) = some o; rw [if_neg hLm]; exact objL o
  have robjN : ∀ o o' b, b ≠ L → ((E.withL L o').round a1 L).obj b = ((E.withL L o).round a1 L).obj b := fun o o' b hb => by
    show (open Classical in if ({ target := .collected b, args := #[] } : Deferred) ∈ a1.defers then some (Obj.deferred (some [])) else (E.withL L o').obj b) = (open Classical in if ({ target := .collected b, args := #[] } : Deferred) ∈ a1.defers then some (Obj.deferred (some [])) else (E.withL L o).obj b); rw [objN o' b hb, objN o b hb]
  have turn : ∀ (r r' : Loop) (st : St) (W : World) (β : Bind), SimB (E.withL L (.loop r)) N st.env st.memf a1 W β → SimB (E.withL L (.loop r')) N st.env st.memf a1 (W.putObj L (.loop r')) β := by
    intro r r' st W β h; obtain ⟨⟨k1, k2⟩, k3⟩ := h.defers.objs L _ (objL _); exact SimB.putObj h k3 (by simp) k1 k2 (E.withL L (.loop r')) rfl rfl rfl rfl rfl a1.defers (Marks.turn h.defers (objL _) (fun b hb => by rw [objN _ b hb, objN _ b hb]) (objL _) rfl)
  have fin : ∀ (r r' : Loop) (st : St) (W : World) (β : Bind), SimB (E.withL L (.loop r)) N st.env st.memf a1 W β → SimB E N st.env st.memf a1 (W.putObj L (.loop r')) β := by
    intro r r' st W β h; obtain ⟨⟨k1, k2⟩, k3⟩ := h.defers.objs L _ (objL _); exact SimB.putObj h k3 (by simp) k1 k2 E rfl rfl rfl rfl rfl a1.defers (Marks.drop h.defers (objL _) (fun b hb => (objN _ b hb).symm) (hEobj L (by omega)) rfl)
  have at_ : ∀ (r : Loop) (st : St) (W : World) (β : Bind), SimB (E.withL L (.loop r)) N st.env st.memf a1 W β → W.heap[L]? = some (.loop r) := fun r st W β h => (h.defers.objs L _ (objL _)).2; refine ⟨L, [mark], W1, ⟨.fn (.func gf) cvs.toArray, #[.func (.yield L) #[] #[]]⟩, W1, gf, #[.func (.yield L) #[] #[]] ++ cvs.toArray, W1, ?_, ?_, fun _ _ => trivial, ?_, fun h => (by cases h), ?_⟩
  · show (Instr.enterLoop fn a.tmps #[p] assign body E.ro).run P w = _; rw [hro, hW1, hmark, hLD, hrec, hD]; exact run_enterLoop_outer _ _ _ _ _
  · have he : a.eval (.tmp tg) = .func (.func gf) #[] cvs.toArray := hcv; simp only [resolve, rangeCall, he, Deferred.ofValue, Sem.run_bind, Sem.run_pure, Result.andThen_ok]; simp [Act.eval, Sem.run_pure]
  · simp only [invoke, callFunc, Sem.run_bind, run_program, Result.andThen_ok, hgf, hname, Bool.false_eq_true, if_false]; obtain ⟨c, hc⟩ := Option.isSome_iff_exists.1 hbody; simp [hc]
  · have hc := hit L (fun k W => ∃ x β, R k x ∧ SimB (E.withL L (.loop (rec .ready none))) N (S x).env (S x).memf a1 W β)
      (fun W => ∃ (c : Code) (st' : St) (β : Bind), ((c = .ret ∧ Q .ret st') ∨ ∃ id, c = .exit id ∧ Q (.exit id) st') ∧ SimB (E.withL L (.loop (rec .done (some c)))) N st'.env st'.memf a1 W β) W1 ?_ (fun k W q os ⟨x, β2, hR, h⟩ => ⟨x, β2, hR, h.growN q os⟩) ?_ ⟨x0, β, h0, hs1⟩
    · refine CallsIn.mono (⟨trivial, fun cs _ => hc.2 cs (room_wide _)⟩ : CallsIn E.fence (0 - 1) P gf _ W1 _) ?_; (have hpend : ∀ s pd, (rec s pd).pending = pd := fun s pd => by rw [hrec]); (have hstate : ∀ s pd, (rec s pd).state = s := fun s pd => by rw [hrec]); rintro e W2 ⟨⟨v, rfl⟩, (⟨x, β2, hR, h⟩ | ⟨c, st', β2, hcq, h⟩)⟩
      · have e := run_endLoop (P := P) (at_ _ _ _ _ h) (by rw [hstate]; simp); rw [hpend] at e; refine ⟨none, _, e, ?_⟩; have := fin _ { rec .ready none with state := .exhausted, pending := none } _ _ _ h
        rw [ha1] at this
        exact ⟨S x, ⟨β2, this⟩, done x (by rw [hlen]; exact hR)⟩
      · have e := run_endLoop (P := P) (at_ _ _ _ _ h) (by rw [hstate]; simp); rw [hpend] at e; refine ⟨some c, _, e, ?_⟩; have := fin _ { rec .done (some c) with state := .exhausted, pending := some c } _ _ _ h
        rw [ha1] at this
        rcases hcq with ⟨rfl, hq⟩ | ⟨id, rfl, hq⟩
        · exact wpIn_ret ⟨st', ⟨β2, this⟩, hq⟩
        · exact wpIn_exit ⟨st', ⟨β2, this⟩, hq⟩
    · rintro k W ⟨x, β2, _, h⟩; rw [ha1] at h; exact hK _ _ x β2 W hsub rfl rfl rfl h
    · rintro k v W hv ⟨x, β2, hR, h⟩; (have hkl : k < els.length := by rw [hlen]; exact (List.getElem?_eq_some_iff.1 hv).1); have hsv : els[k]? = some els[k] := List.getElem?_eq_getElem hkl; have hL := at_ _ _ _ _ h; have hy := run_yield (P := P) (args := #[v]) hL (by rw [hrec]; rfl); refine ⟨_, _, _, _, hy, roundIn_of_wpIn trivial ?_⟩; have hel1 := hel k _ v hsv hv (E.withL L (.loop (rec .ready none))) (mark :: a.defers) x β2 W hsub rfl rfl rfl (by have h := h; rw [ha1] at h; exact h); have hsr := round_sim h hp' hel1 L; have haw := round k x _ hsv hR _ _ W ⟨β2, hsr⟩
      have htm : (((rec .ready none).params.zip #[v]).foldl (fun tmps (x : Tmp × Value) => tmps.setIfInBounds x.1 x.2) (rec .ready none).tmps) = a1.tmps.setIfInBounds p v := by
        rw [hrec, ha1t]; simp
      (have hassign : (rec .ready none).assign = assign := by rw [hrec]); (have hbody' : (rec .ready none).body = body := by rw [hrec]); rw [hassign, hbody']; change assign.wpIn (Fence.wide.inRound L) 0 P _ { tmps := (((rec .ready none).params.zip #[v]).foldl (fun tmps (x : Tmp × Value) => tmps.setIfInBounds x.1 x.2) (rec .ready none).tmps), defers := [] } W; rw [htm]; refine wpIn_mono (F := Fence.wide.inRound L) haw ?_; rintro e a₁ w₁ ⟨st1, ⟨β1, h1⟩, hq⟩
      cases e with
      | normal =>
        obtain ⟨⟨k1, k2⟩, k3⟩ := h1.defers.objs L _ (robjL _); refine ⟨_, run_beginRound k3 (by rw [hrec]), ?_⟩; obtain ⟨busy, hbusy⟩ : ∃ busy : Loop, busy = { rec .ready none with state := .busy } := ⟨_, rfl⟩; rw [← hbusy]
        have h2 : SimB ((E.withL L (.loop busy)).round a1 L) N st1.env st1.memf a₁ (w₁.putObj L (.loop busy)) β1 :=
          SimB.putObj (o' := .loop busy) h1 k3 (by simp) k1 k2 ((E.withL L (.loop busy)).round a1 L) rfl rfl rfl rfl rfl a₁.defers (Marks.turn h1.defers (robjL _) (fun b hb => robjN (.loop (rec .ready none)) (.loop busy) b hb) (robjL _) rfl)
        have hb := hq _ _ _ ⟨β1, h2⟩; refine wpIn_mono (F := Fence.wide.inRound L) hb ?_; have hbase := turn _ busy _ _ _ h; rintro e a₂ w₂ ⟨st2, ⟨β3, h3⟩, hq2⟩; have hL2 : w₂.heap[L]? = some (.loop busy) := (h3.defers.objs L _ (robjL _)).2; have hu := unround_sim (st' := st2) hbase h3; have hend := fun jump => run_endRound (P := P) jump hL2
        have hr0 : ∀ jump : Option Code, { busy with state := if jump.isNone then LoopState.ready else .done, pending := jump } = rec (if jump.isNone then LoopState.ready else .done) jump := by
          intro jump; rw [hbusy, hrec]
        simp only [hr0] at hend
        cases e with
        | normal =>
          obtain ⟨x', hk, hR'⟩ := hq2; obtain ⟨β4, h4⟩ := keep_sound hk ⟨β3, hu⟩; exact ⟨_, _, hend none, .inl ⟨rfl, x', β4, hR', turn _ (rec .ready none) _ _ _ h4⟩⟩
        | ret => exact ⟨_, _, hend (some .ret), .inr ⟨rfl, .ret, _, β3, .inl ⟨rfl, hq2⟩, turn _ (rec .done (some .ret)) _ _ _ hu⟩⟩
        | exit id => exact ⟨_, _, hend (some (.exit id)), .inr ⟨rfl, .exit id, _, β3, .inr ⟨id, rfl, hq2⟩, turn _ (rec .done (some (.exit id))) _ _ _ hu⟩⟩
        | _ => exact hq2.elim
      | _ => exact hq.elim

theorem AW.rangeFunc {α : Type} (hro : E.ro = none) {tg p : Nat} {assign body : Code} {gf : FuncId} {gfn : Func} {caps : List SV} (hgf : P.funcs[gf]? = some gfn) (hname : (gfn.name == "runtime.NumGoroutine") = false) (hbody : gfn.body.isSome = true) (hp : Nat.blt p N = true) (htg : Nat.blt tg OFF = true)
    (S : α → St) (R : Nat → α → Prop) (els : List SV) (vals : List Value) (hlen : els.length = vals.length) (hel : ∀ (k : Nat) (sv : SV) (v : Value), els[k]? = some sv → vals[k]? = some v → ∀ (A : Nat → Prop) (w : World) (β : Bind) (mem : Nat → Option Blk), RepSV A w β mem sv v)
    (ks ms : List Nat) (hg : ∀ x, (S x).env tg = .clo gf caps) (hit : ∀ cvs : List Value, caps.length = cvs.length → IterOK P gf cvs vals (CapsAt S caps cvs)) (x0 : α) (hst : st = S x0) (h0 : R 0 x0)
    (round : ∀ k x sv, els[k]? = some sv → R k x → ∀ E', AW P E' N assign (fun e st1 => match e with | .normal => ∀ E'', AW P E'' N body (roundQ Q ks ms S (R (k + 1))) st1 | _ => False) ((S x).round p sv))
    (done : ∀ x, R els.length x → Q .normal (S x)) : AW P E N (.rangeFunc (.tmp tg) #[p] assign body) Q st := by
  rintro a w ⟨β, hs⟩; subst hst; have htg' : tg < OFF := Nat.le_of_ble_eq_true htg
  -- the closure
  obtain ⟨cvs, hcl, hcv⟩ : ∃ cvs : List Value, caps.length = cvs.length ∧ a.tmps.getD tg undef = .func (.func gf) #[] cvs.toArray := by
    have := hs.slot tg
    rw [hg x0] at this
    unfold slotV at this
    rw [if_pos htg'] at this
    generalize a.tmps.getD tg undef = v at this
    cases this with
    | clo _ _ cvs hl _ => exact ⟨cvs, hl, rfl⟩
  refine rangeFuncK hro hgf hname hbody (Nat.le_of_ble_eq_true hp) htg' S R els vals cvs hlen x0 hs hcv (CapsAt S caps cvs) ?_ (fun k sv v h1 h2 E' ds x β' W _ _ _ _ _ => hel k sv v h1 h2 _ _ _ _) ks ms (hit cvs hcl).grows h0 round done; intro E' ds x β2 W _ _ _ _ h; refine ⟨_, x, β2, ?_, h.blk⟩; have hsl := h.slot tg; rw [hg x] at hsl
  have e : slotV E' { a with defers := ds } tg = .func (.func gf) #[] cvs.toArray := by
    unfold slotV; rw [if_pos htg']; exact hcv
  rw [e] at hsl; generalize hv : Value.func (.func gf) #[] cvs.toArray = v at hsl
  cases hsl with
  | clo _ _ vs hl hr =>
    simp only [Value.func.injEq, true_and] at hv; have : cvs = vs := by simpa using hv
    subst this
    exact hr


theorem els_int {xs : List Int} {k : Nat} {sv : SV} (h : (xs.map (SV.int .i64))[k]? = some sv) : ∃ y, xs.drop k = y :: xs.drop (k + 1) ∧ sv = .int .i64 y ∧ y ∈ xs := by
  rw [List.getElem?_map] at h
  cases hk : xs[k]? with
  | none => rw [hk] at h; cases h
  | some y =>
    rw [hk] at h; obtain ⟨hl, e⟩ := List.getElem?_eq_some_iff.1 hk; refine ⟨y, ?_, (Option.some.inj h).symm, List.mem_of_getElem? hk⟩; rw [List.drop_eq_getElem_cons hl, e]

theorem els_int_rep {xs : List Int} (hr : ∀ y ∈ xs, -9223372036854775808 ≤ y ∧ y ≤ 9223372036854775807) (k : Nat) (sv : SV) (v : Value) (h : (xs.map (SV.int .i64))[k]? = some sv) (h' : (xs.map (Value.int .i64))[k]? = some v)
    (A : Nat → Prop) (w : World) (β : Bind) (mem : Nat → Option Blk) : RepSV A w β mem sv v := by
  rw [List.getElem?_map] at h h'
  cases hk : xs[k]? with
  | none => rw [hk] at h; cases h
  | some y =>
    rw [hk] at h h'; obtain rfl := Option.some.inj h; obtain rfl := Option.some.inj h'; have := hr y (List.mem_of_getElem? hk); exact .int .i64 y this.1 this.2

end
end Go.Am
