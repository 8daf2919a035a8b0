/-
  Am, part V: what a call returns; the contract of a function from its body.
-/
import Derived.Test.YtjcjpeckfikfkaaAmT
set_option linter.all false
namespace Go.Am
variable [U : Univ]

inductive Wf : TV → Prop
  | int (k : IntKind) (n : Int) (lo : k.min ≤ n) (hi : n ≤ k.max) : Wf ⟨.int k, n⟩
  | bool (b : Bool) : Wf ⟨.bool, b⟩
  | str (s : ByteArray) (h : (s.size : Int) ≤ lim) : Wf ⟨.str, s⟩
  | named (n : Nat) (x : U.R n) (h : ∀ tv ∈ U.get n x, Wf tv) : Wf ⟨.named n, x⟩
  | slice (t : Ty) (xs : List t.den) (hl : (xs.length : Int) ≤ lim) (h : ∀ x ∈ xs, Wf ⟨t, x⟩) : Wf ⟨.slice t, xs⟩

theorem RepC.wf {A : Nat → Prop} {w : World} {t : Ty} {x : t.den} {cs : List Value} (h : RepC A w t x cs) : Wf ⟨t, x⟩ := by
  refine RepC.rec (motive_1 := fun t x cs _ => Wf ⟨t, x⟩) (motive_2 := fun l cs _ => ∀ tv ∈ l, Wf tv) ?_ ?_ ?_ ?_ ?_ ?_ ?_ ?_ h
  · intro k n lo hi; exact .int k n lo hi
  · intro b; exact .bool b
  · intro s h; exact .str s h
  · intro n x cs _ ih; exact .named n x ih
  · intro t; exact .slice t _ (by simp [lim]) (by simp)
  · intro t xs a cap css hl hcap hA' hs hlen hc _ ih; refine .slice t xs hl fun x hx => ?_; obtain ⟨i, hi, rfl⟩ := List.mem_iff_getElem.1 hx; exact ih i hi
  · simp
  · intro t x r cs ds _ _ h k tv htv; rcases List.mem_cons.1 htv with rfl | htv
    · exact h
    · exact k tv htv

theorem RepV.wf {A : Nat → Prop} {w : World} {t : Ty} {x : t.den} {v : Value} (h : RepV A w t x v) : Wf ⟨t, x⟩ := by
  cases h with
  | agg n x cs h => exact h.wf
  | one t x v ht h => exact h.wf

def PK.ty : PK → Ty
  | .val t | .rd t | .clo _ t => t
  | .box n => .named n

def entS : Nat → List PK → List TV → List (Nat × SV)
  | i, .val _ :: ps, tv :: tvs => (i, SV.ofTV tv) :: entS (i + 1) ps tvs
  | i, .rd _ :: ps, tv :: tvs => (i, .dref tv.1 tv.2) :: entS (i + 1) ps tvs
  | i, .box _ :: ps, _ :: tvs => (i, .ref (i * 4) 0 0) :: entS (i + 1) ps tvs
  | i, .clo f _ :: ps, tv :: tvs => (i, .clo f [.dref tv.1 tv.2]) :: entS (i + 1) ps tvs
  | _, _, _ => []

def entM : Nat → List PK → List TV → List (Nat × Blk)
  | i, .box _ :: ps, tv :: tvs => (i * 4, .box 0 (cellsOf fuel tv)) :: entM (i + 1) ps tvs
  | i, .val _ :: ps, _ :: tvs => entM (i + 1) ps tvs
  | i, .rd _ :: ps, _ :: tvs => entM (i + 1) ps tvs
  | i, .clo _ _ :: ps, _ :: tvs => entM (i + 1) ps tvs
  | _, _, _ => []

def boxIds : Nat → List PK → List Nat
  | _, [] => []
  | i, .box _ :: ps => i * 4 :: boxIds (i + 1) ps
  | i, .val _ :: ps => boxIds (i + 1) ps
  | i, .rd _ :: ps => boxIds (i + 1) ps
  | i, .clo _ _ :: ps => boxIds (i + 1) ps

theorem RepArgs.types {A : Nat → Prop} {w : World} {ps : List PK} {vs : List Value} {tvs : List TV} {bs : List Nat} (h : RepArgs A w ps vs tvs bs) :
    tvs.map (·.1) = ps.map PK.ty ∧ vs.length = ps.length ∧ (∀ i, (boxIds i ps).length = bs.length) ∧ (∀ tv ∈ tvs, Wf tv) := by
  induction h with
  | nil => exact ⟨rfl, rfl, fun _ => rfl, by simp⟩
  | val t x v ps vs tvs bs h k ih =>
    obtain ⟨h1, h2, h3, h4⟩ := ih; refine ⟨by simp [h1, PK.ty], by simp [h2], fun i => h3 (i + 1), ?_⟩; intro tv htv; rcases List.mem_cons.1 htv with rfl | htv
    · exact h.wf
    · exact h4 tv htv
  | rd t x b off cs ps vs tvs bs hA hc h k ih =>
    obtain ⟨h1, h2, h3, h4⟩ := ih; refine ⟨by simp [h1, PK.ty], by simp [h2], fun i => h3 (i + 1), ?_⟩; intro tv htv; rcases List.mem_cons.1 htv with rfl | htv
    · exact h.wf
    · exact h4 tv htv
  | clo f t x b off cs ps vs tvs bs hA hc h k ih =>
    obtain ⟨h1, h2, h3, h4⟩ := ih; refine ⟨by simp [h1, PK.ty], by simp [h2], fun i => h3 (i + 1), ?_⟩; intro tv htv; rcases List.mem_cons.1 htv with rfl | htv
    · exact h.wf
    · exact h4 tv htv
  | box n x b cs el ps vs tvs bs hh h k ih =>
    obtain ⟨h1, h2, h3, h4⟩ := ih; refine ⟨by simp [h1, PK.ty], by simp [h2], fun i => by simp [boxIds, h3], ?_⟩; intro tv htv; rcases List.mem_cons.1 htv with rfl | htv
    · exact h.wf
    · exact h4 tv htv

theorem lookM_mem {l : List (Nat × Blk)} {i : Nat} {k : Blk} (h : lookM l i = some k) : (i, k) ∈ l := by
  induction l with
  | nil => simp [lookM] at h
  | cons x l ih =>
    obtain ⟨j, b⟩ := x; simp only [lookM] at h
    cases e : Nat.beq i j with
    | true =>
      rw [e, cond_true] at h; obtain rfl := Option.some.inj h; rw [Nat.eq_of_beq_eq_true e]; simp
    | false =>
      rw [e, cond_false] at h; exact List.mem_cons_of_mem _ (ih h)

theorem mem_lookM {l : List (Nat × Blk)} (hnd : (l.map (·.1)).Nodup) {i : Nat} {k : Blk} (h : (i, k) ∈ l) : lookM l i = some k := by
  induction l with
  | nil => cases h
  | cons x l ih =>
    obtain ⟨j, b⟩ := x; simp only [List.map_cons, List.nodup_cons] at hnd; simp only [lookM]; rcases List.mem_cons.1 h with h | h
    · simp only [Prod.mk.injEq] at h; obtain ⟨rfl, rfl⟩ := h; rw [show Nat.beq i i = true from Nat.beq_refl i, cond_true]
    · have : Nat.beq i j = false := by
        rw [Bool.eq_false_iff]; intro e; have e := Nat.eq_of_beq_eq_true e; exact hnd.1 (List.mem_map.2 ⟨(i, k), h, e⟩)
      rw [this, cond_false]; exact ih hnd.2 h

theorem entM_keys : ∀ (ps : List PK) (tvs : List TV) (i : Nat), tvs.length = ps.length → (entM i ps tvs).map (·.1) = boxIds i ps := by
  intro ps
  induction ps with
  | nil => intro tvs i h; cases tvs <;> simp [entM, boxIds] at h ⊢
  | cons p ps ih =>
    intro tvs i h
    cases tvs with
    | nil => simp at h
    | cons tv tvs =>
      have := ih tvs (i + 1) (by simpa using h); cases p <;> simp [entM, boxIds, this]

theorem boxIds_le : ∀ (ps : List PK) (i : Nat), ∀ id ∈ boxIds i ps, i * 4 ≤ id := by
  intro ps
  induction ps with
  | nil => intro i id h; cases h
  | cons p ps ih =>
    intro i id h
    cases p with
    | box n =>
      rcases List.mem_cons.1 h with rfl | h
      · exact Nat.le_refl _
      · have := ih _ _ h; omega
    | val t => have := ih _ _ h; omega
    | rd t => have := ih _ _ h; omega
    | clo f t => have := ih _ _ h; omega

theorem boxIds_nodup : ∀ (ps : List PK) (i : Nat), (boxIds i ps).Nodup := by
  intro ps
  induction ps with
  | nil => intro i; exact List.nodup_nil
  | cons p ps ih =>
    intro i
    cases p with
    | box n =>
      refine List.nodup_cons.2 ⟨fun h => ?_, ih _⟩; have := boxIds_le _ _ _ h; omega
    | val t => exact ih _
    | rd t => exact ih _
    | clo f t => exact ih _

theorem ent_slots {A A' : Nat → Prop} {w : World} {β : Bind} {mem : Nat → Option Blk} (hA : ∀ b, A b → A' b) {ps : List PK} {vs : List Value} {tvs : List TV} {bs : List Nat}
    (h : RepArgs A w ps vs tvs bs) : ∀ i : Nat, (∀ (j id b : Nat), (boxIds i ps)[j]? = some id → bs[j]? = some b → (∃ D, β id = some (b, D)) ∧ ∃ k, mem id = some k) →
    ∀ s v, (i ≤ s → v = vs.getD (s - i) undef) → RepSV A' w β mem (lookS (entS i ps tvs) s) v := by
  induction h with
  | nil => intro i _ s v _; exact .top v
  | val t x v ps vs tvs bs h k ih =>
    intro i hb s u hu; simp only [entS, lookS]
    cases e : Nat.beq s i with
    | true =>
      obtain rfl := Nat.eq_of_beq_eq_true e; rw [cond_true]; have := hu (Nat.le_refl _)
      simp only [Nat.sub_self, List.getD_cons_zero] at this
      subst this
      exact RepSV.ofTV (h.mono fun b hb => ⟨hA b hb, rfl⟩)
    | false =>
      rw [cond_false]; refine ih (i + 1) hb s u fun hs => ?_; rw [hu (by omega), show s - i = (s - (i + 1)) + 1 by omega, List.getD_cons_succ]
  | rd t x b off cs ps vs tvs bs hAb hc h k ih =>
    intro i hb s u hu; simp only [entS, lookS]
    cases e : Nat.beq s i with
    | true =>
      obtain rfl := Nat.eq_of_beq_eq_true e; rw [cond_true]; have := hu (Nat.le_refl _)
      simp only [Nat.sub_self, List.getD_cons_zero] at this
      subst this
      exact .dref t x b off cs (hA b hAb) hc (h.mono fun b hb => ⟨hA b hb, rfl⟩)
    | false =>
      rw [cond_false]; refine ih (i + 1) hb s u fun hs => ?_; rw [hu (by omega), show s - i = (s - (i + 1)) + 1 by omega, List.getD_cons_succ]
  | clo f t x b off cs ps vs tvs bs hAb hc h k ih =>
    intro i hb s u hu; simp only [entS, lookS]
    cases e : Nat.beq s i with
    | true =>
      obtain rfl := Nat.eq_of_beq_eq_true e; rw [cond_true]; have := hu (Nat.le_refl _)
      simp only [Nat.sub_self, List.getD_cons_zero] at this
      subst this
      refine .clo f [.dref t x] [.pointer (some ⟨b, off, none⟩)] rfl fun j sv v hj hv => ?_
      match j, hj, hv with
      | 0, hj, hv =>
        obtain rfl := Option.some.inj hj; obtain rfl := Option.some.inj hv; exact .dref t x b off cs (hA b hAb) hc (h.mono fun b hb => ⟨hA b hb, rfl⟩)
      | _ + 1, hj, _ => simp at hj
    | false =>
      rw [cond_false]; refine ih (i + 1) hb s u fun hs => ?_; rw [hu (by omega), show s - i = (s - (i + 1)) + 1 by omega, List.getD_cons_succ]
  | box n x b cs el ps vs tvs bs hh h k ih =>
    intro i hb s u hu; simp only [entS, lookS]
    cases e : Nat.beq s i with
    | true =>
      obtain rfl := Nat.eq_of_beq_eq_true e; rw [cond_true]; have := hu (Nat.le_refl _)
      simp only [Nat.sub_self, List.getD_cons_zero] at this
      subst this
      obtain ⟨⟨D, hD⟩, kx, hk⟩ := hb 0 (s * 4) b rfl rfl; exact .ref _ _ _ _ ⟨kx, hk, Nat.zero_le _⟩ fun cells _ => ⟨D, hD⟩
    | false =>
      rw [cond_false]; refine ih (i + 1) (fun j id b' h1 h2 => hb (j + 1) id b' (by simpa [boxIds] using h1) (by simpa using h2)) s u fun hs => ?_; rw [hu (by omega), show s - i = (s - (i + 1)) + 1 by omega, List.getD_cons_succ]

theorem ent_boxes {A : Nat → Prop} {w : World} {ps : List PK} {vs : List Value} {tvs : List TV} {bs : List Nat} (h : RepArgs A w ps vs tvs bs) : ∀ (i id : Nat) (k : Blk), (id, k) ∈ entM i ps tvs →
    ∃ (j b n : Nat) (x : U.R n) (cs : Array Value) (el : Nat), (boxIds i ps)[j]? = some id ∧ bs[j]? = some b ∧ k = .box 0 (cellsOf fuel ⟨.named n, x⟩) ∧ w.heap[b]? = some (Obj.cells cs el (0, 0)) ∧ RepC A w (.named n) x cs.toList := by
  induction h with
  | nil => intro i id k h; cases h
  | val t x v ps vs tvs bs h k ih => intro i id kk hm; exact ih (i + 1) id kk hm
  | rd t x b off cs ps vs tvs bs hAb hc h k ih => intro i id kk hm; exact ih (i + 1) id kk hm
  | clo f t x b off cs ps vs tvs bs hAb hc h k ih => intro i id kk hm; exact ih (i + 1) id kk hm
  | box n x b cs el ps vs tvs bs hh h k ih =>
    intro i id kk hm; rcases List.mem_cons.1 hm with hm | hm
    · simp only [Prod.mk.injEq] at hm; obtain ⟨rfl, rfl⟩ := hm; exact ⟨0, b, n, x, cs, el, rfl, rfl, rfl, hh, h⟩
    · obtain ⟨j, b', n', x', cs', el', h1, h2, h3⟩ := ih (i + 1) id kk hm; exact ⟨j + 1, b', n', x', cs', el', by simpa [boxIds] using h1, by simpa using h2, h3⟩

def tab : List Nat → List Nat → Nat → Option Nat
  | i :: is, b :: bs, j => if i = j then some b else tab is bs j
  | _, _, _ => none

omit U in
theorem tab_some : ∀ {is bs : List Nat} {i b : Nat}, tab is bs i = some b → ∃ j : Nat, is[j]? = some i ∧ bs[j]? = some b := by
  intro is
  induction is with
  | nil => intro bs i b h; simp [tab] at h
  | cons x is ih =>
    intro bs i b h
    cases bs with
    | nil => simp [tab] at h
    | cons y bs =>
      simp only [tab] at h; split at h
      · rename_i e; subst e; obtain rfl := Option.some.inj h; exact ⟨0, rfl, rfl⟩
      · obtain ⟨j, h1, h2⟩ := ih h; exact ⟨j + 1, by simpa using h1, by simpa using h2⟩

omit U in
theorem tab_get : ∀ {is bs : List Nat} {j i b : Nat}, is.Nodup → is[j]? = some i → bs[j]? = some b → tab is bs i = some b := by
  intro is
  induction is with
  | nil => intro bs j i b _ h; simp at h
  | cons x is ih =>
    intro bs j i b hnd h1 h2
    cases bs with
    | nil => simp at h2
    | cons y bs =>
      simp only [tab]
      cases j with
      | zero =>
        simp only [List.getElem?_cons_zero, Option.some.injEq] at h1 h2; rw [if_pos h1, h2]
      | succ j =>
        simp only [List.getElem?_cons_succ] at h1 h2; have := List.nodup_cons.1 hnd; rw [if_neg (fun e => this.1 (by rw [e]; exact List.mem_of_getElem? h1))]; exact ih this.2 h1 h2

theorem ent_sound {A : Nat → Prop} {w : World} {ps : List PK} {vs : List Value} {tvs : List TV} {bs : List Nat} {N : Nat} (h : RepArgs A w ps vs tvs bs) (hN : ps.length ≤ N) (hN2 : N ≤ OFF)
    (hA : ∀ b, A b → b < w.heap.size ∧ b ∉ bs) (hb : ∀ b, b ∈ bs → b < w.heap.size) (hnd : bs.Nodup) (hl : Laid w bs) :
    Sim { w0 := w, A0 := A, bs, wf := hA, wb := hb, lay := hl, par := tab (boxIds 0 ps) bs } N (lookS (entS 0 ps tvs)) (lookM (entM 0 ps tvs))
      { tmps := vs.toArray ++ Array.replicate (N - vs.toArray.size) undef, defers := [] } w := by
  obtain ⟨h1, h2, h3, h4⟩ := h.types; have hids := boxIds_nodup ps 0
  have hlt : tvs.length = ps.length := by have := congrArg List.length h1; simpa using this
  (have hkn : ((entM 0 ps tvs).map (·.1)).Nodup := by rw [entM_keys ps tvs 0 hlt]; exact hids); refine ⟨⟨fun i => (tab (boxIds 0 ps) bs i).map fun b => (b, 0), fun _ => none⟩, ?_⟩
  have hβ : ∀ {i b C}, (tab (boxIds 0 ps) bs i).map (fun b => (b, 0)) = some (b, C) → ∃ j : Nat, (boxIds 0 ps)[j]? = some i ∧ bs[j]? = some b := by
    intro i b C e
    cases ht : tab (boxIds 0 ps) bs i with
    | none => rw [ht] at e; simp at e
    | some c =>
      rw [ht] at e; simp only [Option.map_some, Option.some.injEq, Prod.mk.injEq] at e; obtain ⟨rfl, _⟩ := e; exact tab_some ht
  have hmemid : ∀ {j i : Nat}, (boxIds 0 ps)[j]? = some i → ∃ k, lookM (entM 0 ps tvs) i = some k ∧ k.isBox = true := by
    intro j i hj; have : i ∈ (entM 0 ps tvs).map (·.1) := by rw [entM_keys ps tvs 0 hlt]; exact List.mem_of_getElem? hj
    obtain ⟨⟨i', k⟩, hm, rfl⟩ := List.mem_map.1 this
    obtain ⟨_, _, n, x, _, _, _, _, rfl, _⟩ := ent_boxes h 0 i' k hm; exact ⟨_, mem_lookM hkn hm, rfl⟩
  have hallow : ∀ b, A b → b < w.heap.size ∧ (A b ∨ w.heap.size ≤ b) ∧ (∀ i C, (tab (boxIds 0 ps) bs i).map (fun b => (b, 0)) ≠ some (b, C)) ∧ (none : Option Nat) = none := by
    intro b hb'; refine ⟨(hA b hb').1, .inl hb', fun i C e => ?_, rfl⟩; obtain ⟨j, _, h6⟩ := hβ e; exact (hA b hb').2 (List.mem_of_getElem? h6)
  exact {
    defers := ⟨fun d hd => (by cases hd), List.nodup_nil, fun b o e => (by cases e)⟩
    size := by simp only [Array.size_append, List.size_toArray, Array.size_replicate]; omega
    hN := hN2
    os := rfl, tape := rfl, output := ⟨rfl, Nat.le_refl _⟩, grow := Nat.le_refl _, old := fun _ _ _ => rfl
    dom := by
      intro i b C e; obtain ⟨j, h5, h6⟩ := hβ e; obtain ⟨k, hk, hkb⟩ := hmemid h5; have hm := List.mem_of_getElem? h6; exact ⟨⟨k, hk, fun _ => hkb⟩, hb b hm, .inl hm⟩
    inj := by
      intro i j b C D hi hj; obtain ⟨p, p1, p2⟩ := hβ hi; obtain ⟨q, q1, q2⟩ := hβ hj; have hlp := (List.getElem?_eq_some_iff.1 p2).1; have hlq := (List.getElem?_eq_some_iff.1 q2).1; have : p = q := (List.getElem?_inj hlp hnd).1 (p2.trans q2.symm)
      subst this
      rw [p1] at q1; exact Option.some.inj q1
    own := fun b i e => by cases e
    blk := by
      intro i k hk; obtain ⟨j, b, n, x, cs, el, e1, e2, rfl, e4, e5⟩ := ent_boxes h 0 i k (lookM_mem hk); have e5' := e5.mono (A' := fun b => b < w.heap.size ∧ (A b ∨ w.heap.size ≤ b) ∧ (∀ i C, (tab (boxIds 0 ps) bs i).map (fun b => (b, 0)) ≠ some (b, C)) ∧ (none : Option Nat) = none) (w' := w) fun b hb' => ⟨hallow b hb', rfl⟩; obtain ⟨c1, c2⟩ := cellsOf_rep (β := ⟨fun i => (tab (boxIds 0 ps) bs i).map fun b => (b, 0), fun _ => none⟩) (mem := lookM (entM 0 ps tvs)) fuel e5'; refine ⟨b, 0, cs, el, by simp only [tab_get hids e1 e2]; rfl, e4, by rw [c1]; simp, fun j sv hj => ?_⟩; (have hj' : j < cs.toList.length := by rw [← c1]; exact (List.getElem?_eq_some_iff.1 hj).1); exact ⟨cs.toList[j], by simpa using hj', e5.one _ (List.getElem_mem hj'), c2 j sv _ hj (List.getElem?_eq_getElem hj')⟩
    slot := by
      intro s; refine ent_slots (A := A) hallow h 0 (fun j id b e1 e2 => ?_) s _ fun _ => ?_
      · obtain ⟨k, hk, _⟩ := hmemid e1; exact ⟨⟨0, by simp only [tab_get hids e1 e2]; rfl⟩, k, hk⟩
      · simp only [Nat.sub_zero]; unfold slotV; split
        · by_cases hs : s < vs.length
          · simp [hs, Array.getElem?_append]
          · simp only [Array.getD_eq_getD_getElem?, Array.getElem?_append, List.getD_eq_getElem?_getD]; rw [if_neg (by simpa using hs), List.getElem?_eq_none (by omega)]; simp only [Array.getElem?_replicate]; split <;> rfl
        · rename_i hge; rw [List.getD_eq_getElem?_getD, List.getElem?_eq_none (by omega)]; rfl
    par := by
      intro i c hc; obtain ⟨j, b, n, x, cs, el, e1, e2, _⟩ := ent_boxes h 0 i _ (lookM_mem hc)
      exact ⟨b, 0, tab_get hids e1 e2, by simp only [tab_get hids e1 e2]; rfl⟩ }

end Go.Am


namespace Go.Am
open List
variable [U : Univ]

def retSVs (C : Ctx) (env : Nat → SV) : List ResultVar → Rd (List SV)
  | [] => .ret []
  | .tmp t :: r => (retSVs C env r).bind fun l => .ret (peek env t :: l)
  | .cell x T :: r =>
    match C.ty T with
    | some t => (loadSV t (peek env x)).bind fun v => (retSVs C env r).bind fun l => .ret (v :: l)
    | none => .fail

def finOf : RK → SV → Rd (TV × List Nat × List Nat)
  | .val t, sv => (toTV true t sv).bind fun x => .ret (x, [], lentIds fuel sv)
  | .own t, .nilsl => .ret (⟨.slice t, ([] : List t.den)⟩, [], [])
  | .own t, .arr id ep => .mem id fun b => match b with
    | some (.arr ep' u xs) => if ep' = ep then (Rd.opt (TV.to (.slice t) ⟨.slice u, xs⟩)).bind fun ys => .ret (⟨.slice t, ys⟩, [id], []) else .fail
    | _ => .fail
  | .ptr n, .ref id ep off => .mem id fun b => match b with
    | some (.box ep' cells) => if ep' = ep ∧ off = 0 then (toTV true (.named n) (.agg cells)).bind fun x => .ret (x, [id], lentIds fuel (.agg cells)) else .fail
    | _ => .fail
  | .deep t, sv => (ownD fuel t sv).bind fun x => .ret (⟨t, x⟩, lentIds fuel sv, [])
  | .clo f t, .clo g [.dref u x] => if g = f then (Rd.opt (TV.to t ⟨u, x⟩)).bind fun y => .ret (⟨t, y⟩, [], []) else .fail
  | _, _ => .fail

def finsOf : List RK → List SV → Rd (List TV × List Nat × List Nat)
  | [], [] => .ret ([], [], [])
  | r :: rs, v :: vs => (finOf r v).bind fun (x, o, l) => (finsOf rs vs).bind fun (xs, os, ls) => .ret (x :: xs, o ++ os, l ++ ls)
  | _, _ => .fail

def boxFin : Nat → List PK → Rd (List TV × List Nat)
  | _, [] => .ret ([], [])
  | i, .box n :: ps => .mem (i * 4) fun b => match b with
    | some (.box ep cells) => if ep = 0 then (toTV true (.named n) (.agg cells)).bind fun x => (boxFin (i + 1) ps).bind fun (xs, ls) => .ret (x :: xs, lentIds fuel (.agg cells) ++ ls) else .fail
    | _ => .fail
  | i, .val _ :: ps => boxFin (i + 1) ps
  | i, .rd _ :: ps => boxFin (i + 1) ps
  | i, .clo _ _ :: ps => boxFin (i + 1) ps

def allArr : List Nat → Rd Unit
  | [] => .ret ()
  | i :: r => .mem i fun b => match b with
    | some (.arr _ _ _) => allArr r
    | some (.tree _ _ _) => allArr r
    | _ => .fail

def endOf (C : Ctx) (env : Nat → SV) (ps : List PK) (rs : List RK) (vars : List ResultVar) : Rd (List TV × List TV) :=
  (retSVs C env vars).bind fun svs => (finsOf rs svs).bind fun (xs, os, ls) => (boxFin 0 ps).bind fun (ys, ks) =>
  (allArr (ls ++ ks)).bind fun _ =>
  if nodupN os && os.all (fun i => !((ls ++ ks).contains i) && !((boxIds 0 ps).contains i)) then .ret (xs, ys) else .fail

section
variable {E : Ent} {N : Nat} {env : Nat → SV} {mem : Nat → Option Blk} {a : Act} {w : World} {β : Bind} {P : Program} {C : Ctx}

omit U in
theorem run_listMapM {α γ : Type} (f : α → Sem γ) : ∀ (as : List α) (ys : List γ), ys.length = as.length → (∀ i (hi : i < as.length) (hi' : i < ys.length), (f as[i]).run P w = .ok ys[i] w) →
    (as.mapM f).run P w = .ok ys w := by
  intro as
  induction as with
  | nil =>
    intro ys hl _; obtain rfl : ys = [] := length_eq_zero_iff.1 (by simpa using hl); simp
  | cons x as ih =>
    intro ys hl h
    cases ys with
    | nil => simp at hl
    | cons y ys =>
      simp only [mapM_cons, Sem.run_bind, Sem.run_pure]; rw [show (f x).run P w = .ok y w from h 0 (by simp) (by simp)]; simp only [Result.andThen_ok]; rw [ih ys (by simpa using hl) (fun i hi hi' => h (i + 1) (by simpa using hi) (by simpa using hi'))]; rfl

omit U in
theorem run_mapM {α γ : Type} (f : α → Sem γ) (as : Array α) (ys : List γ) (hl : ys.length = as.size) (h : ∀ i (hi : i < as.toList.length) (hi' : i < ys.length), (f as.toList[i]).run P w = .ok ys[i] w) :
    (as.mapM f).run P w = .ok ys.toArray w := by
  rw [Array.mapM_eq_mapM_toList, map_eq_pure_bind]; simp only [Sem.run_bind, Sem.run_pure]; rw [run_listMapM f as.toList ys (by simpa using hl) h]; rfl

def resVar (a : Act) : ResultVar → Sem Value
  | .tmp t => pure (a.tmps.getD t undef)
  | .cell x t => do loadVar t (← asAddr (a.tmps.getD x undef))

theorem retSVs_sound (h : SimB E N env mem a w β) (hC : CtxTy P C) : ∀ {vars : List ResultVar} {svs : List SV}, (retSVs C env vars).eval mem = some svs →
    ∃ vs : List Value, vs.length = vars.length ∧ svs.length = vs.length ∧
      (∀ i (hi : i < vars.length) (hi' : i < vs.length), (resVar a vars[i]).run P w = .ok vs[i] w) ∧
      ∀ (i : Nat) (sv : SV) (v : Value), svs[i]? = some sv → vs[i]? = some v → RepSV (allow E w β) w β mem sv v := by
  intro vars
  induction vars with
  | nil =>
    intro svs hs; simp only [retSVs, Rd.eval, Option.some.injEq] at hs; subst hs; exact ⟨[], rfl, rfl, by simp, by simp⟩
  | cons x vars ih =>
    intro svs hs
    have step : ∀ {sv : SV} {l : List SV} {v : Value}, (retSVs C env vars).eval mem = some l → svs = sv :: l → RepSV (allow E w β) w β mem sv v →
        (resVar a x).run P w = .ok v w →
        ∃ vs : List Value, vs.length = (x :: vars).length ∧ svs.length = vs.length ∧ (∀ i (hi : i < (x :: vars).length) (hi' : i < vs.length), (resVar a (x :: vars)[i]).run P w = .ok vs[i] w) ∧
          ∀ (i : Nat) (sv : SV) (v : Value), svs[i]? = some sv → vs[i]? = some v → RepSV (allow E w β) w β mem sv v := by
      rintro sv l v hl rfl hr hrun; obtain ⟨vs, h1, h2, h3, h4⟩ := ih hl; refine ⟨v :: vs, by simp [h1], by simp [h2], fun i hi hi' => ?_, fun i sv' v' hi hj => ?_⟩
      · cases i with
        | zero => exact hrun
        | succ i => exact h3 i (by simpa using hi) (by simpa using hi')
      · cases i with
        | zero =>
          simp only [getElem?_cons_zero, Option.some.injEq] at hi hj; subst hi hj; exact hr
        | succ i => exact h4 i sv' v' (by simpa using hi) (by simpa using hj)
    cases x with
    | tmp t =>
      simp only [retSVs] at hs; obtain ⟨l, hl, hs⟩ := Rd.bind_some hs; simp only [Rd.eval, Option.some.injEq] at hs; exact step hl hs.symm (h.peek t) (by simp [resVar])
    | cell x T =>
      simp only [retSVs] at hs; split at hs
      · rename_i t ht; obtain ⟨sv, hsv, hs⟩ := Rd.bind_some hs; obtain ⟨l, hl, hs⟩ := Rd.bind_some hs; simp only [Rd.eval, Option.some.injEq] at hs; obtain ⟨y, hy, hyr⟩ := load_sound h (hC T t ht).loadVar (h.peek x) hsv; refine step hl hs.symm hyr ?_; simp only [Instr.loadAt] at hy
        have hp : ∃ b off, a.tmps.getD x undef = .pointer (some ⟨b, off, none⟩) := by
          have hs := h.peek x; generalize a.tmps.getD x undef = u at hs
          cases e : peek env x with
          | ref => rw [e] at hs; cases hs; exact ⟨_, _, rfl⟩
          | eref => rw [e] at hs; cases hs; exact ⟨_, _, rfl⟩
          | tref => rw [e] at hs; cases hs; exact ⟨_, _, rfl⟩
          | dref => rw [e] at hs; cases hs; exact ⟨_, _, rfl⟩
          | _ => rw [e] at hsv; simp [loadSV, Rd.eval] at hsv
        obtain ⟨b, off, hp⟩ := hp; rw [hp] at hy; simp only [resVar, hp]; simpa [Instr.sureAddr, asAddr] using hy
      · simp [Rd.eval] at hs

theorem allArr_sound : ∀ {l : List Nat} {u : Unit}, (allArr l).eval mem = some u → ∀ i ∈ l, ∃ k, mem i = some k ∧ k.isBox = false := by
  intro l
  induction l with
  | nil => intro u _ i hi; cases hi
  | cons j l ih =>
    intro u h i hi; simp only [allArr] at h; replace h := Rd.mem_some h
    cases hm : mem j with
    | none => rw [hm] at h; simp [Rd.eval] at h
    | some k =>
      rw [hm] at h
      cases k with
      | arr ep t xs =>
        rcases mem_cons.1 hi with rfl | hi
        · exact ⟨_, hm, rfl⟩
        · exact ih h i hi
      | tree ep t xs =>
        rcases mem_cons.1 hi with rfl | hi
        · exact ⟨_, hm, rfl⟩
        · exact ih h i hi
      | box => simp [Rd.eval] at h
      | dead => simp [Rd.eval] at h
      | mp => simp [Rd.eval] at h
      | hole => simp [Rd.eval] at h

theorem finOf_sound (h : SimB E N env mem a w β) {B : Nat → Prop} (hB : ∀ b, allow E w β b → B b) {r : RK} {sv : SV} {v : Value} {tv : TV} {os ls : List Nat}
    (hr : RepSV (allow E w β) w β mem sv v) (hs : (finOf r sv).eval mem = some (tv, os, ls)) (hl : ∀ id ∈ ls, ∀ b, Held β id b → B b) :
    os.Nodup → ∃ nb : List Nat, (∀ b ∈ nb, ∃ id ∈ os, Held β id b) ∧ nb.Nodup ∧
      ∀ {rs tvs vs nb'}, RepRess B w rs tvs vs nb' → RepRess B w (r :: rs) (tv :: tvs) (v :: vs) (nb ++ nb') := by
  intro hosn
  cases r with
  | err => simp [finOf, Rd.eval] at hs
  | val t =>
    simp only [finOf] at hs; obtain ⟨x, hx, hs⟩ := Rd.bind_some hs; simp only [Rd.eval, Option.some.injEq, Prod.mk.injEq] at hs; obtain ⟨rfl, rfl, rfl⟩ := hs; obtain ⟨y, hy, hx⟩ := Rd.bind_some hx; obtain rfl := Option.some.inj hx; have := toD_sound h hB fuel (fun _ id hi b hb => hl id hi b hb) hr hy; exact ⟨[], by simp, nodup_nil, fun k => .val t y v _ _ _ _ this k⟩
  | own t =>
    cases hr with
    | nilsl =>
      simp only [finOf, Rd.eval, Option.some.injEq, Prod.mk.injEq] at hs; obtain ⟨rfl, rfl, rfl⟩ := hs; exact ⟨[], by simp, nodup_nil, fun k => .ownNil t _ _ _ _ k⟩
    | arr id ep v hm h1 hv =>
      simp only [finOf] at hs; replace hs := Rd.mem_some hs
      cases hmi : mem id with
      | none => rw [hmi] at hs; simp [Rd.eval] at hs
      | some k =>
        rw [hmi] at hs
        cases k with
        | box => simp [Rd.eval] at hs
        | tree => simp [Rd.eval] at hs
        | dead => simp [Rd.eval] at hs
        | mp => simp [Rd.eval] at hs
        | hole => simp [Rd.eval] at hs
        | arr ep' u xs =>
          simp only at hs; split at hs
          · rename_i e; subst e; obtain ⟨ys, hys, hs⟩ := Rd.bind_some hs; simp only [Rd.eval, Option.some.injEq, Prod.mk.injEq] at hs; obtain ⟨rfl, rfl, rfl⟩ := hs; obtain ⟨e, rfl⟩ := TV.to_some (Rd.opt_some hys); (obtain rfl : u = t := by injection e); have hv := hv _ _ hmi; obtain ⟨hlim, ⟨hb, rfl⟩ | ⟨b, D, cs, el, css, hb, hh, hsz, hD, hel⟩⟩ := h.blk id _ hmi
            · rw [hb] at hv; obtain ⟨_, _, rfl⟩ := hv; exact ⟨[], by simp, nodup_nil, fun k => .ownNil u _ _ _ _ k⟩
            · rw [hb] at hv; obtain ⟨p, rfl, hle, hp⟩ := hv; obtain rfl := hp (.inl rfl); simp only [Nat.sub_zero, Nat.zero_mul]; refine ⟨[b], ?_, by simp, fun k => .own u xs b D cs el css _ _ _ _ hlim hh hsz hD (fun k hk => ?_) k⟩
              · intro b' hb'; obtain rfl := mem_singleton.1 hb'; exact ⟨id, by simp, .inl ⟨D, hb⟩⟩
              · obtain ⟨e1, e2, e3⟩ := hel k hk; exact ⟨e1, e2, e3.mono fun b hb => ⟨hB b hb, rfl⟩⟩
          · simp [Rd.eval] at hs
    | _ => simp [finOf, Rd.eval] at hs
  | ptr n =>
    cases hr with
    | ref id ep off b hm hv =>
      simp only [finOf] at hs; replace hs := Rd.mem_some hs
      cases hmi : mem id with
      | none => rw [hmi] at hs; simp [Rd.eval] at hs
      | some k =>
        rw [hmi] at hs
        cases k with
        | arr => simp [Rd.eval] at hs
        | tree => simp [Rd.eval] at hs
        | dead => simp [Rd.eval] at hs
        | mp => simp [Rd.eval] at hs
        | hole => simp [Rd.eval] at hs
        | box ep' cells =>
          simp only at hs; split at hs
          · rename_i e; obtain ⟨rfl, rfl⟩ := e; obtain ⟨x, hx, hs⟩ := Rd.bind_some hs; simp only [Rd.eval, Option.some.injEq, Prod.mk.injEq] at hs; obtain ⟨rfl, rfl, rfl⟩ := hs; obtain ⟨y, hy, hx⟩ := Rd.bind_some hx; obtain rfl := Option.some.inj hx; obtain ⟨D, hb⟩ := hv cells hmi; obtain ⟨b', D', cs, el, hb', hh, hsz, hcell⟩ := h.blk id _ hmi; rw [hb] at hb'; (obtain ⟨rfl, rfl⟩ : b = b' ∧ D = D' := by simpa using hb'); have hagg := agg_of_cells hsz hcell; have hyv := toD_sound h hB fuel (fun _ id hi b hb => hl id hi b hb) hagg hy; have hyc := hyv.cells.1; simp only [Value.cells] at hyc; refine ⟨[b], ?_, by simp, fun k => .ptr n y b cs el _ _ _ _ hh (by simpa using hyc) k⟩; intro b' hb'; obtain rfl := mem_singleton.1 hb'; exact ⟨id, by simp, .inl ⟨D, hb⟩⟩
          · simp [Rd.eval] at hs
    | _ => simp [finOf, Rd.eval] at hs
  | deep t =>
    (have hs : ((ownD fuel t sv).bind fun x => Rd.ret ((⟨t, x⟩ : TV), lentIds fuel sv, ([] : List Nat))).eval mem = some (tv, os, ls) := by cases sv <;> exact hs); obtain ⟨x, hx, hs⟩ := Rd.bind_some hs; simp only [Rd.eval, Option.some.injEq, Prod.mk.injEq] at hs; obtain ⟨rfl, rfl, rfl⟩ := hs
    classical
    have hO := ownD_sound h (A := allow E w β) fuel hosn hr hx; refine ⟨(List.range w.heap.size).filter fun b => decide (Moved β (lentIds fuel sv) b), fun b hb => ?_, nodup_range.filter _, fun k => .deep t x v _ _ _ _ _ (hO.mono fun b hb => ⟨?_, rfl⟩) k⟩
    · simp only [mem_filter, decide_eq_true_eq] at hb; exact hb.2
    · refine mem_filter.2 ⟨mem_range.2 ?_, by simpa using hb⟩; obtain ⟨i, _, ⟨D, hD⟩ | hD⟩ := hb
      · exact (h.dom i b D hD).2.1
      · exact (h.own b i hD).2.1
  | clo f t =>
    cases hr with
    | clo g l vs hlen hrl =>
      match l, hlen with
      | [.dref u x], hlen =>
        obtain ⟨v, rfl⟩ : ∃ v, vs = [v] := length_eq_one_iff.1 hlen.symm; simp only [finOf] at hs; split at hs
        · rename_i e; subst e; obtain ⟨y, hy, hs⟩ := Rd.bind_some hs; simp only [Rd.eval, Option.some.injEq, Prod.mk.injEq] at hs; obtain ⟨rfl, rfl, rfl⟩ := hs; obtain ⟨e, rfl⟩ := TV.to_some (Rd.opt_some hy); subst e; have hv := hrl 0 _ _ rfl rfl
          cases hv with
          | dref _ _ b off cs hA hc hrep =>
            refine ⟨[], by simp, nodup_nil, fun k => .clo g u x b off _ _ _ _ ?_ k⟩; refine .slice u [x] ⟨b, off, none⟩ 1 (fun _ => cs) (show (1 : Int) ≤ 9223372036854775807 by omega) (Nat.le_refl _) (fun _ => hB b hA) (fun _ => rfl) (fun _ _ => hrep.length) (fun i j v hi hj => ?_) (fun i hi => ?_)
            · have : i = 0 := by simpa using hi
              subst this
              simpa using hc j v hj
            · have : i = 0 := by simpa using hi
              subst this
              exact hrep.mono fun b hb => ⟨hB b hb, rfl⟩
        · simp [Rd.eval] at hs
      | [], _ => simp [finOf, Rd.eval] at hs
      | _ :: _ :: _, _ => simp [finOf, Rd.eval] at hs
      | [.top], _ | [.int _ _], _ | [.bool _], _ | [.str _], _ | [.data _ _], _ | [.nilsl], _ | [.nilptr], _ | [.err _], _ | [.mp _ _], _ | [.arr _ _], _ | [.sub _ _ _ _], _ | [.ref _ _ _], _ | [.eref _ _ _ _], _ | [.tr _ _], _ | [.tref _ _ _ _], _ | [.bsl _ _ _ _], _ | [.agg _], _ | [.tup _], _ | [.clo _ _], _ | [.cnd _ _], _ => simp [finOf, Rd.eval] at hs
    | _ => simp [finOf, Rd.eval] at hs
where
  agg_of_cells {cells : List SV} {cs : Array Value} (hsz : cs.size = cells.length) (hcell : ∀ (j : Nat) (sv : SV), cells[j]? = some sv → ∃ v, cs[j]? = some v ∧ v.oneCell' = true ∧ RepSV (allow E w β) w β mem sv v) :
      RepSV (allow E w β) w β mem (.agg cells) (.agg cs.toList.toArray) := by
    refine .agg _ _ (by simp [hsz]) ?_ ?_
    · intro v hv; obtain ⟨j, hj, rfl⟩ := mem_iff_getElem.1 hv; (have hj' : j < cells.length := by simpa [hsz] using hj); obtain ⟨v, hv, h1, _⟩ := hcell j cells[j] (by simp [hj'])
      have : cs.toList[j] = v := by
        have : cs.toList[j]? = some v := by simpa using hv
        rw [getElem?_eq_getElem hj] at this
        simpa using this
      rw [this]; exact h1
    · intro i sv v hi hj; obtain ⟨v', hv', _, hr⟩ := hcell _ _ hi; have : cs[i]? = some v := by simpa using hj
      rw [hv'] at this
      obtain rfl := Option.some.inj this
      exact hr

theorem finsOf_sound (h : SimB E N env mem a w β) {B : Nat → Prop} (hB : ∀ b, allow E w β b → B b) : ∀ {rs : List RK} {svs : List SV} {vs : List Value} {tvs : List TV} {os ls : List Nat}, svs.length = vs.length →
    (∀ (i : Nat) (sv : SV) (v : Value), svs[i]? = some sv → vs[i]? = some v → RepSV (allow E w β) w β mem sv v) → (finsOf rs svs).eval mem = some (tvs, os, ls) → os.Nodup →
    (∀ id ∈ ls, ∀ b, Held β id b → B b) → ∃ nb : List Nat, (∀ b ∈ nb, ∃ id ∈ os, Held β id b) ∧ nb.Nodup ∧ RepRess B w rs tvs vs nb := by
  intro rs
  induction rs with
  | nil =>
    intro svs vs tvs os ls hl hr hs hnd hls
    cases svs with
    | nil =>
      cases vs with
      | nil =>
        simp only [finsOf, Rd.eval, Option.some.injEq, Prod.mk.injEq] at hs; obtain ⟨rfl, rfl, rfl⟩ := hs; exact ⟨[], by simp, nodup_nil, .nil⟩
      | cons => simp at hl
    | cons => simp [finsOf, Rd.eval] at hs
  | cons r rs ih =>
    intro svs vs tvs os ls hl hr hs hnd hls
    cases svs with
    | nil => simp [finsOf, Rd.eval] at hs
    | cons sv svs =>
      cases vs with
      | nil => simp at hl
      | cons v vs =>
        simp only [finsOf] at hs; obtain ⟨⟨x, o, l⟩, h1, hs⟩ := Rd.bind_some hs; obtain ⟨⟨xs, os', ls'⟩, h2, hs⟩ := Rd.bind_some hs; simp only [Rd.eval, Option.some.injEq, Prod.mk.injEq] at hs; obtain ⟨rfl, rfl, rfl⟩ := hs; obtain ⟨hn1, hn2, hn3⟩ := nodup_append.1 hnd; obtain ⟨nb, k1, k2, k3⟩ := finOf_sound h hB (hr 0 sv v rfl rfl) h1 (fun id hi => hls id (by simp [hi])) hn1; obtain ⟨nb', g1, g2, g3⟩ := ih (by simpa using hl) (fun i sv' v' hi hj => hr (i + 1) sv' v' (by simpa using hi) (by simpa using hj)) h2 hn2 (fun id hi => hls id (by simp [hi])); refine ⟨nb ++ nb', ?_, ?_, k3 g3⟩
        · intro b hb; rcases mem_append.1 hb with hb | hb
          · obtain ⟨id, hi, D⟩ := k1 b hb; exact ⟨id, by simp [hi], D⟩
          · obtain ⟨id, hi, D⟩ := g1 b hb; exact ⟨id, by simp [hi], D⟩
        · refine nodup_append.2 ⟨?_, g2, ?_⟩
          · exact k2
          · intro b hb b' hb' e; subst e; obtain ⟨i, hi, hD⟩ := k1 b hb; obtain ⟨j, hj, hD'⟩ := g1 b hb'; exact hn3 i hi j hj (Held.inj h hD hD')

theorem boxFin_sound (h : SimB E N env mem a w β) {B : Nat → Prop} (hB : ∀ b, allow E w β b → B b) : ∀ {ps : List PK} {i : Nat} {tvs : List TV} {ls bs : List Nat}, (boxFin i ps).eval mem = some (tvs, ls) → (boxIds i ps).length = bs.length →
    (∀ (j id b : Nat), (boxIds i ps)[j]? = some id → bs[j]? = some b → E.par id = some b) → (∀ id ∈ ls, ∀ b, Held β id b → B b) →
    RepBoxes B w (boxNs ps) tvs bs ∧ ∀ (j id b : Nat), (boxIds i ps)[j]? = some id → bs[j]? = some b → ∃ D, β id = some (b, D) := by
  intro ps
  induction ps with
  | nil =>
    intro i tvs ls bs hs hlen hpar hls; simp only [boxFin, Rd.eval, Option.some.injEq, Prod.mk.injEq] at hs; obtain ⟨rfl, rfl⟩ := hs; obtain rfl : bs = [] := length_eq_zero_iff.1 (by simpa [boxIds] using hlen.symm); exact ⟨.nil, by simp [boxIds]⟩
  | cons p ps ih =>
    intro i tvs ls bs hs hlen hpar hls
    cases p with
    | val t => exact ih (i := i + 1) hs hlen hpar hls
    | rd t => exact ih (i := i + 1) hs hlen hpar hls
    | clo f t => exact ih (i := i + 1) hs hlen hpar hls
    | box n =>
      simp only [boxFin] at hs; replace hs := Rd.mem_some hs
      cases hmi : mem (i * 4) with
      | none => rw [hmi] at hs; simp [Rd.eval] at hs
      | some k =>
        rw [hmi] at hs
        cases k with
        | arr => simp [Rd.eval] at hs
        | tree => simp [Rd.eval] at hs
        | dead => simp [Rd.eval] at hs
        | mp => simp [Rd.eval] at hs
        | hole => simp [Rd.eval] at hs
        | box ep cells =>
          simp only at hs; split at hs
          · rename_i e; subst e; obtain ⟨x, hx, hs⟩ := Rd.bind_some hs; obtain ⟨⟨xs, ls'⟩, h2, hs⟩ := Rd.bind_some hs; simp only [Rd.eval, Option.some.injEq, Prod.mk.injEq] at hs; obtain ⟨rfl, rfl⟩ := hs; obtain ⟨y, hy, hx⟩ := Rd.bind_some hx; obtain rfl := Option.some.inj hx
            cases bs with
            | nil => simp [boxIds] at hlen
            | cons b bs =>
              obtain ⟨b2, D, hp, hb⟩ := h.par (i * 4) cells hmi; have hp2 := hpar 0 (i * 4) b rfl rfl; rw [hp] at hp2; obtain rfl := Option.some.inj hp2; obtain ⟨b', D', cs, el, hb', hh, hsz, hcell⟩ := h.blk _ _ hmi; rw [hb] at hb'; (obtain ⟨rfl, rfl⟩ : b2 = b' ∧ D = D' := by simpa using hb'); have hagg := finOf_sound.agg_of_cells hsz hcell; have hyv := toD_sound h hB fuel (fun _ id hi b hb => hls id (by simp [hi]) b hb) hagg hy; have hyc := hyv.cells.1; simp only [Value.cells] at hyc; obtain ⟨g1, g2⟩ := ih (i := i + 1) h2 (by simpa [boxIds] using hlen) (fun j id b' h1 h2 => hpar (j + 1) id b' (by simpa [boxIds] using h1) (by simpa using h2)) (fun id hi => hls id (by simp [hi])); refine ⟨.cons n y b2 cs el _ _ _ hh (by simpa using hyc) g1, fun j id b' h1 h2 => ?_⟩
              cases j with
              | zero =>
                simp only [boxIds, getElem?_cons_zero, Option.some.injEq] at h1 h2; subst h1 h2; exact ⟨D, hb⟩
              | succ j => exact g2 j id b' (by simpa [boxIds] using h1) (by simpa using h2)
          · simp [Rd.eval] at hs

end
end Go.Am
