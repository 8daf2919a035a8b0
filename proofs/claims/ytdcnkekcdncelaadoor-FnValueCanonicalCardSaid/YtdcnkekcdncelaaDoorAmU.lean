/-
  Am, part U: from a body to a contract.
-/
import Derived.Test.YtdcnkekcdncelaaDoorAmT
set_option linter.all false
namespace Go.Am
variable [U : Univ]

inductive Wf : TV → Prop
  | int (k : IntKind) (n : Int) (lo : k.min ≤ n) (hi : n ≤ k.max) : Wf ⟨.int k, n⟩
  | bool (b : Bool) : Wf ⟨.bool, b⟩
  | str (s : ByteArray) (h : (s.size : Int) ≤ lim) : Wf ⟨.str, s⟩
  | named (n : Nat) (x : U.R n) (h : ∀ tv ∈ U.get n x, Wf tv) : Wf ⟨.named n, x⟩
  | slice (t : Ty) (xs : List t.den) (hl : (xs.length : Int) ≤ lim) (h : ∀ x ∈ xs, Wf ⟨t, x⟩) : Wf ⟨.slice t, xs⟩

theorem RepC.wf {A : Nat → Prop} {w : World} {t : Ty} {x : t.den} {cs : List Value} (h : RepC A w t x cs) : Wf ⟨t, x⟩ := by
  refine RepC.rec (motive_1 := fun t x cs _ => Wf ⟨t, x⟩) (motive_2 := fun l cs _ => ∀ tv ∈ l, Wf tv) ?_ ?_ ?_ ?_ ?_ ?_ ?_ ?_ h
  · intro k n lo hi; exact .int k n lo hi
  · intro b; exact .bool b
  · intro s h; exact .str s h
  · intro n x cs _ ih; exact .named n x ih
  · intro t; exact .slice t _ (by simp [lim]) (by simp)
  · intro t xs a cap css hl hcap hA' hs hlen hc _ ih; refine .slice t xs hl fun x hx => ?_; obtain ⟨i, hi, rfl⟩ := List.mem_iff_getElem.1 hx; exact ih i hi
  · simp
  · intro t x r cs ds _ _ h k tv htv; rcases List.mem_cons.1 htv with rfl | htv
    · exact h
    · exact k tv htv

theorem RepV.wf {A : Nat → Prop} {w : World} {t : Ty} {x : t.den} {v : Value} (h : RepV A w t x v) : Wf ⟨t, x⟩ := by
  cases h with
  | agg n x cs h => exact h.wf
  | one t x v ht h => exact h.wf

def PK.ty : PK → Ty
  | .val t | .rd t | .clo _ t => t
  | .box n => .named n

def entS : Nat → List PK → List TV → List (Nat × SV)
  | i, .val _ :: ps, tv :: tvs => (i, SV.ofTV tv) :: entS (i + 1) ps tvs
  | i, .rd _ :: ps, tv :: tvs => (i, .dref tv.1 tv.2) :: entS (i + 1) ps tvs
  | i, .box _ :: ps, _ :: tvs => (i, .ref (i * 4) 0 0) :: entS (i + 1) ps tvs
  | i, .clo f _ :: ps, tv :: tvs => (i, .clo f [.dref tv.1 tv.2]) :: entS (i + 1) ps tvs
  | _, _, _ => []

def entM : Nat → List PK → List TV → List (Nat × Blk)
  | i, .box _ :: ps, tv :: tvs => (i * 4, .box 0 (cellsOf fuel tv)) :: entM (i + 1) ps tvs
  | i, .val _ :: ps, _ :: tvs => entM (i + 1) ps tvs
  | i, .rd _ :: ps, _ :: tvs => entM (i + 1) ps tvs
  | i, .clo _ _ :: ps, _ :: tvs => entM (i + 1) ps tvs
  | _, _, _ => []

def boxIds : Nat → List PK → List Nat
  | _, [] => []
  | i, .box _ :: ps => i * 4 :: boxIds (i + 1) ps
  | i, .val _ :: ps => boxIds (i + 1) ps
  | i, .rd _ :: ps => boxIds (i + 1) ps
  | i, .clo _ _ :: ps => boxIds (i + 1) ps

theorem RepArgs.types {A : Nat → Prop} {w : World} {ps : List PK} {vs : List Value} {tvs : List TV} {bs : List Nat} (h : RepArgs A w ps vs tvs bs) :
    tvs.map (·.1) = ps.map PK.ty ∧ vs.length = ps.length ∧ (∀ i, (boxIds i ps).length = bs.length) ∧ (∀ tv ∈ tvs, Wf tv) := by
  induction h with
  | nil => exact ⟨rfl, rfl, fun _ => rfl, by simp⟩
  | val t x v ps vs tvs bs h k ih =>
    obtain ⟨h1, h2, h3, h4⟩ := ih; refine ⟨by simp [h1, PK.ty], by simp [h2], fun i => h3 (i + 1), ?_⟩; intro tv htv; rcases List.mem_cons.1 htv with rfl | htv
    · exact h.wf
    · exact h4 tv htv
  | rd t x b off cs ps vs tvs bs hA hc h k ih =>
    obtain ⟨h1, h2, h3, h4⟩ := ih; refine ⟨by simp [h1, PK.ty], by simp [h2], fun i => h3 (i + 1), ?_⟩; intro tv htv; rcases List.mem_cons.1 htv with rfl | htv
    · exact h.wf
    · exact h4 tv htv
  | clo f t x b off cs ps vs tvs bs hA hc h k ih =>
    obtain ⟨h1, h2, h3, h4⟩ := ih; refine ⟨by simp [h1, PK.ty], by simp [h2], fun i => h3 (i + 1), ?_⟩; intro tv htv; rcases List.mem_cons.1 htv with rfl | htv
    · exact h.wf
    · exact h4 tv htv
  | box n x b cs el ps vs tvs bs hh h k ih =>
    obtain ⟨h1, h2, h3, h4⟩ := ih; refine ⟨by simp [h1, PK.ty], by simp [h2], fun i => by simp [boxIds, h3], ?_⟩; intro tv htv; rcases List.mem_cons.1 htv with rfl | htv
    · exact h.wf
    · exact h4 tv htv

theorem lookM_mem {l : List (Nat × Blk)} {i : Nat} {k : Blk} (h : lookM l i = some k) : (i, k) ∈ l := by
  induction l with
  | nil => simp [lookM] at h
  | cons x l ih =>
    obtain ⟨j, b⟩ := x; simp only [lookM] at h
    cases e : Nat.beq i j with
    | true =>
      rw [e, cond_true] at h; obtain rfl := Option.some.inj h; rw [Nat.eq_of_beq_eq_true e]; simp
    | false =>
      rw [e, cond_false] at h; exact List.mem_cons_of_mem _ (ih h)

theorem mem_lookM {l : List (Nat × Blk)} (hnd : (l.map (·.1)).Nodup) {i : Nat} {k : Blk} (h : (i, k) ∈ l) : lookM l i = some k := by
  induction l with
  | nil => cases h
  | cons x l ih =>
    obtain ⟨j, b⟩ := x; simp only [List.map_cons, List.nodup_cons] at hnd; simp only [lookM]; rcases List.mem_cons.1 h with h | h
    · simp only [Prod.mk.injEq] at h; obtain ⟨rfl, rfl⟩ := h; rw [show Nat.beq i i = true from Nat.beq_refl i, cond_true]
    · have : Nat.beq i j = false := by
        rw [Bool.eq_false_iff]; intro e; have e := Nat.eq_of_beq_eq_true e; exact hnd.1 (List.mem_map.2 ⟨(i, k), h, e⟩)
      rw [this, cond_false]; exact ih hnd.2 h

theorem entM_keys : ∀ (ps : List PK) (tvs : List TV) (i : Nat), tvs.length = ps.length → (entM i ps tvs).map (·.1) = boxIds i ps := by
  intro ps
  induction ps with
  | nil => intro tvs i h; cases tvs <;> simp [entM, boxIds] at h ⊢
  | cons p ps ih =>
    intro tvs i h
    cases tvs with
    | nil => simp at h
    | cons tv tvs =>
      have := ih tvs (i + 1) (by simpa using h); cases p <;> simp [entM, boxIds, this]

theorem boxIds_le : ∀ (ps : List PK) (i : Nat), ∀ id ∈ boxIds i ps, i * 4 ≤ id := by
  intro ps
  induction ps with
  | nil => intro i id h; cases h
  | cons p ps ih =>
    intro i id h
    cases p with
    | box n =>
      rcases List.mem_cons.1 h with rfl | h
      · exact Nat.le_refl _
      · have := ih _ _ h; omega
    | val t => have := ih _ _ h; omega
    | rd t => have := ih _ _ h; omega
    | clo f t => have := ih _ _ h; omega

theorem boxIds_nodup : ∀ (ps : List PK) (i : Nat), (boxIds i ps).Nodup := by
  intro ps
  induction ps with
  | nil => intro i; exact List.nodup_nil
  | cons p ps ih =>
    intro i
    cases p with
    | box n =>
      refine List.nodup_cons.2 ⟨fun h => ?_, ih _⟩; have := boxIds_le _ _ _ h; omega
    | val t => exact ih _
    | rd t => exact ih _
    | clo f t => exact ih _

theorem ent_slots {A A' : Nat → Prop} {w : World} {β : Bind} {mem : Nat → Option Blk} (hA : ∀ b, A b → A' b) {ps : List PK} {vs : List Value} {tvs : List TV} {bs : List Nat}
    (h : RepArgs A w ps vs tvs bs) : ∀ i : Nat, (∀ (j id b : Nat), (boxIds i ps)[j]? = some id → bs[j]? = some b → (∃ D, β id = some (b, D)) ∧ ∃ k, mem id = some k) →
    ∀ s v, (i ≤ s → v = vs.getD (s - i) undef) → RepSV A' w β mem (lookS (entS i ps tvs) s) v := by
  induction h with
  | nil => intro i _ s v _; exact .top v
  | val t x v ps vs tvs bs h k ih =>
    intro i hb s u hu; simp only [entS, lookS]
    cases e : Nat.beq s i with
    | true =>
      obtain rfl := Nat.eq_of_beq_eq_true e; rw [cond_true]; have := hu (Nat.le_refl _)
      simp only [Nat.sub_self, List.getD_cons_zero] at this
      subst this
      exact RepSV.ofTV (h.mono fun b hb => ⟨hA b hb, rfl⟩)
    | false =>
      rw [cond_false]; refine ih (i + 1) hb s u fun hs => ?_; rw [hu (by omega), show s - i = (s - (i + 1)) + 1 by omega, List.getD_cons_succ]
  | rd t x b off cs ps vs tvs bs hAb hc h k ih =>
    intro i hb s u hu; simp only [entS, lookS]
    cases e : Nat.beq s i with
    | true =>
      obtain rfl := Nat.eq_of_beq_eq_true e; rw [cond_true]; have := hu (Nat.le_refl _)
      simp only [Nat.sub_self, List.getD_cons_zero] at this
      subst this
      exact .dref t x b off cs (hA b hAb) hc (h.mono fun b hb => ⟨hA b hb, rfl⟩)
    | false =>
      rw [cond_false]; refine ih (i + 1) hb s u fun hs => ?_; rw [hu (by omega), show s - i = (s - (i + 1)) + 1 by omega, List.getD_cons_succ]
  | clo f t x b off cs ps vs tvs bs hAb hc h k ih =>
    intro i hb s u hu; simp only [entS, lookS]
    cases e : Nat.beq s i with
    | true =>
      obtain rfl := Nat.eq_of_beq_eq_true e; rw [cond_true]; have := hu (Nat.le_refl _)
      simp only [Nat.sub_self, List.getD_cons_zero] at this
      subst this
      refine .clo f [.dref t x] [.pointer (some ⟨b, off, none⟩)] rfl fun j sv v hj hv => ?_
      match j, hj, hv with
      | 0, hj, hv =>
        obtain rfl := Option.some.inj hj; obtain rfl := Option.some.inj hv; exact .dref t x b off cs (hA b hAb) hc (h.mono fun b hb => ⟨hA b hb, rfl⟩)
      | _ + 1, hj, _ => simp at hj
    | false =>
      rw [cond_false]; refine ih (i + 1) hb s u fun hs => ?_; rw [hu (by omega), show s - i = (s - (i + 1)) + 1 by omega, List.getD_cons_succ]
  | box n x b cs el ps vs tvs bs hh h k ih =>
    intro i hb s u hu; simp only [entS, lookS]
    cases e : Nat.beq s i with
    | true =>
      obtain rfl := Nat.eq_of_beq_eq_true e; rw [cond_true]; have := hu (Nat.le_refl _)
      simp only [Nat.sub_self, List.getD_cons_zero] at this
      subst this
      obtain ⟨⟨D, hD⟩, kx, hk⟩ := hb 0 (s * 4) b rfl rfl; exact .ref _ _ _ _ ⟨kx, hk, Nat.zero_le _⟩ fun cells _ => ⟨D, hD⟩
    | false =>
      rw [cond_false]; refine ih (i + 1) (fun j id b' h1 h2 => hb (j + 1) id b' (by simpa [boxIds] using h1) (by simpa using h2)) s u fun hs => ?_; rw [hu (by omega), show s - i = (s - (i + 1)) + 1 by omega, List.getD_cons_succ]

theorem ent_boxes {A : Nat → Prop} {w : World} {ps : List PK} {vs : List Value} {tvs : List TV} {bs : List Nat} (h : RepArgs A w ps vs tvs bs) : ∀ (i id : Nat) (k : Blk), (id, k) ∈ entM i ps tvs →
    ∃ (j b n : Nat) (x : U.R n) (cs : Array Value) (el : Nat), (boxIds i ps)[j]? = some id ∧ bs[j]? = some b ∧ k = .box 0 (cellsOf fuel ⟨.named n, x⟩) ∧ w.heap[b]? = some (Obj.cells cs el (0, 0)) ∧ RepC A w (.named n) x cs.toList := by
  induction h with
  | nil => intro i id k h; cases h
  | val t x v ps vs tvs bs h k ih => intro i id kk hm; exact ih (i + 1) id kk hm
  | rd t x b off cs ps vs tvs bs hAb hc h k ih => intro i id kk hm; exact ih (i + 1) id kk hm
  | clo f t x b off cs ps vs tvs bs hAb hc h k ih => intro i id kk hm; exact ih (i + 1) id kk hm
  | box n x b cs el ps vs tvs bs hh h k ih =>
    intro i id kk hm; rcases List.mem_cons.1 hm with hm | hm
    · simp only [Prod.mk.injEq] at hm; obtain ⟨rfl, rfl⟩ := hm; exact ⟨0, b, n, x, cs, el, rfl, rfl, rfl, hh, h⟩
    · obtain ⟨j, b', n', x', cs', el', h1, h2, h3⟩ := ih (i + 1) id kk hm; exact ⟨j + 1, b', n', x', cs', el', by simpa [boxIds] using h1, by simpa using h2, h3⟩

def tab : List Nat → List Nat → Nat → Option Nat
  | i :: is, b :: bs, j => if i = j then some b else tab is bs j
  | _, _, _ => none

omit U in
theorem tab_some : ∀ {is bs : List Nat} {i b : Nat}, tab is bs i = some b → ∃ j : Nat, is[j]? = some i ∧ bs[j]? = some b := by
  intro is
  induction is with
  | nil => intro bs i b h; simp [tab] at h
  | cons x is ih =>
    intro bs i b h
    cases bs with
    | nil => simp [tab] at h
    | cons y bs =>
      simp only [tab] at h; split at h
      · rename_i e; subst e; obtain rfl := Option.some.inj h; exact ⟨0, rfl, rfl⟩
      · obtain ⟨j, h1, h2⟩ := ih h; exact ⟨j + 1, by simpa using h1, by simpa using h2⟩

omit U in
theorem tab_get : ∀ {is bs : List Nat} {j i b : Nat}, is.Nodup → is[j]? = some i → bs[j]? = some b → tab is bs i = some b := by
  intro is
  induction is with
  | nil => intro bs j i b _ h; simp at h
  | cons x is ih =>
    intro bs j i b hnd h1 h2
    cases bs with
    | nil => simp at h2
    | cons y bs =>
      simp only [tab]
      cases j with
      | zero =>
        simp only [List.getElem?_cons_zero, Option.some.injEq] at h1 h2; rw [if_pos h1, h2]
      | succ j =>
        simp only [List.getElem?_cons_succ] at h1 h2; have := List.nodup_cons.1 hnd; rw [if_neg (fun e => this.1 (by rw [e]; exact List.mem_of_getElem? h1))]; exact ih this.2 h1 h2

theorem ent_sound {A : Nat → Prop} {w : World} {ps : List PK} {vs : List Value} {tvs : List TV} {bs : List Nat} {N : Nat} (h : RepArgs A w ps vs tvs bs) (hN : ps.length ≤ N) (hN2 : N ≤ OFF)
    (hA : ∀ b, A b → b < w.heap.size ∧ b ∉ bs) (hb : ∀ b, b ∈ bs → b < w.heap.size) (hnd : bs.Nodup) (hl : Laid w bs) :
    Sim { w0 := w, A0 := A, bs, wf := hA, wb := hb, lay := hl, par := tab (boxIds 0 ps) bs } N (lookS (entS 0 ps tvs)) (lookM (entM 0 ps tvs))
      { tmps := vs.toArray ++ Array.replicate (N - vs.toArray.size) undef, defers := [] } w := by
  obtain ⟨h1, h2, h3, h4⟩ := h.types; have hids := boxIds_nodup ps 0
  have hlt : tvs.length = ps.length := by have := congrArg List.length h1; simpa using this
  (have hkn : ((entM 0 ps tvs).map (·.1)).Nodup := by rw [entM_keys ps tvs 0 hlt]; exact hids); refine ⟨⟨fun i => (tab (boxIds 0 ps) bs i).map fun b => (b, 0), fun _ => none⟩, ?_⟩
  have hβ : ∀ {i b C}, (tab (boxIds 0 ps) bs i).map (fun b => (b, 0)) = some (b, C) → ∃ j : Nat, (boxIds 0 ps)[j]? = some i ∧ bs[j]? = some b := by
    intro i b C e
    cases ht : tab (boxIds 0 ps) bs i with
    | none => rw [ht] at e; simp at e
    | some c =>
      rw [ht] at e; simp only [Option.map_some, Option.some.injEq, Prod.mk.injEq] at e; obtain ⟨rfl, _⟩ := e; exact tab_some ht
  have hmemid : ∀ {j i : Nat}, (boxIds 0 ps)[j]? = some i → ∃ k, lookM (entM 0 ps tvs) i = some k ∧ k.isBox = true := by
    intro j i hj; have : i ∈ (entM 0 ps tvs).map (·.1) := by rw [entM_keys ps tvs 0 hlt]; exact List.mem_of_getElem? hj
    obtain ⟨⟨i', k⟩, hm, rfl⟩ := List.mem_map.1 this
    obtain ⟨_, _, n, x, _, _, _, _, rfl, _⟩ := ent_boxes h 0 i' k hm; exact ⟨_, mem_lookM hkn hm, rfl⟩
  have hallow : ∀ b, A b → b < w.heap.size ∧ (A b ∨ w.heap.size ≤ b) ∧ (∀ i C, (tab (boxIds 0 ps) bs i).map (fun b => (b, 0)) ≠ some (b, C)) ∧ (none : Option Nat) = none := by
    intro b hb'; refine ⟨(hA b hb').1, .inl hb', fun i C e => ?_, rfl⟩; obtain ⟨j, _, h6⟩ := hβ e; exact (hA b hb').2 (List.mem_of_getElem? h6)
  exact {
    defers := ⟨fun d hd => (by cases hd), List.nodup_nil, fun b o e => (by cases e)⟩
    size := by simp only [Array.size_append, List.size_toArray, Array.size_replicate]; omega
    hN := hN2
    os := rfl, tape := rfl, output := ⟨rfl, Nat.le_refl _⟩, grow := Nat.le_refl _, old := fun _ _ _ => rfl
    dom := by
      intro i b C e; obtain ⟨j, h5, h6⟩ := hβ e; obtain ⟨k, hk, hkb⟩ := hmemid h5; have hm := List.mem_of_getElem? h6; exact ⟨⟨k, hk, fun _ => hkb⟩, hb b hm, .inl hm⟩
    inj := by
      intro i j b C D hi hj; obtain ⟨p, p1, p2⟩ := hβ hi; obtain ⟨q, q1, q2⟩ := hβ hj; have hlp := (List.getElem?_eq_some_iff.1 p2).1; have hlq := (List.getElem?_eq_some_iff.1 q2).1; have : p = q := (List.getElem?_inj hlp hnd).1 (p2.trans q2.symm)
      subst this
      rw [p1] at q1; exact Option.some.inj q1
    own := fun b i e => by cases e
    blk := by
      intro i k hk; obtain ⟨j, b, n, x, cs, el, e1, e2, rfl, e4, e5⟩ := ent_boxes h 0 i k (lookM_mem hk); have e5' := e5.mono (A' := fun b => b < w.heap.size ∧ (A b ∨ w.heap.size ≤ b) ∧ (∀ i C, (tab (boxIds 0 ps) bs i).map (fun b => (b, 0)) ≠ some (b, C)) ∧ (none : Option Nat) = none) (w' := w) fun b hb' => ⟨hallow b hb', rfl⟩; obtain ⟨c1, c2⟩ := cellsOf_rep (β := ⟨fun i => (tab (boxIds 0 ps) bs i).map fun b => (b, 0), fun _ => none⟩) (mem := lookM (entM 0 ps tvs)) fuel e5'; refine ⟨b, 0, cs, el, by simp only [tab_get hids e1 e2]; rfl, e4, by rw [c1]; simp, fun j sv hj => ?_⟩; (have hj' : j < cs.toList.length := by rw [← c1]; exact (List.getElem?_eq_some_iff.1 hj).1); exact ⟨cs.toList[j], by simpa using hj', e5.one _ (List.getElem_mem hj'), c2 j sv _ hj (List.getElem?_eq_getElem hj')⟩
    slot := by
      intro s; refine ent_slots (A := A) hallow h 0 (fun j id b e1 e2 => ?_) s _ fun _ => ?_
      · obtain ⟨k, hk, _⟩ := hmemid e1; exact ⟨⟨0, by simp only [tab_get hids e1 e2]; rfl⟩, k, hk⟩
      · simp only [Nat.sub_zero]; unfold slotV; split
        · by_cases hs : s < vs.length
          · simp [hs, Array.getElem?_append]
          · simp only [Array.getD_eq_getD_getElem?, Array.getElem?_append, List.getD_eq_getElem?_getD]; rw [if_neg (by simpa using hs), List.getElem?_eq_none (by omega)]; simp only [Array.getElem?_replicate]; split <;> rfl
        · rename_i hge; rw [List.getD_eq_getElem?_getD, List.getElem?_eq_none (by omega)]; rfl
    par := by
      intro i c hc; obtain ⟨j, b, n, x, cs, el, e1, e2, _⟩ := ent_boxes h 0 i _ (lookM_mem hc)
      exact ⟨b, 0, tab_get hids e1 e2, by simp only [tab_get hids e1 e2]; rfl⟩ }

end Go.Am
