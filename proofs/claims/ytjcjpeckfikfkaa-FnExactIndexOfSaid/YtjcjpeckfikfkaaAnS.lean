/-
  An, part S: functions that write into a tree, and lay nothing (the laws' marks).
-/
import Derived.Test.YtjcjpeckfikfkaaAnR
set_option linter.all false
namespace Go.Am
variable [U : Univ]
attribute [local irreducible] OFF

theorem RepO.small {w : World} {t : Ty} {x : t.den} {cs : List Value} {S : Nat → Prop} (h : RepO w t x cs S) : RepO w t x cs (fun c => S c ∧ c < w.heap.size) := by
  refine RepO.rec (motive_1 := fun t x cs S _ => RepO w t x cs (fun c => S c ∧ c < w.heap.size)) (motive_2 := fun l cs S _ => RepOL w l cs (fun c => S c ∧ c < w.heap.size)) ?_ ?_ ?_ ?_ ?_ ?_ ?_ ?_ h
  · intro k n S lo hi; exact .int k n _ lo hi
  · intro b S; exact .bool b _
  · intro s S h; exact .str s _ h
  · intro n x cs S _ ih; exact .named n x cs _ ih
  · intro t S; exact .nil t _
  · intro t xs b cap cs el css T S hl hh hs hcap hb hlen hc hS hd _ ih
    exact .slice t xs b cap cs el css (fun i c => T i c ∧ c < w.heap.size) _ hl hh hs hcap ⟨hb, (Array.getElem?_eq_some_iff.1 hh).1⟩ hlen hc (fun i c hi hT => ⟨⟨(hS i c hi hT.1).1, hT.2⟩, (hS i c hi hT.1).2⟩)
      (fun i j c hi hj h1 h2 => hd i j c hi hj h1.1 h2.1) ih
  · intro S; exact .nil _
  · intro t x r cs ds S1 S2 S _ _ h1 h2 hd ih1 ih2; exact .cons t x r cs ds _ _ _ ih1 ih2 (fun c hc => ⟨h1 c hc.1, hc.2⟩) (fun c hc => ⟨h2 c hc.1, hc.2⟩) (fun c h3 h4 => hd c h3.1 h4.1)

theorem RepOL.monoL {w w' : World} {l : List TV} : ∀ {cs : List Value} {S S' : Nat → Prop}, RepOL w l cs S → (∀ b, S b → S' b ∧ w'.heap[b]? = w.heap[b]?) → RepOL w' l cs S' := by
  induction l with
  | nil => intro cs S S' h _; cases h; exact .nil _
  | cons tv r ih =>
    intro cs S S' h hS
    cases h with
    | cons t x r cs ds S1 S2 S h k h1 h2 hd =>
      exact .cons t x r cs ds S1 S2 S' (h.mono fun c hc => ⟨hc, (hS c (h1 c hc)).2⟩) (ih k fun c hc => ⟨hc, (hS c (h2 c hc)).2⟩) (fun c hc => (hS c (h1 c hc)).1) (fun c hc => (hS c (h2 c hc)).1) hd

theorem RepOL.focus {w : World} {l : List TV} {cs : List Value} {S : Nat → Prop} (h : RepOL w l cs S) (f : Nat) {t : Ty} {x : t.den} (hf : l[f]? = some ⟨t, x⟩) :
    ∃ S1 : Nat → Prop, (∀ c, S1 c → S c) ∧ RepO w t x ((cs.drop ((((l.map Sigma.fst).take f).map Ty.size).sum)).take t.size) S1 ∧
      ∀ (w' : World) (n : Nat) (y : t.den), (∀ c, S c → c < n) → (∀ c, S c → ¬ S1 c → w'.heap[c]? = w.heap[c]?) → RepO w' t y ((cs.drop ((((l.map Sigma.fst).take f).map Ty.size).sum)).take t.size) (fun c => S1 c ∨ n ≤ c) → RepOL w' (l.set f ⟨t, y⟩) cs (fun c => S c ∨ n ≤ c) := by
  induction f generalizing l cs S with
  | zero =>
    cases h with
    | nil => simp at hf
    | cons u z r cs es S1 S2 S h k h1 h2 hd12 =>
      simp only [List.getElem?_cons_zero, Option.some.injEq] at hf; obtain rfl : u = t := congrArg Sigma.fst hf; (obtain rfl : z = x := by simpa using hf); have hl := h.length; simp only [List.set_cons_zero, List.take_zero, List.map_nil, List.sum_nil, List.drop_zero]; rw [List.take_append_of_le_length (by omega), List.take_of_length_le (by omega)]; refine ⟨S1, h1, h, fun w' n y hn hfr hr => .cons u y r cs es _ S2 _ hr (k.monoL fun c hc => ⟨hc, hfr c (h2 c hc) fun h3 => hd12 c h3 hc⟩) ?_ (fun c hc => .inl (h2 c hc)) ?_⟩
      · rintro c (hc | hc)
        · exact .inl (h1 c hc)
        · exact .inr hc
      · rintro c (hc | hc) h3
        · exact hd12 c hc h3
        · have := hn c (h2 c h3); omega
  | succ f ih =>
    cases h with
    | nil => simp at hf
    | cons u z r cs es S1 S2 S h k h1 h2 hd12 =>
      simp only [List.getElem?_cons_succ] at hf; have hl := h.length; obtain ⟨S3, g1, g2, g3⟩ := ih k hf; simp only [List.set_cons_succ, List.map_cons, List.take_succ_cons, List.sum_cons]; rw [← hl, ← List.drop_drop, List.drop_left]
      refine ⟨S3, fun c hc => h2 c (g1 c hc), g2, fun w' n y hn hfr hr => .cons u z _ cs es S1 _ _ (h.mono fun c hc => ⟨hc, hfr c (h1 c hc) fun h3 => hd12 c hc (g1 c h3)⟩)
        (g3 w' n y (fun c hc => hn c (h2 c hc)) (fun c hc h4 => hfr c (h2 c hc) h4) hr) (fun c hc => .inl (h1 c hc)) ?_ ?_⟩
      · rintro c (hc | hc)
        · exact .inl (h2 c hc)
        · exact .inr hc
      · rintro c h3 (hc | hc)
        · exact hd12 c h3 hc
        · have := hn c (h1 c h3); omega
theorem RepO.focus {w : World} (p : List Nat) : ∀ {t : Ty} {x : t.den} {cs : List Value} {u : Ty} {y : u.den} {S : Nat → Prop}, RepO w t x cs S → follow ⟨t, x⟩ p = some ⟨u, y⟩ →
    ∃ (o : Nat) (S1 : Nat → Prop), pathOff t p = some (o, u) ∧ o + u.size ≤ cs.length ∧ (∀ c, S1 c → S c) ∧ RepO w u y ((cs.drop o).take u.size) S1 ∧
      ∀ (w' : World) (n : Nat) (z : u.den), (∀ c, S c → c < n) → (∀ c, S c → ¬ S1 c → w'.heap[c]? = w.heap[c]?) → RepO w' u z ((cs.drop o).take u.size) (fun c => S1 c ∨ n ≤ c) →
        ∃ x' : t.den, updAt ⟨t, x⟩ p ⟨u, z⟩ = some ⟨t, x'⟩ ∧ RepO w' t x' cs (fun c => S c ∨ n ≤ c) := by
  induction p with
  | nil =>
    intro t x cs u y S h hf; simp only [follow, Option.some.injEq] at hf; obtain rfl : t = u := congrArg Sigma.fst hf; (obtain rfl : x = y := by simpa using hf); (have e : (cs.drop 0).take t.size = cs := by rw [List.drop_zero, List.take_of_length_le (by rw [h.length]; omega)]); refine ⟨0, S, rfl, by simp [h.length], fun _ h => h, by rw [e]; exact h, fun w' n z _ _ hr => ⟨z, by simp [updAt], ?_⟩⟩; rw [e] at hr; exact hr
  | cons f p ih =>
    intro t x cs u y S h hf
    cases t with
    | named n =>
      obtain ⟨x, rfl⟩ : ∃ y : U.R n, y = x := ⟨x, rfl⟩; simp only [follow] at hf; split at hf
      · rename_i tv htv; obtain ⟨t', x'⟩ := tv; have hfl := (h.repC (A := S) fun _ h => h).field htv
        cases h with
        | named n x cs S h =>
          have hgt : (U.get n x).map Sigma.fst = U.tys n := U.get_tys n x; (have hof : offsetOf n f = ((((U.get n x).map Sigma.fst).take f).map Ty.size).sum := by rw [hgt]; rfl); (have ht : (U.tys n)[f]? = some t' := by rw [← U.get_tys n x, List.getElem?_map, htv]; rfl); obtain ⟨S1, g1, g2, g3⟩ := h.focus f htv; rw [← hof] at g2 g3; obtain ⟨o, S2, k1, k2, k3, k4, k5⟩ := ih g2 hf
          have e : ((((cs.drop (offsetOf n f)).take t'.size).drop o).take u.size) = (cs.drop (offsetOf n f + o)).take u.size := by
            rw [List.length_take] at k2; rw [List.drop_take, List.take_take, List.drop_drop, Nat.min_eq_left (by omega)]
          rw [List.length_take, List.length_drop] at k2; rw [e] at k4 k5; refine ⟨offsetOf n f + o, S2, by simp [pathOff, ht, k1], by omega, fun c hc => g1 c (k3 c hc), k4, fun w' m z hm hfr hr => ?_⟩; obtain ⟨z', e1, e2⟩ := k5 w' m z (fun c hc => hm c (g1 c hc)) (fun c hc h2 => hfr c (g1 c hc) h2) hr; have e3 := g3 w' m z' hm (fun c hc h2 => hfr c hc fun h4 => h2 (k3 c h4)) e2; refine ⟨U.bld n ((U.get n x).set f ⟨t', z'⟩), by simp only [updAt, htv, e1], .named n _ _ _ ?_⟩
          have hget : U.get n (U.bld n ((U.get n x).set f ⟨t', z'⟩)) = (U.get n x).set f ⟨t', z'⟩ := by
            refine U.get_bld n _ ?_; rw [List.map_set, U.get_tys]; apply List.ext_getElem?; intro i; rw [List.getElem?_set]; split
            · rename_i e; subst e; rw [ht]; have : f < (U.tys n).length := (List.getElem?_eq_some_iff.1 ht).1; simp [this]
            · rfl
          rw [hget]; exact e3
      · simp at hf
    | _ => simp [follow] at hf

structure MarkC (P : Program) (f : FuncId) (u : Ty) (pre : List u.den → Int → Prop) (mk : List u.den → Int → List u.den × Int) : Prop where
  fn : ∃ fn c, P.funcs[f]? = some fn ∧ (fn.name == "runtime.NumGoroutine") = false ∧ fn.body = some c
  len : ∀ xs k, (mk xs k).1.length = xs.length
  row : ∀ (w : World) (v : Value) (xs : List u.den) (k : Int) (S : Nat → Prop), RepO w (.slice u) xs [v] S → inR .i64 k → pre xs k → (∀ c, S c → c < w.heap.size) →
    Calls P f #[v, .int .i64 k] w fun e w' => e = .returned (.int .i64 (mk xs k).2) ∧ inR .i64 (mk xs k).2 ∧ w'.os = w.os ∧ w'.tape = w.tape ∧ (w'.output = w.output ∧ U.dr w.drawn ≤ U.dr w'.drawn) ∧
      (∀ c, c < w.heap.size → ¬ S c → w'.heap[c]? = w.heap[c]?) ∧ RepO w' (.slice u) (mk xs k).1 [v] (fun c => S c ∨ w.heap.size ≤ c)

section
variable {E : Ent} {N : Nat} {P : Program} {C : Ctx} {ops : Array Oper} {Q : Exit → St → Prop} {st : St} {a : Act} {w : World} {β : Bind} {env : Nat → SV} {mem : Nat → Option Blk}

theorem SimB.marked (h : SimB E N env mem a w β) {w' : World} {id ep : Nat} {u : Ty} {xs ys : List u.den} {v : Value} (hm : mem id = some (.tree ep u xs)) (hlen : ys.length = xs.length)
    (hv : SliceAt (β id) u.size 0 xs.length v) (S : Nat → Prop) (hS : ∀ c, S c → Held β id c)
    (hos : w'.os = w.os) (htape : w'.tape = w.tape) (hout : w'.output = w.output ∧ U.dr w.drawn ≤ U.dr w'.drawn) (hheap : ∀ c, c < w.heap.size → ¬ S c → w'.heap[c]? = w.heap[c]?)
    (hr : RepO w' (.slice u) ys [v] (fun c => Held β id c ∨ w.heap.size ≤ c)) : ∃ β', SimB E N env (setm mem id (.tree ep u ys)) a w' β' := by
  classical
  have hb0 : ∀ c, c < w.heap.size → w'.heap[c]? = w.heap[c]? → c < w'.heap.size := fun c hc e => by
    rw [Array.getElem?_eq_getElem hc] at e; exact (Array.getElem?_eq_some_iff.1 e).1
  have hout' : ∀ c, c < w.heap.size → ¬ Held β id c → w'.heap[c]? = w.heap[c]? := fun c hc hn => hheap c hc fun h => hn (hS c h)
  -- the new tree's blocks
  obtain ⟨T, hT1, hT2, hblk⟩ : ∃ T : Nat → Prop, (∀ c, T c → (β.own c = some id ∨ w.heap.size ≤ c) ∧ c < w'.heap.size) ∧ (∀ c D, β id = some (c, D) → ¬ T c ∧ c < w'.heap.size) ∧
      ∀ (A : Nat → Prop) (β' : Bind) (mem' : Nat → Option Blk), β' id = β id → (∀ c, T c → β'.own c = some id) → RepBlk A w' β' mem' id (.tree ep u ys) := by
    have hr' := hr.small; generalize hvs : [v] = vs at hr'; generalize hyy : (ys : List u.den) = zs at hr'
    cases hr' with
    | nil =>
      refine ⟨fun _ => False, by simp, fun c D e => ?_, fun A β' mem' hb _ => ⟨by simp, ?_⟩⟩
      · rw [e] at hv; obtain ⟨p, rfl, _⟩ := hv; simp at hvs
      · cases e : β id with
        | none => exact .inl ⟨hb.trans e, rfl⟩
        | some bc =>
          rw [e] at hv; obtain ⟨p, rfl, _⟩ := hv; simp at hvs
    | slice _ _ b cap cs el css T S2 hl hh hsz hcap hSb hlen' hc hTS hd hrr =>
      subst hyy
      have hbid : β id = some (b, cap) := by
        cases e : β id with
        | none =>
          rw [e] at hv; obtain ⟨_, _, rfl⟩ := hv; simp at hvs
        | some bc =>
          obtain ⟨b', D⟩ := bc; rw [e] at hv; obtain ⟨p, rfl, hle, hp⟩ := hv; obtain rfl := hp (.inl rfl); simp only [List.cons.injEq, Value.slice.injEq, Option.some.injEq, Addr.mk.injEq, and_true] at hvs; obtain ⟨⟨rfl, _⟩, _, rfl⟩ := hvs; simp
      refine ⟨fun c => ∃ i, i < ys.length ∧ T i c, fun c ⟨i, hi, hTc⟩ => ?_, fun c D e => ?_, fun A β' mem' hb ho => ⟨hl, .inr ⟨b, cap, cs, el, css, T, hb.trans hbid, hh, hsz, hcap, fun k c hk hc => ho c ⟨k, hk, hc⟩, fun j k c hj hk => hd j k c hj hk, fun k hk => ⟨hlen' k hk, fun j v hj => hc k j v hk hj, hrr k hk⟩⟩⟩⟩
      · obtain ⟨⟨h1, h2⟩, h3⟩ := hTS i c hi hTc; refine ⟨?_, h2⟩; rcases h1 with ⟨⟨D, e⟩ | e⟩ | h1
        · rw [hbid] at e; simp only [Option.some.injEq, Prod.mk.injEq] at e; exact absurd e.1.symm h3
        · exact .inl e
        · exact .inr h1
      · rw [hbid] at e; simp only [Option.some.injEq, Prod.mk.injEq] at e; obtain ⟨rfl, _⟩ := e; exact ⟨fun ⟨i, hi, hTc⟩ => (hTS i b hi hTc).2 rfl, (Array.getElem?_eq_some_iff.1 hh).1⟩
  obtain ⟨β', b1, b2, b3, b4⟩ : ∃ β' : Bind, (∀ i, β' i = β i) ∧ (∀ c, T c → β'.own c = some id) ∧ (∀ c i, i ≠ id → β.own c = some i → β'.own c = some i) ∧ ∀ c i, β'.own c = some i → (i = id ∧ T c) ∨ (i ≠ id ∧ β.own c = some i) := by
    refine ⟨⟨β.m, fun c => if T c then some id else if β.own c = some id then none else β.own c⟩, fun _ => rfl, fun c h => if_pos h, fun c i hne h => ?_, fun c i h => ?_⟩
    · have hnT : ¬ T c := fun hT => by
        rcases (hT1 c hT).1 with e | e
        · rw [h] at e; exact hne (Option.some.inj e)
        · have := (‹SimB E N env mem a w β›.own c i h).2.1; omega
      show (if T c then some id else if β.own c = some id then none else β.own c) = some i; rw [if_neg hnT, if_neg (by rw [h]; exact fun e => hne (Option.some.inj e)), h]
    · change (if T c then some id else if β.own c = some id then none else β.own c) = some i at h; by_cases hT : T c
      · rw [if_pos hT] at h; exact .inl ⟨(Option.some.inj h).symm, hT⟩
      · rw [if_neg hT] at h; by_cases ho : β.own c = some id
        · rw [if_pos ho] at h; cases h
        · rw [if_neg ho] at h; exact .inr ⟨fun e => ho (by rw [h, e]), h⟩
  have hA : ∀ b, allow E w β b → allow E w' β' b ∧ w'.heap[b]? = w.heap[b]? := by
    rintro b ⟨h1, h2, h3, h4⟩
    have hnh : ¬ Held β id b := by
      rintro (⟨D, e⟩ | e)
      · exact h3 id D e
      · rw [h4] at e; cases e
    have e1 := hout' b h1 hnh; refine ⟨⟨hb0 b h1 e1, h2, fun i C => by rw [b1]; exact h3 i C, ?_⟩, e1⟩
    cases ho : β'.own b with
    | none => rfl
    | some i =>
      rcases b4 b i ho with ⟨_, hT⟩ | ⟨_, e⟩
      · rcases (hT1 b hT).1 with e | e
        · rw [h4] at e; cases e
        · omega
      · rw [h4] at e; cases e
  have hmm : ∀ i k0, mem i = some k0 → ∃ k', setm mem id (.tree ep u ys) i = some k' ∧ k0.ep ≤ k'.ep ∧ (k0.ep = k'.ep → k0.alike k' ∧ β' i = β i) := by
    intro i k0 hk0; by_cases hi : i = id
    · subst hi; rw [hm] at hk0; obtain rfl := Option.some.inj hk0; exact ⟨_, setm_same _ _ _, Nat.le_refl _, fun _ => ⟨⟨rfl, hlen.symm⟩, b1 _⟩⟩
    · exact ⟨k0, by rw [setm_ne _ _ hi]; exact hk0, Nat.le_refl _, fun _ => ⟨k0.alike_refl, b1 _⟩⟩
  have hid : ∀ i b D, i ≠ id → β i = some (b, D) → w'.heap[b]? = w.heap[b]? := by
    intro i b D hi e; refine hout' b (h.dom i b D e).2.1 ?_; rintro (⟨D', e'⟩ | e')
    · exact hi (h.inj i id b D D' e e')
    · exact (h.own b id e').2.2.2 i D e
  have hown : ∀ i c, i ≠ id → β.own c = some i → w'.heap[c]? = w.heap[c]? := by
    intro i c hi e; refine hout' c (h.own c i e).2.1 ?_; rintro (⟨D', e'⟩ | e')
    · exact (h.own c i e).2.2.2 id D' e'
    · rw [e] at e'; exact hi (Option.some.inj e')
  refine ⟨β', { defers := h.defers.mono hA, size := h.size, hN := h.hN, os := hos.trans h.os, tape := htape.trans h.tape, output := ⟨hout.1.trans h.output.1, Nat.le_trans h.output.2 hout.2⟩, grow := ?_, old := ?_, dom := ?_, inj := ?_, own := ?_, blk := ?_, slot := fun s => (h.slot s).mono hA hmm, par := ?_ }⟩
  · rcases Nat.eq_zero_or_pos E.w0.heap.size with h0 | h0
    · omega
    · have hlt : E.w0.heap.size - 1 < w.heap.size := by have := h.grow; omega
      have hnh : ¬ Held β id (E.w0.heap.size - 1) := by
        rintro (⟨D, e⟩ | e)
        · obtain ⟨⟨k, hk, hkb⟩, _, h3⟩ := h.dom id _ D e; rcases h3 with h3 | h3
          · rw [hm] at hk; obtain rfl := Option.some.inj hk; have := hkb h3
            cases this
          · omega
        · have := (h.own _ id e).2.2.1; omega
      have := hb0 _ hlt (hout' _ hlt hnh); omega
  · intro b hb hn; (have hlt : b < w.heap.size := by have := h.grow; omega); refine (hout' b hlt ?_).trans (h.old b hb hn); rintro (⟨D, e⟩ | e)
    · rcases (h.dom id b D e).2.2 with h3 | h3
      · exact hn h3
      · omega
    · have := (h.own b id e).2.2.1; omega
  · intro i b D e; rw [b1] at e; obtain ⟨⟨k, hk, hkb⟩, d2, d3⟩ := h.dom i b D e; by_cases hi : i = id
    · subst hi; rw [hm] at hk; obtain rfl := Option.some.inj hk; exact ⟨⟨_, setm_same _ _ _, hkb⟩, (hT2 b D e).2, d3⟩
    · exact ⟨⟨k, by rw [setm_ne _ _ hi]; exact hk, hkb⟩, hb0 b d2 (hid i b D hi e), d3⟩
  · intro i j b D D' hi hj; rw [b1] at hi hj; exact h.inj i j b D D' hi hj
  · intro c i e; rcases b4 c i e with ⟨rfl, hT⟩ | ⟨hi, e⟩
    · obtain ⟨g1, g2⟩ := hT1 c hT; refine ⟨⟨_, setm_same _ _ _, rfl⟩, g2, ?_, fun j D ej => ?_⟩
      · rcases g1 with g1 | g1
        · exact (h.own c i g1).2.2.1
        · have := h.grow; omega
      · rw [b1] at ej; rcases g1 with g1 | g1
        · exact (h.own c i g1).2.2.2 j D ej
        · have := (h.dom j c D ej).2.1; omega
    · obtain ⟨⟨k, hk, ht⟩, o2, o3, o4⟩ := h.own c i e; exact ⟨⟨k, by rw [setm_ne _ _ hi]; exact hk, ht⟩, hb0 c o2 (hown i c hi e), o3, fun j D ej => o4 j D (by rw [← b1]; exact ej)⟩
  · intro i k hk; by_cases hi : i = id
    · subst hi; rw [setm_same] at hk; obtain rfl := Option.some.inj hk; exact hblk _ β' _ (b1 i) b2
    · rw [setm_ne _ _ hi] at hk; exact (h.blk i k hk).mono hA hmm (b1 i) (fun b D e => hid i b D hi e) fun _ c hc => ⟨b3 c i hi hc, hown i c hi hc⟩
  · intro i c hc; by_cases hi : i = id
    · subst hi; rw [setm_same] at hc; cases hc
    · rw [setm_ne _ _ hi] at hc; obtain ⟨b, D, p1, p2⟩ := h.par i c hc; exact ⟨b, D, p1, by rw [b1]; exact p2⟩

theorem putGet {a : Act} {d : Nat} {v : Value} (hd : d < a.tmps.size) : (a.put (some d) v).tmps.getD d undef = v := by
  simp [Act.put, hd]

theorem putGet_ne {a : Act} {d e : Nat} {v : Value} (hne : e ≠ d) : (a.put (some d) v).tmps.getD e undef = a.tmps.getD e undef := by
  simp [Act.put, Array.getElem?_setIfInBounds_ne (Ne.symm hne)]

theorem st_putE (st : St) (d : Nat) (sv : SV) (m : List (Nat × Blk)) : (⟨(d, sv) :: st.slots, m⟩ : St).env = putE st.env (some d) sv := by
  funext s; show lookS _ s = _; simp only [lookS, putE]; rfl

theorem st_setm (l : List (Nat × SV)) (st : St) (id : Nat) (k : Blk) : (⟨l, (id, k) :: st.mem⟩ : St).memf = setm st.memf id k := by
  funext y; show lookM _ y = _; simp only [lookM, setm]; rfl

theorem AWO.mark {f : FuncId} {u : Ty} {pre : List u.den → Int → Prop} {mk : List u.den → Int → List u.den × Int} (hM : MarkC P f u pre mk) {i : Nat} {rest : List Nat} {d : Nat} {x y : Operand} {ats : Array TypeId} {type : TypeId} {pos : String} {after : Array Edge}
    {id ep : Nat} {xs : List u.den} {k : Int} {l : List Nat} (hl : l = i :: rest) (ho : ops[i]? = some ⟨some d, .call ⟨.value (.func f), #[x, y], ats⟩, type, pos, after, none⟩) (hd : dstOK N (some d) = true)
    (hx : opv st.env x = (.tr id ep, [])) (hy : opv st.env y = (.int .i64 k, [])) (hm : st.memf id = some (.tree ep u xs)) (hp : pre xs k)
    (h : AWO P E N ops rest Q ⟨(d, .int .i64 (mk xs k).2) :: st.slots, (id, .tree ep u (mk xs k).1) :: st.mem⟩) : AWO P E N ops l Q st := by
  rintro a w ⟨β, hs⟩; subst hl
  have hdN : ∀ d', some d = some d' → d' < N := by
    intro d' e; cases e; exact Nat.le_of_ble_eq_true hd
  obtain ⟨fn, c, hfn, hname, hb⟩ := hM.fn; have hxr := opv_rep hs hx (fun p hp => by cases hp); have hyr := opv_rep hs hy (fun p hp => by cases hp); generalize hxe : a.eval x = xv at hxr; generalize hye : a.eval y = yv at hyr
  cases hyr with
  | int _ _ lo hi =>
  cases hxr with
  | tr _ _ _ hmm h1 hv =>
    have hv := hv u xs (.of hm)
    have hrun : ∀ w, (execOp a.eval ⟨some d, .call ⟨.value (.func f), #[x, y], ats⟩, type, pos, after, none⟩).run P w = .ok (.enter f #[xv, .int .i64 k]) w := by
      intro w; simp only [execOp, resolve, Deferred.ofValue, Sem.run_bind, Sem.run_pure, Result.andThen_ok, invoke, callFunc, run_program, hfn, hname, hb, Bool.false_eq_true, if_false, Act.eval]; simp [hxe, hye]
    rw [wpOpsIn_cons]; unfold wpOpIn; simp only [ho]; rw [if_pos (by rfl)]; refine ⟨fun _ _ => trivial, ?_⟩; rw [Oper.semAt_eq _ _ _ (fun c e => by cases e), hrun w, Oper.uponIn_enter]; refine ⟨fun h => (by cases h), callsIn_fence ?_⟩; have hO := repO_tr hs hm hv; refine (hM.row w xv xs k (Held β id) hO ⟨lo, hi⟩ hp (fun c hc => ?_)).mono ?_
    · rcases hc with ⟨D, e⟩ | e
      · exact (hs.dom _ _ _ e).2.1
      · exact (hs.own _ _ e).2.1
    rintro e w' ⟨rfl, g0, g1, g2, g3, g4, g5⟩; obtain ⟨β', hs'⟩ := hs.marked hm (hM.len xs k) hv (Held β id) (fun _ h => h) g1 g2 g3 g4 g5; refine h _ w' ⟨β', ?_⟩; rw [st_setm, st_putE ⟨st.slots, st.mem⟩]; exact hs'.put hdN (.int _ _ g0.1 g0.2)

theorem AWO.markAt {f : FuncId} {u' : Ty} {pre : List u'.den → Int → Prop} {mk : List u'.den → Int → List u'.den × Int} (hM : MarkC P f u' pre mk) (hC : CtxTy P C) {i1 i2 i3 : Nat} {rest : List Nat} {d1 d2 d3 : Nat} {T : TypeId} {pa y : Operand} {ats : Array TypeId} {ty1 ty2 ty3 : TypeId} {pos1 pos2 pos3 : String} {af1 af2 af3 : Array Edge}
    {id ep i : Nat} {p : List Nat} {u : Ty} {xs : List u.den} {ys : List u'.den} {k : Int} {l : List Nat} (x' : u.den) (hl : l = i1 :: i2 :: i3 :: rest)
    (ho1 : ops[i1]? = some ⟨some d1, .load T pa, ty1, pos1, af1, none⟩) (ho2 : ops[i2]? = some ⟨some d2, .move y, ty2, pos2, af2, none⟩) (ho3 : ops[i3]? = some ⟨some d3, .call ⟨.value (.func f), #[.tmp d1, .tmp d2], ats⟩, ty3, pos3, af3, none⟩)
    (hd1 : dstOK N (some d1) = true) (hd2 : dstOK N (some d2) = true) (hd3 : dstOK N (some d3) = true) (hne : Nat.beq d1 d2 = false) (hT : C.ty T = some (.slice u'))
    (hpa : opv st.env pa = (.tref id ep i p, [])) (hy : opv (lookS ((d1, .top) :: st.slots)) y = (.int .i64 k, [])) (hm : st.memf id = some (.tree ep u xs))
    (hfo : follow ⟨u, xs.getD i u.zero⟩ p = some ⟨.slice u', ys⟩) (hup : updAt ⟨u, xs.getD i u.zero⟩ p ⟨.slice u', (mk ys k).1⟩ = some ⟨u, x'⟩) (hp : pre ys k)
    (h : AWO P E N ops rest Q ⟨(d3, .int .i64 (mk ys k).2) :: (d2, .int .i64 k) :: (d1, .top) :: st.slots, (id, .tree ep u (xs.set i x')) :: st.mem⟩) : AWO P E N ops l Q st := by
  rintro a w ⟨β, hs⟩; subst hl
  have hdN : ∀ d, dstOK N (some d) = true → ∀ d', some d = some d' → d' < N := by
    intro d hd d' e; cases e; exact Nat.le_of_ble_eq_true hd
  obtain ⟨fn, c, hfn, hname, hb⟩ := hM.fn; have hpr := opv_rep hs hpa (fun p hp => by cases hp); generalize hpe : a.eval pa = pv at hpr
  cases hpr with
  | tref _ _ _ _ b o hmm hv =>
    obtain ⟨hlt, D, q, u2, hbid, hpo, rfl⟩ := hv u xs (.of hm); obtain ⟨hlim, ⟨hb0, _⟩ | ⟨b', D', cs, el, css, T', hb0, hh, hsz, hD, hT1, hT2, hel⟩⟩ := hs.blk id _ hm
    · rw [hbid] at hb0; cases hb0
    rw [hbid] at hb0; (obtain ⟨rfl, rfl⟩ : b = b' ∧ D = D' := by simpa using hb0); obtain ⟨e1, e2, e3⟩ := hel i hlt; rw [show xs.getD i u.zero = xs[i] by simp [hlt]] at hfo hup; obtain ⟨o', S1, ho', hle', hS1, hO, hchg⟩ := RepO.focus p e3 hfo; rw [ho'] at hpo; obtain ⟨rfl, rfl⟩ : o' = q ∧ Ty.slice u' = u2 := by simpa using hpo
    -- the header
    have hcl : ((((css i).drop o').take (Ty.slice u').size)).length = 1 := hO.length; obtain ⟨hdr, hhdr⟩ := List.length_eq_one_iff.1 hcl
    have hcell : w.cell? ⟨b, i * u.size + o', none⟩ = some hdr := by
      have : ((((css i).drop o').take (Ty.slice u').size))[0]? = some hdr := by rw [hhdr]; rfl
      rw [List.getElem?_take, List.getElem?_drop] at this
      split at this
      · have := e2 _ _ this
        simp [World.cell?, hh]
        exact this
      · cases this
    have hld : (loadVar T ⟨b, i * u.size + o', none⟩).run P w = .ok hdr w := by
      have := (hC T _ hT).loadVar (w := w) (b := b) (off := i * u.size + o') (cs := [hdr]) rfl (fun j v hj => by
        match j, hj with
        | 0, hj => simp at hj; subst hj; exact hcell)
      simpa [valOf, Ty.isNamed] using this
    rw [hhdr] at hO hchg
    -- the load
    have hr1 : (execOp a.eval ⟨some d1, .load T pa, ty1, pos1, af1, none⟩).run P w = .ok (.value hdr) w := by
      simp [execOp, hpe, Instr.loadAt, Instr.sureAddr, hld]
    rw [wpOpsIn_cons]; unfold wpOpIn; simp only [ho1]; rw [if_pos (by rfl)]; refine ⟨fun _ _ => trivial, ?_⟩; rw [Oper.semAt_eq _ _ _ (fun c e => by cases e), hr1]; have s1 := hs.put (hdN d1 hd1) (sv := .top) (v := hdr) (.top _)
    -- the move
    have henv1 : (lookS ((d1, .top) :: st.slots)) = putE st.env (some d1) .top := st_putE st d1 .top st.mem; rw [henv1] at hy; have hyr := opv_rep s1 hy (fun p hp => by cases hp); show wpOpsIn E.fence 0 P ops (CQ E N Q) (i2 :: i3 :: rest) (a.put (some d1) hdr) w; generalize ha1 : a.put (some d1) hdr = a1 at s1 hyr; generalize hye : a1.eval y = yv at hyr
    cases hyr with
    | int _ _ lo hi =>
      have hr2 : (execOp a1.eval ⟨some d2, .move y, ty2, pos2, af2, none⟩).run P w = .ok (.value (.int .i64 k)) w := by
        simp [execOp, hye]
      rw [wpOpsIn_cons]; unfold wpOpIn; simp only [ho2]; rw [if_pos (by rfl)]; refine ⟨fun _ _ => trivial, ?_⟩; rw [Oper.semAt_eq _ _ _ (fun c e => by cases e), hr2]; have s2 := s1.put (hdN d2 hd2) (sv := .int .i64 k) (v := .int .i64 k) (.int _ _ lo hi); show wpOpsIn E.fence 0 P ops (CQ E N Q) (i3 :: rest) (a1.put (some d2) (.int .i64 k)) w; have hne' : d1 ≠ d2 := by rintro rfl; rw [show Nat.beq d1 d1 = true from Nat.beq_refl d1] at hne; cases hne
      have g1 : (a1.put (some d2) (.int .i64 k)).tmps.getD d1 undef = hdr := by
        rw [putGet_ne hne', ← ha1]; exact putGet (by rw [hs.size]; exact hdN d1 hd1 d1 rfl)
      have g2 : (a1.put (some d2) (.int .i64 k)).tmps.getD d2 undef = .int .i64 k := putGet (by rw [s1.size]; exact hdN d2 hd2 d2 rfl); generalize a1.put (some d2) (.int .i64 k) = a2 at s2 g1 g2
      -- the call
      have hr3 : (execOp a2.eval ⟨some d3, .call ⟨.value (.func f), #[.tmp d1, .tmp d2], ats⟩, ty3, pos3, af3, none⟩).run P w = .ok (.enter f #[hdr, .int .i64 k]) w := by
        simp only [execOp, resolve, Deferred.ofValue, Sem.run_bind, Sem.run_pure, Result.andThen_ok, invoke, callFunc, run_program, hfn, hname, hb, Bool.false_eq_true, if_false, Act.eval]; simp [Act.eval, g1, g2]
      rw [wpOpsIn_cons]; unfold wpOpIn; simp only [ho3]; rw [if_pos (by rfl)]; refine ⟨fun _ _ => trivial, ?_⟩; rw [Oper.semAt_eq _ _ _ (fun c e => by cases e), hr3, Oper.uponIn_enter]; refine ⟨fun h => (by cases h), callsIn_fence ?_⟩
      have hTlt : ∀ k c, k < xs.length → T' k c → c < w.heap.size ∧ c ≠ b := fun k c hk hc => by
        obtain ⟨_, o2, _, o4⟩ := hs.own c id (hT1 k c hk hc); exact ⟨o2, fun e => o4 id D (by rw [e]; exact hbid)⟩
      refine (hM.row w hdr ys k S1 hO ⟨lo, hi⟩ hp (fun c hc => (hTlt i c hlt (hS1 c hc)).1)).mono ?_; rintro e w' ⟨rfl, k0, k1, k2, k3, k4, k5⟩; obtain ⟨z, hz, hz2⟩ := hchg w' w.heap.size _ (fun c hc => (hTlt i c hlt hc).1) (fun c hc hn => k4 c (hTlt i c hlt hc).1 hn) k5; rw [hup] at hz; (obtain rfl : x' = z := by simpa using hz); have hbl : b < w.heap.size := (Array.getElem?_eq_some_iff.1 hh).1
      have hv : SliceAt (β id) u.size 0 xs.length (.slice (some ⟨b, 0, none⟩) xs.length D) := by
        rw [hbid]; exact ⟨⟨b, 0, none⟩, by simp, by omega, fun _ => by simp⟩
      obtain ⟨β', hs'⟩ := s2.marked (v := .slice (some ⟨b, 0, none⟩) xs.length D) hm (ys := xs.set i x') (by simp) hv S1 (fun c hc => .inr (hT1 i c hlt (hS1 c hc))) k1 k2 k3 k4 (by
        have := RepO.slice (w := w') u (xs.set i x') b D cs el css (fun k c => if k = i then (T' i c ∨ w.heap.size ≤ c) else T' k c) (fun c => Held β id c ∨ w.heap.size ≤ c) (by simpa using hlim)
          (by rw [k4 b hbl fun hc => (hTlt i b hlt (hS1 b hc)).2 rfl]; exact hh) hsz (by simpa using hD) (.inl (.inl ⟨D, hbid⟩)) (fun k hk => (hel k (by simpa using hk)).1) (fun k j v hk hj => (hel k (by simpa using hk)).2.1 j v hj)
          (fun k c hk hc => by
            (have hk : k < xs.length := by simpa using hk); by_cases hki : k = i
            · rw [if_pos hki] at hc; rcases hc with hc | hc
              · exact ⟨.inl (.inr (hT1 i c hlt hc)), (hTlt i c hlt hc).2⟩
              · exact ⟨.inr hc, by omega⟩
            · rw [if_neg hki] at hc
              exact ⟨.inl (.inr (hT1 k c hk hc)), (hTlt k c hk hc).2⟩)
          (fun j k c hj hk h1 h2 => by
            (have hj : j < xs.length := by simpa using hj); (have hk : k < xs.length := by simpa using hk); by_cases hji : j = i <;> by_cases hki : k = i
            · rw [hji, hki]
            · rw [if_pos hji] at h1; rw [if_neg hki] at h2; rcases h1 with h1 | h1
              · exact absurd (hT2 k i c hk hlt h2 h1) hki
              · have := (hTlt k c hk h2).1; omega
            · rw [if_neg hji] at h1; rw [if_pos hki] at h2; rcases h2 with h2 | h2
              · exact absurd (hT2 j i c hj hlt h1 h2) hji
              · have := (hTlt j c hj h1).1; omega
            · rw [if_neg hji] at h1; rw [if_neg hki] at h2
              exact hT2 j k c hj hk h1 h2)
          (fun k hk => by
            (have hk' : k < xs.length := by simpa using hk); by_cases hki : k = i
            · subst hki; simp only [↓reduceIte]; rw [show (xs.set k x')[k]'hk = x' by simp]; exact hz2
            · simp only [if_neg hki]; rw [show (xs.set i x')[k]'hk = xs[k]'hk' by simp [Ne.symm hki]]
              exact (hel k hk').2.2.mono fun c hc => ⟨hc, k4 c (hTlt k c hk' hc).1 fun h1 => hki (hT2 k i c hk' hlt hc (hS1 c h1))⟩)
        rw [List.length_set] at this
        exact this)
      refine h _ w' ⟨β', ?_⟩
      have e5 : (⟨(d3, .int .i64 (mk ys k).2) :: (d2, .int .i64 k) :: (d1, .top) :: st.slots, (id, .tree ep u (xs.set i x')) :: st.mem⟩ : St).env = putE (putE (putE st.env (some d1) .top) (some d2) (.int .i64 k)) (some d3) (.int .i64 (mk ys k).2) := by
        funext s; show lookS _ s = _; simp only [lookS, putE]; rfl
      rw [e5, st_setm]; exact hs'.put (hdN d3 hd3) (.int _ _ k0.1 k0.2)

def markQ (C : Ctx) (vars : List ResultVar) (u : Ty) (r : List u.den × Int) : Exit → St → Prop
  | .normal, st | .ret, st => (retSVs C st.env vars).eval st.memf = some [.int .i64 r.2] ∧ st.env OFF = .tr 0 1 ∧ st.memf 0 = some (.tree 1 u r.1)
  | _, _ => False

theorem MarkC.of_body (hglob : ∀ w bs, Laid w bs) {f : FuncId} {fn : Func} {c : Code} {u : Ty} {pre : List u.den → Int → Prop} {mk : List u.den → Int → List u.den × Int} (hf : P.funcs[f]? = some fn) (hname : (fn.name == "runtime.NumGoroutine") = false) (hb : fn.body = some c) (hC : CtxTy P C)
    (hN : (Nat.ble 2 fn.ntmps && Nat.ble fn.ntmps OFF) = true) (hlen : ∀ xs k, (mk xs k).1.length = xs.length)
    (h : ∀ xs k, (xs.length : Int) ≤ 4294967296 → inR .i64 k → pre xs k → ∀ E, AW P E fn.ntmps c (markQ C fn.results.toList u (mk xs k)) ⟨[(0, .tr 0 1), (1, .int .i64 k), (OFF, .tr 0 1)], [(0, .tree 1 u xs)]⟩) : MarkC P f u pre mk where
  fn := ⟨fn, c, hf, hname, hb⟩
  len := hlen
  row := by
    intro w v xs k S hO hk hp hS
    classical
    simp only [Bool.and_eq_true] at hN; have hN1 := Nat.le_of_ble_eq_true hN.1; have hN2 := Nat.le_of_ble_eq_true hN.2; (have hOFF : 1 < OFF := by unfold OFF; decide); let E : Ent := { w0 := { w with heap := #[] }, A0 := fun _ => False, bs := [], wf := fun _ h => h.elim, wb := fun _ h => by simp at h, lay := hglob _ _, par := fun _ => none, outer := fun s => if s = OFF then v else undef, obj := fun b => if S b then none else w.heap[b]? }; have hE0 : E.w0.heap.size = 0 := rfl
    obtain ⟨bc, O, hbc, hO1, hsl, hlim, hblk⟩ : ∃ (bc : Option (Nat × Nat)) (O : Nat → Prop), (∀ b D, bc = some (b, D) → S b ∧ ¬ O b) ∧ (∀ b, O b → S b) ∧ SliceAt bc u.size 0 xs.length v ∧ (xs.length : Int) ≤ 4294967296 ∧
        ∀ (A : Nat → Prop) (β' : Bind) (mem' : Nat → Option Blk), β' 0 = bc → (∀ c, O c → β'.own c = some 0) → RepBlk A w β' mem' 0 (.tree 1 u xs) := by
      generalize hvs : [v] = vs at hO; generalize hyy : (xs : List u.den) = zs at hO
      cases hO with
      | nil =>
        simp only [List.cons.injEq, and_true] at hvs; exact ⟨none, fun _ => False, by simp, by simp, ⟨rfl, rfl, hvs⟩, by simp, fun A β' mem' hb _ => ⟨by simp, .inl ⟨hb, rfl⟩⟩⟩
      | slice _ _ b cap cs el css T S2 hl hh hsz hcap hSb hlen' hc hTS hd hrr =>
        subst hyy; simp only [List.cons.injEq, and_true] at hvs
        refine ⟨some (b, cap), fun c => ∃ i, i < xs.length ∧ T i c, fun b' D e => ?_, fun c ⟨i, hi, hc⟩ => (hTS i c hi hc).1, ⟨⟨b, 0, none⟩, by simpa using hvs, by omega, fun _ => by simp⟩, hl,
          fun A β' mem' hb ho => ⟨hl, .inr ⟨b, cap, cs, el, css, T, hb, hh, hsz, hcap, fun k c hk hc => ho c ⟨k, hk, hc⟩, fun j k c hj hk => hd j k c hj hk, fun k hk => ⟨hlen' k hk, fun j v hj => hc k j v hk hj, hrr k hk⟩⟩⟩⟩
        simp only [Option.some.injEq, Prod.mk.injEq] at e; obtain ⟨rfl, _⟩ := e; exact ⟨hSb, fun ⟨i, hi, hc⟩ => (hTS i b hi hc).2 rfl⟩
    let β : Bind := ⟨fun i => if i = 0 then bc else none, fun c => if O c then some 0 else none⟩
    have hβ : ∀ i b D, β i = some (b, D) → i = 0 ∧ bc = some (b, D) := by
      intro i b D e; by_cases hi : i = 0
      · subst hi; exact ⟨rfl, e⟩
      · change (if i = 0 then bc else none) = _ at e; rw [if_neg hi] at e; cases e
    have hβo : ∀ b i, β.own b = some i → i = 0 ∧ O b := by
      intro b i e; change (if O b then some 0 else none) = some i at e; by_cases ho : O b
      · rw [if_pos ho] at e; exact ⟨(Option.some.inj e).symm, ho⟩
      · rw [if_neg ho] at e; cases e
    have hvone : v.oneCell' = true := hO.one v (by simp); have hmem0 : lookM [(0, Blk.tree 1 u xs)] 0 = some (.tree 1 u xs) := rfl
    have hmemi : ∀ i k0, lookM [(0, Blk.tree 1 u xs)] i = some k0 → i = 0 ∧ k0 = .tree 1 u xs := by
      intro i k0 e; simp only [lookM] at e
      cases hb : Nat.beq i 0 with
      | true => rw [hb, cond_true] at e; exact ⟨Nat.eq_of_beq_eq_true hb, (Option.some.inj e).symm⟩
      | false => rw [hb, cond_false] at e; cases e
    have htr : ∀ (A : Nat → Prop), RepSV A w β (lookM [(0, Blk.tree 1 u xs)]) (.tr 0 1) v := by
      intro A; refine .tr _ _ _ ⟨_, hmem0, Nat.le_refl _⟩ hvone fun t zs hz => ?_; rw [hmem0] at hz; replace hz := hz.at; simp only [Option.some.injEq, Blk.tree.injEq, true_and] at hz; obtain ⟨rfl, hz⟩ := hz; obtain rfl := eq_of_heq hz; exact hsl
    have hsim : SimB E fn.ntmps (lookS [(0, .tr 0 1), (1, .int .i64 k), (OFF, .tr 0 1)]) (lookM [(0, Blk.tree 1 u xs)]) { tmps := [v, .int .i64 k].toArray ++ Array.replicate (fn.ntmps - [v, .int .i64 k].toArray.size) undef, defers := [] } w β := {
      defers := ⟨fun d hd => (by cases hd), List.nodup_nil, fun b o e => by
        change (if S b then none else w.heap[b]?) = some o at e; by_cases hSb : S b
        · rw [if_pos hSb] at e; cases e
        · rw [if_neg hSb] at e; refine ⟨⟨⟨(Array.getElem?_eq_some_iff.1 e).1, .inr (Nat.zero_le _), fun i D hi => hSb (hbc b D (hβ i b D hi).2).1, ?_⟩, Nat.zero_le _⟩, e⟩
          cases ho : β.own b with
          | none => rfl
          | some i => exact absurd (hO1 b (hβo b i ho).2) hSb⟩
      size := by simp only [Array.size_append, List.size_toArray, Array.size_replicate, List.length_cons, List.length_nil]; omega
      hN := hN2
      os := rfl, tape := rfl, output := ⟨rfl, Nat.le_refl _⟩, grow := Nat.zero_le _, old := fun b hb _ => absurd hb (Nat.not_lt_zero _)
      dom := fun i b D e => by
        obtain ⟨rfl, e⟩ := hβ i b D e; exact ⟨⟨_, hmem0, fun h => by cases h⟩, hS b (hbc b D e).1, .inr (Nat.zero_le _)⟩
      inj := fun i j b D D' e1 e2 => by rw [(hβ i b D e1).1, (hβ j b D' e2).1]
      own := fun b i e => by
        obtain ⟨rfl, ho⟩ := hβo b i e; exact ⟨⟨_, hmem0, rfl⟩, hS b (hO1 b ho), Nat.zero_le _, fun j D ej => (hbc b D (hβ j b D ej).2).2 ho⟩
      blk := fun i k0 e => by
        obtain ⟨rfl, rfl⟩ := hmemi i k0 e; exact hblk _ β _ rfl fun c hc => if_pos hc
      slot := fun s => by
        simp only [lookS]
        cases h0 : Nat.beq s 0 with
        | true =>
          obtain rfl := Nat.eq_of_beq_eq_true h0; rw [cond_true]; unfold slotV; rw [if_pos (by omega)]; (have : ([v, .int .i64 k].toArray ++ Array.replicate (fn.ntmps - [v, .int .i64 k].toArray.size) undef).getD 0 undef = v := by simp [Array.getElem?_append]); simp only [this]; exact htr _
        | false =>
          rw [cond_false]
          cases h1 : Nat.beq s 1 with
          | true =>
            obtain rfl := Nat.eq_of_beq_eq_true h1; rw [cond_true]; unfold slotV; rw [if_pos hOFF]; (have : ([v, .int .i64 k].toArray ++ Array.replicate (fn.ntmps - [v, .int .i64 k].toArray.size) undef).getD 1 undef = .int .i64 k := by simp [Array.getElem?_append]); simp only [this]; exact .int _ _ hk.1 hk.2
          | false =>
            rw [cond_false]
            cases h2 : Nat.beq s OFF with
            | true =>
              obtain rfl := Nat.eq_of_beq_eq_true h2; rw [cond_true]; unfold slotV; rw [if_neg (Nat.lt_irrefl _)]; show RepSV _ _ _ _ _ (if OFF = OFF then v else undef); rw [if_pos rfl]; exact htr _
            | false => rw [cond_false]; exact .top _
      par := fun i c e => by have := (hmemi i _ e).2; cases this }
    have haw := h xs k hlim hk hp E _ w ⟨β, hsim⟩; refine callsIn_wide.1 (callsIn_of_wp_marks (n := 0) (F := Fence.wide) hf hb trivial (wpIn_mono haw ?_)); rintro e a' w' ⟨st, ⟨β', hs⟩, hq⟩
    have key : markQ C fn.results.toList u (mk xs k) .ret st → LeavesInM Fence.wide 0 P fn a'.tmps (fun e w' => e = .returned (.int .i64 (mk xs k).2) ∧ inR .i64 (mk xs k).2 ∧ w'.os = w.os ∧ w'.tape = w.tape ∧ (w'.output = w.output ∧ U.dr w.drawn ≤ U.dr w'.drawn) ∧
        (∀ c, c < w.heap.size → ¬ S c → w'.heap[c]? = w.heap[c]?) ∧ RepO w' (.slice u) (mk xs k).1 [v] (fun c => S c ∨ w.heap.size ≤ c)) a'.defers .returning w' := by
      rintro ⟨q1, q2, q3⟩; refine leaves_marks a'.defers hs fun w' hs => ?_; obtain ⟨rvs, r1, r2, r3, r4⟩ := retSVs_sound hs hC q1; obtain ⟨x, rfl⟩ : ∃ x, rvs = [x] := List.length_eq_one_iff.1 r2.symm; have hx := r4 0 _ x rfl rfl
      have hpin : ∀ c, c < w.heap.size → ¬ S c → allow E w' β' c ∧ w'.heap[c]? = w.heap[c]? := by
        intro c hc hn; have e1 : w.heap[c]? = some w.heap[c] := Array.getElem?_eq_getElem hc; have := hs.defers.objs c w.heap[c] (by show (if S c then none else w.heap[c]?) = _; rw [if_neg hn, e1]); exact ⟨this.1.1, this.2.trans e1.symm⟩
      cases hx with
      | int _ _ lo hi =>
        refine ⟨.int .i64 (mk xs k).2, ?_, rfl, ⟨lo, hi⟩, hs.os, hs.tape, hs.output, fun c hc hn => (hpin c hc hn).2, ?_⟩
        · unfold results; simp only [Sem.run_bind]; rw [run_mapM (P := P) (w := w') _ fn.results [.int .i64 (mk xs k).2] (by simpa using r1) (fun i hi hi' => ?_)]
          · simp only [Result.andThen_ok, Sem.run_pure]; rw [packV_arr]; rfl
          · have := r3 i hi hi'
            cases hv : fn.results.toList[i] with
            | tmp t => rw [hv] at this; exact this
            | cell x t => rw [hv] at this; exact this
        · have hsl := hs.slot OFF; rw [q2] at hsl
          have e1 : slotV E { a' with defers := [] } OFF = v := by
            unfold slotV; rw [if_neg (Nat.lt_irrefl _)]; exact if_pos rfl
          rw [e1] at hsl
          cases hsl with
          | tr _ _ _ _ _ hv =>
            refine (repO_tr hs q3 (hv _ _ (.of q3))).mono fun c hc => ⟨?_, rfl⟩; by_cases hcs : c < w.heap.size
            · by_cases hSc : S c
              · exact .inl hSc
              · obtain ⟨⟨_, _, h3, h4⟩, _⟩ := hpin c hcs hSc; rcases hc with ⟨D, hc⟩ | hc
                · exact absurd hc (h3 0 D)
                · rw [h4] at hc; cases hc
            · exact .inr (by omega)
    cases e with
    | normal => exact key hq
    | ret => exact key hq
    | _ => exact hq.elim

end
end Go.Am

namespace Go.Am
variable [U : Univ]
attribute [local irreducible] OFF
section
variable {P : Program} {C : Ctx} {st : St}

theorem AW.retM {vars : List ResultVar} {u : Ty} {r : List u.den × Int} {ys : List u.den} {k : Int} (e : r = (ys, k)) (h1 : (retSVs C st.env vars).eval st.memf = some [.int .i64 k]) (h2 : st.env OFF = .tr 0 1) (h3 : st.memf 0 = some (.tree 1 u ys)) :
    markQ C vars u r .ret st := by subst e; exact ⟨h1, h2, h3⟩

end
end Go.Am
