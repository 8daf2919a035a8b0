/-
  An, part R: trees: an empty slice is one; they are sorted.
-/
import Derived.Test.YtjcjpeckfikfkaaAnM
set_option linter.all false
namespace Go.Am
variable [U : Univ]
section
variable {P : Program} {E : Ent} {N : Nat} {Q : Exit → St → Prop} {st : St} {c : Code}

end
section
variable {E : Ent} {N : Nat} {P : Program} {c : Code} {Q : Exit → St → Prop} {st : St}

theorem AW.adoptBT (bid ep j id : Nat) (cells : List SV) (t : Ty) (hb : st.memf bid = some (.box ep cells)) (hj : cells[j]? = some .nilsl) (hm : st.memf id = none)
    (h : AW P E N c Q ⟨st.slots, (id, .tree 1 t []) :: (bid, .box ep (cells.set j (.tr id 1))) :: st.mem⟩) : AW P E N c Q st := by
  rintro a w ⟨β, hw⟩
  refine h a w ⟨β, ?_⟩
  have hne : bid ≠ id := by rintro rfl; rw [hm] at hb; cases hb
  have hβ : β id = none := by
    cases e : β id with
    | none => rfl
    | some x =>
      obtain ⟨b, D⟩ := x
      obtain ⟨⟨k, hk, _⟩, _⟩ := hw.dom id b D e
      rw [hm] at hk
      cases hk
  generalize hS : (⟨st.slots, (id, .tree 1 t []) :: (bid, .box ep (cells.set j (.tr id 1))) :: st.mem⟩ : St) = S
  have hbeq : ∀ {x y : Nat}, x ≠ y → Nat.beq x y = false := fun hxy => by rw [Bool.eq_false_iff]; intro e; exact hxy (Nat.eq_of_beq_eq_true e)
  have hid : S.memf id = some (.tree 1 t []) := by
    subst hS
    show lookM _ id = _
    simp only [lookM]
    rw [show Nat.beq id id = true from Nat.beq_refl id, cond_true]
  have hbid : S.memf bid = some (.box ep (cells.set j (.tr id 1))) := by
    subst hS
    show lookM _ bid = _
    simp only [lookM]
    rw [hbeq hne, cond_false, show Nat.beq bid bid = true from Nat.beq_refl bid, cond_true]
  have hmem : ∀ i, i ≠ id → i ≠ bid → S.memf i = st.memf i := by
    intro i hi hi2
    subst hS
    show lookM _ i = _
    simp only [lookM]
    rw [hbeq hi, cond_false, hbeq hi2, cond_false]
    rfl
  have henv : S.env = st.env := by subst hS; rfl
  have hmono : ∀ i k, st.memf i = some k → ∃ k', S.memf i = some k' ∧ k.ep ≤ k'.ep ∧ (k.ep = k'.ep → k.alike k' ∧ β i = β i) := by
    intro i k hk
    have hi : i ≠ id := by rintro rfl; rw [hm] at hk; cases hk
    by_cases hi2 : i = bid
    · subst hi2
      rw [hb] at hk
      obtain rfl := Option.some.inj hk
      exact ⟨_, hbid, Nat.le_refl _, fun _ => ⟨trivial, rfl⟩⟩
    · exact ⟨k, by rw [hmem i hi hi2]; exact hk, Nat.le_refl _, fun _ => ⟨k.alike_refl, rfl⟩⟩
  have harr : ∀ {v : Value}, RepSV (allow E w β) w β st.memf .nilsl v → RepSV (allow E w β) w β S.memf (.tr id 1) v := by
    intro v hv
    cases hv
    refine .tr _ _ _ ⟨_, hid, Nat.le_refl _⟩ rfl fun u xs hx => ?_
    rw [hid] at hx
    simp only [Option.some.injEq, Blk.tree.injEq, true_and] at hx
    obtain ⟨rfl, hx⟩ := hx
    obtain rfl := eq_of_heq hx
    rw [hβ]
    exact ⟨rfl, rfl, rfl⟩
  exact {
    defers := hw.defers, size := hw.size, hN := hw.hN, os := hw.os, tape := hw.tape, output := hw.output, grow := hw.grow, old := hw.old, inj := hw.inj
    dom := by
      intro i b D e
      obtain ⟨⟨k, hk, hkb⟩, h2⟩ := hw.dom i b D e
      have hi : i ≠ id := by rintro rfl; rw [hm] at hk; cases hk
      by_cases hi2 : i = bid
      · subst hi2
        exact ⟨⟨_, hbid, fun _ => rfl⟩, h2⟩
      · exact ⟨⟨k, by rw [hmem i hi hi2]; exact hk, hkb⟩, h2⟩
    own := by
      intro b i e
      obtain ⟨⟨k, hk, ht⟩, h2⟩ := hw.own b i e
      have hi : i ≠ id := by rintro rfl; rw [hm] at hk; cases hk
      have hi2 : i ≠ bid := by
        rintro rfl
        rw [hb] at hk
        obtain rfl := Option.some.inj hk
        cases ht
      exact ⟨⟨k, by rw [hmem i hi hi2]; exact hk, ht⟩, h2⟩
    blk := by
      intro i k hk
      by_cases hi : i = id
      · subst hi
        rw [hid] at hk
        obtain rfl := Option.some.inj hk
        exact ⟨by simp, .inl ⟨hβ, rfl⟩⟩
      · by_cases hi2 : i = bid
        · subst hi2
          rw [hbid] at hk
          obtain rfl := Option.some.inj hk
          obtain ⟨b, D, cs, el, h1, h2, h3, h4⟩ := hw.blk _ _ hb
          refine ⟨b, D, cs, el, h1, h2, by rw [List.length_set]; exact h3, fun q sv hq => ?_⟩
          rw [List.getElem?_set] at hq
          by_cases hjq : j = q
          · subst hjq
            have hjl : j < cells.length := (List.getElem?_eq_some_iff.1 hj).1
            rw [if_pos rfl, if_pos hjl] at hq
            obtain rfl := Option.some.inj hq
            obtain ⟨v, hv, hv1, hr⟩ := h4 j _ hj
            exact ⟨v, hv, hv1, harr hr⟩
          · rw [if_neg hjq] at hq
            obtain ⟨v, hv, hv1, hr⟩ := h4 q sv hq
            exact ⟨v, hv, hv1, hr.mono (fun b hb => ⟨hb, rfl⟩) hmono⟩
        · rw [hmem i hi hi2] at hk
          exact (hw.blk i k hk).mono (fun b hb => ⟨hb, rfl⟩) hmono rfl (fun _ _ _ => rfl) (fun _ _ hc => ⟨hc, rfl⟩)
    slot := by
      intro i
      rw [henv]
      exact (hw.slot i).mono (fun b hb => ⟨hb, rfl⟩) hmono
    par := by
      intro i c hc
      by_cases hi : i = id
      · subst hi; rw [hid] at hc; cases hc
      · by_cases hi2 : i = bid
        · subst hi2
          rw [hbid] at hc
          simp only [Option.some.injEq, Blk.box.injEq] at hc
          obtain ⟨rfl, _⟩ := hc
          exact hw.par _ _ hb
        · rw [hmem i hi hi2] at hc
          exact hw.par i c hc }


end
end Go.Am

namespace Go.Am
open Go.Sort Go.Proofs
variable [U : Univ]
attribute [local irreducible] OFF

omit U in
theorem perm_places {α : Type} {l m : List α} (h : l.Perm m) : ∃ σ : Nat → Nat, (∀ k, k < l.length → σ k < m.length ∧ l[k]? = m[σ k]?) ∧ ∀ i j, i < l.length → j < l.length → σ i = σ j → i = j := by
  induction h with
  | nil => exact ⟨id, by simp, by simp⟩
  | cons x _ ih =>
    obtain ⟨σ, h1, h2⟩ := ih
    refine ⟨fun k => match k with | 0 => 0 | k + 1 => σ k + 1, fun k hk => ?_, fun i j hi hj e => ?_⟩
    · cases k with
      | zero => exact ⟨by simp, rfl⟩
      | succ k =>
        have := h1 k (by simpa using hk)
        exact ⟨by simpa using this.1, by simpa using this.2⟩
    · cases i with
      | zero =>
        cases j with
        | zero => rfl
        | succ j => simp at e
      | succ i =>
        cases j with
        | zero => simp at e
        | succ j => exact congrArg (· + 1) (h2 i j (by simpa using hi) (by simpa using hj) (by simpa using e))
  | swap x y l =>
    refine ⟨fun k => match k with | 0 => 1 | 1 => 0 | k + 2 => k + 2, fun k hk => ?_, fun i j hi hj e => ?_⟩
    · match k, hk with
      | 0, _ => exact ⟨by simp, rfl⟩
      | 1, _ => exact ⟨by simp, rfl⟩
      | k + 2, hk => exact ⟨by simpa using hk, rfl⟩
    · match i, j with
      | 0, 0 => rfl
      | 1, 1 => rfl
      | 0, 1 => simp at e
      | 1, 0 => simp at e
      | 0, j + 2 => simp at e
      | 1, j + 2 => simp at e
      | i + 2, 0 => simp at e
      | i + 2, 1 => simp at e
      | i + 2, j + 2 => simpa using e
  | trans _ _ ih1 ih2 =>
    obtain ⟨σ, h1, h2⟩ := ih1
    obtain ⟨τ, k1, k2⟩ := ih2
    refine ⟨fun k => τ (σ k), fun k hk => ?_, fun i j hi hj e => ?_⟩
    · obtain ⟨a, b⟩ := h1 k hk
      obtain ⟨c, d⟩ := k1 _ a
      exact ⟨c, b.trans d⟩
    · exact h2 i j hi hj (k2 _ _ (h1 i hi).1 (h1 j hj).1 e)

structure SortTC (P : Program) (f g : FuncId) (t : Ty) (pre : List t.den → Prop) (srt : List t.den → List t.den) : Prop where
  fn : ∃ fn c, P.funcs[f]? = some fn ∧ (fn.name == "runtime.NumGoroutine") = false ∧ fn.body = some c
  len : ∀ xs, (srt xs).length = xs.length
  nilp : ∀ w, Calls P f #[.slice none 0 0, .func (.func g) #[] #[]] w fun e w' => e = .returned (.tuple #[]) ∧ w' = w
  row : ∀ (w : World) (b D : Nat) (cs : Array Value) (el : Nat) (xs : List t.den) (css : Nat → List Value) (T : Nat → Nat → Prop), (∀ k c, k < xs.length → T k c → c < w.heap.size ∧ c ≠ b) → (∀ j k c, j < xs.length → k < xs.length → T j c → T k c → j = k) →
    w.heap[b]? = some (.cells cs el (0, 0)) → cs.size = D * t.size → xs.length ≤ D →
    (∀ k (hk : k < xs.length), (css k).length = t.size ∧ (∀ (j : Nat) (v : Value), (css k)[j]? = some v → cs[k * t.size + j]? = some v) ∧ RepO w t xs[k] (css k) (T k)) →
    ((xs.length : Nat) : Int) ≤ 4294967296 → pre xs →
    Calls P f #[.slice (some ⟨b, 0, none⟩) xs.length D, .func (.func g) #[] #[]] w fun e w' => e = .returned (.tuple #[]) ∧ w'.os = w.os ∧ w'.tape = w.tape ∧ (w'.output = w.output ∧ w.drawn ≤ w'.drawn) ∧ w.heap.size ≤ w'.heap.size ∧
      (∀ c, c < w.heap.size → c ≠ b → w'.heap[c]? = w.heap[c]?) ∧ ∃ (cs' : Array Value) (css' : Nat → List Value) (T' : Nat → Nat → Prop), w'.heap[b]? = some (.cells cs' el (0, 0)) ∧ cs'.size = D * t.size ∧
        (∀ k c, k < xs.length → T' k c → ∃ j, j < xs.length ∧ T j c) ∧ (∀ j k c, j < xs.length → k < xs.length → T' j c → T' k c → j = k) ∧
        ∀ k (hk : k < (srt xs).length), (css' k).length = t.size ∧ (∀ (j : Nat) (v : Value), (css' k)[j]? = some v → cs'[k * t.size + j]? = some v) ∧ RepO w t (srt xs)[k] (css' k) (T' k)

section
variable {P : Program} {ρ : Go.Shelf.Ren}

theorem SortTC.make (hglob : ∀ w bs, Laid w bs) (L : SlLaysF.n6 P ρ) {f g : FuncId} (hf : ρ.f 6 = f) {fn : Func} {c : Code} (hfn : P.funcs[f]? = some fn ∧ (fn.name == "runtime.NumGoroutine") = false ∧ fn.body = some c) {t : Ty} (ht : ∀ n, t ≠ .named n) {sp : FnSpec} (hg : FnOK P g sp)
    (hps : sp.ps = [.val t, .val t]) (hrs : sp.rs = [.val (.int .i64)]) {cf : t.den → t.den → Int} {pre : List t.den → Prop} {srt : List t.den → List t.den}
    (hpre : ∀ xs, pre xs → ∃ ok : t.den → Prop, (∀ x ∈ xs, ok x) ∧ Sortable cf ok ∧ (∀ x y, ok x → ok y → sp.pre [⟨t, x⟩, ⟨t, y⟩]) ∧ ∀ x y, ok x → ok y → sp.fn [⟨t, x⟩, ⟨t, y⟩] = [⟨.int .i64, cf x y⟩])
    (hlen : ∀ xs, (srt xs).length = xs.length) (hperm : ∀ xs, pre xs → (srt xs).Perm xs) (hsorted : ∀ xs, pre xs → (srt xs).Pairwise fun x y => ¬ cf y x < 0) : SortTC P f g t pre srt where
  fn := ⟨fn, c, hfn⟩
  len := hlen
  nilp := fun w => by
    subst hf
    exact AnyF.slices_SortFunc_none { L with } none 0 _ w
  row := by
    intro w b D cs el xs css T hT1 hT2 hh hsz hD hel hl hp
    have ht1 : t.size = 1 := by cases t <;> first | rfl | exact absurd rfl (ht _)
    by_cases hne : xs = []
    · subst hne
      have e0 : srt [] = [] := List.length_eq_zero_iff.1 (hlen [])
      subst hf
      refine (AnyF.slices_SortFunc_none { L with } (some ⟨b, 0, none⟩) D _ w).mono ?_
      rintro e w' ⟨rfl, rfl⟩
      refine ⟨rfl, rfl, rfl, ⟨rfl, Nat.le_refl _⟩, Nat.le_refl _, fun _ _ _ => rfl, cs, css, T, hh, hsz, fun k c hk => absurd hk (Nat.not_lt_zero _), fun j k c hj => absurd hj (Nat.not_lt_zero _), fun k hk => ?_⟩
      rw [hlen] at hk
      exact absurd hk (Nat.not_lt_zero _)
    · obtain ⟨ok, hok, hS, h1, h2⟩ := hpre xs hp
      refine (SortC.of_kit hglob L hf ht hg hps hrs h1 h2 hS.irr hS.tr hS.ntr (A := fun c => ∃ k, k < xs.length ∧ T k c) (fun c ⟨k, hk, hc⟩ => hT1 k c hk hc) hh hsz hD
        (fun k hk => ⟨(hel k hk).1, (hel k hk).2.1, (hel k hk).2.2.repC fun c hc => ⟨k, hk, hc⟩⟩) hl hok hne).mono ?_
      rintro e w' ⟨rfl, d, d', n, os, cs', hperm', hd, hdr, hdc, hso, g1, g2, g3, g4, g5, g6, g7, g8, g9⟩
      have hxs : d'.map (·.2) = srt xs := by
        have p1 : (d'.map (·.2)).Perm xs := by rw [← hd]; exact hperm'.map _
        refine sorted_unique (r := fun x y => ¬ cf y x < 0) (p1.trans (hperm xs hp).symm) ?_ (hsorted xs hp) ?_
        · rw [List.pairwise_map, List.pairwise_iff_getElem]
          intro i j hi hj hij
          exact hso i j hij _ _ (List.getElem?_eq_getElem hi) (List.getElem?_eq_getElem hj)
        · intro x hx y hy hxy hyx
          exact hS.anti x y (hok x (p1.mem_iff.1 hx)) (hok y (p1.mem_iff.1 hy)) hyx hxy
      have hdl : d'.length = (srt xs).length := by rw [← hxs, List.length_map]
      have hdl0 : d.length = xs.length := by rw [← hd, List.length_map]
      obtain ⟨σ, s1, s2⟩ := perm_places hperm'
      have hsl : ∀ k, k < xs.length → k < d'.length := fun k hk => by rw [hdl, hlen]; exact hk
      have hσ : ∀ k, k < xs.length → σ k < xs.length := fun k hk => by rw [← hdl0]; exact (s1 k (hsl k hk)).1
      refine ⟨rfl, g1, g2, ⟨g3, g4⟩, g5, g6, cs', fun k => css (σ k), fun k => T (σ k), g7, by rw [g8, hsz], fun k c hk hc => ⟨σ k, hσ k hk, hc⟩, fun j k c hj hk h1 h2 => s2 j k (hsl j hj) (hsl k hk) (hT2 _ _ c (hσ j hj) (hσ k hk) h1 h2), fun k hk => ?_⟩
      have hkx : k < xs.length := by rw [← hlen]; exact hk
      have hk' : k < d'.length := hsl k hkx
      have e1 : d'[k]? = some d'[k] := List.getElem?_eq_getElem hk'
      have e3 : d[σ k]? = some d'[k] := by rw [← (s1 k hk').2]; exact e1
      have e4 := hdc _ _ e3
      have e2 : (srt xs)[k] = xs[σ k]'(hσ k hkx) := by
        have a1 : (d'.map (·.2))[k]? = (srt xs)[k]? := by rw [hxs]
        have a2 : (d.map (·.2))[σ k]? = xs[σ k]? := by rw [hd]
        rw [List.getElem?_map, e1, List.getElem?_eq_getElem hk] at a1
        rw [List.getElem?_map, e3, List.getElem?_eq_getElem (hσ k hkx)] at a2
        exact (Option.some.inj a1).symm.trans (Option.some.inj a2)
      obtain ⟨f1, f2, f3⟩ := hel (σ k) (hσ k hkx)
      refine ⟨f1, fun j v hj => ?_, by rw [e2]; exact f3⟩
      dsimp only at hj
      rw [e4] at hj
      cases j with
      | zero =>
        obtain rfl := Option.some.inj hj
        rw [ht1, Nat.mul_one, Nat.add_zero]
        exact g9 k _ e1
      | succ j => cases hj

end

section
variable {E : Ent} {N : Nat} {P : Program} {ops : Array Oper} {Q : Exit → St → Prop} {st : St} {a : Act} {w : World} {β : Bind} {env : Nat → SV} {mem : Nat → Option Blk}

theorem AWO.sortT {f g : FuncId} {t : Ty} {pre : List t.den → Prop} {srt : List t.den → List t.den} (hS : SortTC P f g t pre srt) {i : Nat} {rest : List Nat} {d : Nat} {x : Operand} {ats : Array TypeId} {type : TypeId} {pos : String} {after : Array Edge}
    {id ep : Nat} {xs : List t.den} {l : List Nat} (hl : l = i :: rest) (ho : ops[i]? = some ⟨some d, .call ⟨.value (.func f), #[x, .func g], ats⟩, type, pos, after, none⟩) (hd : dstOK N (some d) = true)
    (hx : opv st.env x = (.tr id ep, [])) (hm : st.memf id = some (.tree ep t xs)) (hp : pre xs)
    (h : AWO P E N ops rest Q ⟨(d, .top) :: st.slots, (id, .tree ep t (srt xs)) :: st.mem⟩) : AWO P E N ops l Q st := by
  rintro a w ⟨β, hs⟩
  subst hl
  have hdN : ∀ d', some d = some d' → d' < N := by
    intro d' e
    cases e
    exact Nat.le_of_ble_eq_true hd
  obtain ⟨fn, c, hfn, hname, hb⟩ := hS.fn
  have hxr := opv_rep hs hx (fun p hp => by cases hp)
  generalize hxe : a.eval x = xv at hxr
  have hrun : ∀ w, (execOp a.eval ⟨some d, .call ⟨.value (.func f), #[x, .func g], ats⟩, type, pos, after, none⟩).run P w = .ok (.enter f #[xv, .func (.func g) #[] #[]]) w := by
    intro w
    simp only [execOp, resolve, Deferred.ofValue, Sem.run_bind, Sem.run_pure, Result.andThen_ok, invoke, callFunc, run_program, hfn, hname, hb, Bool.false_eq_true, if_false, Act.eval]
    simp [hxe]
    rfl
  have hmemf : (⟨(d, .top) :: st.slots, (id, .tree ep t (srt xs)) :: st.mem⟩ : St).memf = setm st.memf id (.tree ep t (srt xs)) := by
    funext y
    show lookM _ y = _
    simp only [lookM, setm]
    rfl
  have henv : (⟨(d, .top) :: st.slots, (id, .tree ep t (srt xs)) :: st.mem⟩ : St).env = putE st.env (some d) .top := by
    funext y
    show lookS _ y = _
    simp only [lookS, putE]
    rfl
  rw [wpOpsIn_cons]
  unfold wpOpIn
  simp only [ho]
  rw [if_pos (by rfl)]
  refine ⟨fun _ _ => trivial, ?_⟩
  rw [Oper.semAt_eq _ _ _ (fun c e => by cases e), hrun w, Oper.uponIn_enter]
  refine ⟨fun h => (by cases h), callsIn_fence ?_⟩
  have next : ∀ (w' : World), SimB E N st.env (setm st.memf id (.tree ep t (srt xs))) a w' β → wpOpsIn E.fence 0 P ops (CQ E N Q) rest (a.put (some d) (.tuple #[])) w' := by
    intro w' h1
    refine h _ w' ⟨β, ?_⟩
    rw [hmemf, henv]
    exact h1.put hdN (.top _)
  cases hxr with
  | tr _ _ v hmm h1 hv =>
    have hv := hv t xs hm
    obtain ⟨hlim, ⟨hb0, hnil⟩ | ⟨b, D, cs, el, css, T, hb0, hh, hsz, hD, hT1, hT2, hel⟩⟩ := hs.blk id _ hm
    · rw [hb0] at hv
      obtain ⟨_, _, rfl⟩ := hv
      subst hnil
      have e0 : srt [] = [] := List.length_eq_zero_iff.1 (hS.len [])
      refine (hS.nilp w).mono ?_
      rintro e w' ⟨rfl, rfl⟩
      refine next _ ?_
      rw [e0]
      have e2 : setm st.memf id (.tree ep t ([] : List t.den)) = st.memf := by
        funext j
        by_cases hj : j = id
        · subst hj; rw [setm_same, hm]
        · rw [setm_ne _ _ hj]
      rw [e2]
      exact hs
    · rw [hb0] at hv
      obtain ⟨p, rfl, hle, hp0⟩ := hv
      obtain rfl := hp0 (.inl rfl)
      simp only [Nat.sub_zero, Nat.zero_mul] at *
      have hTb : ∀ k c, k < xs.length → T k c → c < w.heap.size ∧ c ≠ b := fun k c hk hc => by
        obtain ⟨_, o2, _, o4⟩ := hs.own c id (hT1 k c hk hc)
        exact ⟨o2, fun e => o4 id D (by rw [e]; exact hb0)⟩
      refine (hS.row w b D cs el xs css T hTb hT2 hh hsz hD hel hlim hp).mono ?_
      rintro e w' ⟨rfl, g1, g2, g3, g4, g5, cs', css', T', g6, g7, t1, t2, g8⟩
      refine next _ ?_
      refine hs.writeG hm hb0 (Nat.le_refl _) (fun _ => ?_) rfl g1 g2 g3 g4 g5 ⟨by rw [hS.len]; exact hlim, .inr ⟨b, D, cs', el, css', T', hb0, g6, g7, by rw [hS.len]; exact hD, fun k c hk hc => ?_, fun j k c hj hk => t2 j k c (by rw [← hS.len]; exact hj) (by rw [← hS.len]; exact hk), fun k hk => ⟨(g8 k hk).1, (g8 k hk).2.1, (g8 k hk).2.2.mono fun c hc => ⟨hc, ?_⟩⟩⟩⟩
      · exact ⟨rfl, hS.len xs |>.symm⟩
      · obtain ⟨j, hj, hc⟩ := t1 k c (by rw [← hS.len]; exact hk) hc
        exact hT1 j c hj hc
      · obtain ⟨j, hj, hc⟩ := t1 k c (by rw [← hS.len]; exact hk) hc
        obtain ⟨q1, q2⟩ := hTb j c hj hc
        exact g5 c q1 q2

end
end Go.Am

namespace Go.Am
variable [U : Univ]
section
variable {E : Ent} {N : Nat} {P : Program} {C : Ctx} {c : Code} {Q : Exit → St → Prop} {st : St}

theorem CtxOK.deepen (h : CtxOK P C) : CtxOK P { C with deep := true } := ⟨fun T t hT => { info := (h.ty T t hT).info, und := (h.ty T t hT).und, zc := (h.ty T t hT).zc, eqs := by have := (h.ty T t hT).eqs; cases t <;> exact this, arrs := fun B n e => ⟨((h.ty T t hT).arrs B n e).pos, ((h.ty T t hT).arrs B n e).und, ((h.ty T t hT).arrs B n e).zero⟩, ptrs := (h.ty T t hT).ptrs }, h.fn⟩

theorem AW.wf_tree {id ep : Nat} {t : Ty} {xs : List t.den} (hs : st.memf id = some (.tree ep t xs)) (h : (xs.length : Int) ≤ 4294967296 → (∀ x ∈ xs, Wf ⟨t, x⟩) → AW P E N c Q st) : AW P E N c Q st := by
  refine AW.fact ((xs.length : Int) ≤ 4294967296 ∧ ∀ x ∈ xs, Wf ⟨t, x⟩) ?_ (fun hp => h hp.1 hp.2)
  rintro a w ⟨β, hw⟩
  obtain ⟨hl, ⟨_, rfl⟩ | ⟨b, D, cs, el, css, T, _, _, _, _, _, _, hel⟩⟩ := hw.blk _ _ hs
  · exact ⟨hl, by simp⟩
  · refine ⟨hl, fun x hx => ?_⟩
    obtain ⟨k, hk, rfl⟩ := List.mem_iff_getElem.1 hx
    exact ((hel k hk).2.2.repC (A := T k) fun _ h => h).wf

end
end Go.Am
