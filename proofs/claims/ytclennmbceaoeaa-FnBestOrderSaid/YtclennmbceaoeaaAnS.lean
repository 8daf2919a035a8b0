/-
  An, part S: functions that write into a tree, and lay nothing (the laws' marks).
-/
import Derived.Test.YtclennmbceaoeaaAnR
set_option linter.all false
namespace Go.Am
variable [U : Univ]
attribute [local irreducible] OFF

theorem RepO.small {w : World} {t : Ty} {x : t.den} {cs : List Value} {S : Nat → Prop} (h : RepO w t x cs S) : RepO w t x cs (fun c => S c ∧ c < w.heap.size) := by
  refine RepO.rec (motive_1 := fun t x cs S _ => RepO w t x cs (fun c => S c ∧ c < w.heap.size)) (motive_2 := fun l cs S _ => RepOL w l cs (fun c => S c ∧ c < w.heap.size)) ?_ ?_ ?_ ?_ ?_ ?_ ?_ ?_ h
  · intro k n S lo hi; exact .int k n _ lo hi
  · intro b S; exact .bool b _
  · intro s S h; exact .str s _ h
  · intro n x cs S _ ih; exact .named n x cs _ ih
  · intro t S; exact .nil t _
  · intro t xs b cap cs el css T S hl hh hs hcap hb hlen hc hS hd _ ih
    exact .slice t xs b cap cs el css (fun i c => T i c ∧ c < w.heap.size) _ hl hh hs hcap ⟨hb, (Array.getElem?_eq_some_iff.1 hh).1⟩ hlen hc (fun i c hi hT => ⟨⟨(hS i c hi hT.1).1, hT.2⟩, (hS i c hi hT.1).2⟩)
      (fun i j c hi hj h1 h2 => hd i j c hi hj h1.1 h2.1) ih
  · intro S; exact .nil _
  · intro t x r cs ds S1 S2 S _ _ h1 h2 hd ih1 ih2; exact .cons t x r cs ds _ _ _ ih1 ih2 (fun c hc => ⟨h1 c hc.1, hc.2⟩) (fun c hc => ⟨h2 c hc.1, hc.2⟩) (fun c h3 h4 => hd c h3.1 h4.1)

structure MarkC (P : Program) (f : FuncId) (u : Ty) (pre : List u.den → Int → Prop) (mk : List u.den → Int → List u.den × Int) : Prop where
  fn : ∃ fn c, P.funcs[f]? = some fn ∧ (fn.name == "runtime.NumGoroutine") = false ∧ fn.body = some c
  len : ∀ xs k, (mk xs k).1.length = xs.length
  row : ∀ (w : World) (v : Value) (xs : List u.den) (k : Int) (S : Nat → Prop), RepO w (.slice u) xs [v] S → inR .i64 k → pre xs k → (∀ c, S c → c < w.heap.size) →
    Calls P f #[v, .int .i64 k] w fun e w' => e = .returned (.int .i64 (mk xs k).2) ∧ inR .i64 (mk xs k).2 ∧ w'.os = w.os ∧ w'.tape = w.tape ∧ (w'.output = w.output ∧ U.dr w.drawn ≤ U.dr w'.drawn) ∧
      (∀ c, c < w.heap.size → ¬ S c → w'.heap[c]? = w.heap[c]?) ∧ RepO w' (.slice u) (mk xs k).1 [v] (fun c => S c ∨ w.heap.size ≤ c)

section
variable {E : Ent} {N : Nat} {P : Program} {C : Ctx} {ops : Array Oper} {Q : Exit → St → Prop} {st : St} {a : Act} {w : World} {β : Bind} {env : Nat → SV} {mem : Nat → Option Blk}

theorem SimB.marked (h : SimB E N env mem a w β) {w' : World} {id ep : Nat} {u : Ty} {xs ys : List u.den} {v : Value} (hm : mem id = some (.tree ep u xs)) (hlen : ys.length = xs.length)
    (hv : SliceAt (β id) u.size 0 xs.length v) (S : Nat → Prop) (hS : ∀ c, S c → Held β id c)
    (hos : w'.os = w.os) (htape : w'.tape = w.tape) (hout : w'.output = w.output ∧ U.dr w.drawn ≤ U.dr w'.drawn) (hheap : ∀ c, c < w.heap.size → ¬ S c → w'.heap[c]? = w.heap[c]?)
    (hr : RepO w' (.slice u) ys [v] (fun c => Held β id c ∨ w.heap.size ≤ c)) : ∃ β', SimB E N env (setm mem id (.tree ep u ys)) a w' β' := by
  classical
  have hb0 : ∀ c, c < w.heap.size → w'.heap[c]? = w.heap[c]? → c < w'.heap.size := fun c hc e => by
    rw [Array.getElem?_eq_getElem hc] at e; exact (Array.getElem?_eq_some_iff.1 e).1
  have hout' : ∀ c, c < w.heap.size → ¬ Held β id c → w'.heap[c]? = w.heap[c]? := fun c hc hn => hheap c hc fun h => hn (hS c h)
  -- the new tree's blocks
  obtain ⟨T, hT1, hT2, hblk⟩ : ∃ T : Nat → Prop, (∀ c, T c → (β.own c = some id ∨ w.heap.size ≤ c) ∧ c < w'.heap.size) ∧ (∀ c D, β id = some (c, D) → ¬ T c ∧ c < w'.heap.size) ∧
      ∀ (A : Nat → Prop) (β' : Bind) (mem' : Nat → Option Blk), β' id = β id → (∀ c, T c → β'.own c = some id) → RepBlk A w' β' mem' id (.tree ep u ys) := by
    have hr' := hr.small; generalize hvs : [v] = vs at hr'; generalize hyy : (ys : List u.den) = zs at hr'
    cases hr' with
    | nil =>
      refine ⟨fun _ => False, by simp, fun c D e => ?_, fun A β' mem' hb _ => ⟨by simp, ?_⟩⟩
      · rw [e] at hv; obtain ⟨p, rfl, _⟩ := hv; simp at hvs
      · cases e : β id with
        | none => exact .inl ⟨hb.trans e, rfl⟩
        | some bc =>
          rw [e] at hv; obtain ⟨p, rfl, _⟩ := hv; simp at hvs
    | slice _ _ b cap cs el css T S2 hl hh hsz hcap hSb hlen' hc hTS hd hrr =>
      subst hyy
      have hbid : β id = some (b, cap) := by
        cases e : β id with
        | none =>
          rw [e] at hv; obtain ⟨_, _, rfl⟩ := hv; simp at hvs
        | some bc =>
          obtain ⟨b', D⟩ := bc; rw [e] at hv; obtain ⟨p, rfl, hle, hp⟩ := hv; obtain rfl := hp (.inl rfl); simp only [List.cons.injEq, Value.slice.injEq, Option.some.injEq, Addr.mk.injEq, and_true] at hvs; obtain ⟨⟨rfl, _⟩, _, rfl⟩ := hvs; simp
      refine ⟨fun c => ∃ i, i < ys.length ∧ T i c, fun c ⟨i, hi, hTc⟩ => ?_, fun c D e => ?_, fun A β' mem' hb ho => ⟨hl, .inr ⟨b, cap, cs, el, css, T, hb.trans hbid, hh, hsz, hcap, fun k c hk hc => ho c ⟨k, hk, hc⟩, fun j k c hj hk => hd j k c hj hk, fun k hk => ⟨hlen' k hk, fun j v hj => hc k j v hk hj, hrr k hk⟩⟩⟩⟩
      · obtain ⟨⟨h1, h2⟩, h3⟩ := hTS i c hi hTc; refine ⟨?_, h2⟩; rcases h1 with ⟨⟨D, e⟩ | e⟩ | h1
        · rw [hbid] at e; simp only [Option.some.injEq, Prod.mk.injEq] at e; exact absurd e.1.symm h3
        · exact .inl e
        · exact .inr h1
      · rw [hbid] at e; simp only [Option.some.injEq, Prod.mk.injEq] at e; obtain ⟨rfl, _⟩ := e; exact ⟨fun ⟨i, hi, hTc⟩ => (hTS i b hi hTc).2 rfl, (Array.getElem?_eq_some_iff.1 hh).1⟩
  obtain ⟨β', b1, b2, b3, b4⟩ : ∃ β' : Bind, (∀ i, β' i = β i) ∧ (∀ c, T c → β'.own c = some id) ∧ (∀ c i, i ≠ id → β.own c = some i → β'.own c = some i) ∧ ∀ c i, β'.own c = some i → (i = id ∧ T c) ∨ (i ≠ id ∧ β.own c = some i) := by
    refine ⟨⟨β.m, fun c => if T c then some id else if β.own c = some id then none else β.own c⟩, fun _ => rfl, fun c h => if_pos h, fun c i hne h => ?_, fun c i h => ?_⟩
    · have hnT : ¬ T c := fun hT => by
        rcases (hT1 c hT).1 with e | e
        · rw [h] at e; exact hne (Option.some.inj e)
        · have := (‹SimB E N env mem a w β›.own c i h).2.1; omega
      show (if T c then some id else if β.own c = some id then none else β.own c) = some i; rw [if_neg hnT, if_neg (by rw [h]; exact fun e => hne (Option.some.inj e)), h]
    · change (if T c then some id else if β.own c = some id then none else β.own c) = some i at h; by_cases hT : T c
      · rw [if_pos hT] at h; exact .inl ⟨(Option.some.inj h).symm, hT⟩
      · rw [if_neg hT] at h; by_cases ho : β.own c = some id
        · rw [if_pos ho] at h; cases h
        · rw [if_neg ho] at h; exact .inr ⟨fun e => ho (by rw [h, e]), h⟩
  have hA : ∀ b, allow E w β b → allow E w' β' b ∧ w'.heap[b]? = w.heap[b]? := by
    rintro b ⟨h1, h2, h3, h4⟩
    have hnh : ¬ Held β id b := by
      rintro (⟨D, e⟩ | e)
      · exact h3 id D e
      · rw [h4] at e; cases e
    have e1 := hout' b h1 hnh; refine ⟨⟨hb0 b h1 e1, h2, fun i C => by rw [b1]; exact h3 i C, ?_⟩, e1⟩
    cases ho : β'.own b with
    | none => rfl
    | some i =>
      rcases b4 b i ho with ⟨_, hT⟩ | ⟨_, e⟩
      · rcases (hT1 b hT).1 with e | e
        · rw [h4] at e; cases e
        · omega
      · rw [h4] at e; cases e
  have hmm : ∀ i k0, mem i = some k0 → ∃ k', setm mem id (.tree ep u ys) i = some k' ∧ k0.ep ≤ k'.ep ∧ (k0.ep = k'.ep → k0.alike k' ∧ β' i = β i) := by
    intro i k0 hk0; by_cases hi : i = id
    · subst hi; rw [hm] at hk0; obtain rfl := Option.some.inj hk0; exact ⟨_, setm_same _ _ _, Nat.le_refl _, fun _ => ⟨⟨rfl, hlen.symm⟩, b1 _⟩⟩
    · exact ⟨k0, by rw [setm_ne _ _ hi]; exact hk0, Nat.le_refl _, fun _ => ⟨k0.alike_refl, b1 _⟩⟩
  have hid : ∀ i b D, i ≠ id → β i = some (b, D) → w'.heap[b]? = w.heap[b]? := by
    intro i b D hi e; refine hout' b (h.dom i b D e).2.1 ?_; rintro (⟨D', e'⟩ | e')
    · exact hi (h.inj i id b D D' e e')
    · exact (h.own b id e').2.2.2 i D e
  have hown : ∀ i c, i ≠ id → β.own c = some i → w'.heap[c]? = w.heap[c]? := by
    intro i c hi e; refine hout' c (h.own c i e).2.1 ?_; rintro (⟨D', e'⟩ | e')
    · exact (h.own c i e).2.2.2 id D' e'
    · rw [e] at e'; exact hi (Option.some.inj e')
  refine ⟨β', { defers := h.defers.mono hA, size := h.size, hN := h.hN, os := hos.trans h.os, tape := htape.trans h.tape, output := ⟨hout.1.trans h.output.1, Nat.le_trans h.output.2 hout.2⟩, grow := ?_, old := ?_, dom := ?_, inj := ?_, own := ?_, blk := ?_, slot := fun s => (h.slot s).mono hA hmm, par := ?_ }⟩
  · rcases Nat.eq_zero_or_pos E.w0.heap.size with h0 | h0
    · omega
    · have hlt : E.w0.heap.size - 1 < w.heap.size := by have := h.grow; omega
      have hnh : ¬ Held β id (E.w0.heap.size - 1) := by
        rintro (⟨D, e⟩ | e)
        · obtain ⟨⟨k, hk, hkb⟩, _, h3⟩ := h.dom id _ D e; rcases h3 with h3 | h3
          · rw [hm] at hk; obtain rfl := Option.some.inj hk; have := hkb h3
            cases this
          · omega
        · have := (h.own _ id e).2.2.1; omega
      have := hb0 _ hlt (hout' _ hlt hnh); omega
  · intro b hb hn; (have hlt : b < w.heap.size := by have := h.grow; omega); refine (hout' b hlt ?_).trans (h.old b hb hn); rintro (⟨D, e⟩ | e)
    · rcases (h.dom id b D e).2.2 with h3 | h3
      · exact hn h3
      · omega
    · have := (h.own b id e).2.2.1; omega
  · intro i b D e; rw [b1] at e; obtain ⟨⟨k, hk, hkb⟩, d2, d3⟩ := h.dom i b D e; by_cases hi : i = id
    · subst hi; rw [hm] at hk; obtain rfl := Option.some.inj hk; exact ⟨⟨_, setm_same _ _ _, hkb⟩, (hT2 b D e).2, d3⟩
    · exact ⟨⟨k, by rw [setm_ne _ _ hi]; exact hk, hkb⟩, hb0 b d2 (hid i b D hi e), d3⟩
  · intro i j b D D' hi hj; rw [b1] at hi hj; exact h.inj i j b D D' hi hj
  · intro c i e; rcases b4 c i e with ⟨rfl, hT⟩ | ⟨hi, e⟩
    · obtain ⟨g1, g2⟩ := hT1 c hT; refine ⟨⟨_, setm_same _ _ _, rfl⟩, g2, ?_, fun j D ej => ?_⟩
      · rcases g1 with g1 | g1
        · exact (h.own c i g1).2.2.1
        · have := h.grow; omega
      · rw [b1] at ej; rcases g1 with g1 | g1
        · exact (h.own c i g1).2.2.2 j D ej
        · have := (h.dom j c D ej).2.1; omega
    · obtain ⟨⟨k, hk, ht⟩, o2, o3, o4⟩ := h.own c i e; exact ⟨⟨k, by rw [setm_ne _ _ hi]; exact hk, ht⟩, hb0 c o2 (hown i c hi e), o3, fun j D ej => o4 j D (by rw [← b1]; exact ej)⟩
  · intro i k hk; by_cases hi : i = id
    · subst hi; rw [setm_same] at hk; obtain rfl := Option.some.inj hk; exact hblk _ β' _ (b1 i) b2
    · rw [setm_ne _ _ hi] at hk; exact (h.blk i k hk).mono hA hmm (b1 i) (fun b D e => hid i b D hi e) fun _ c hc => ⟨b3 c i hi hc, hown i c hi hc⟩
  · intro i c hc; by_cases hi : i = id
    · subst hi; rw [setm_same] at hc; cases hc
    · rw [setm_ne _ _ hi] at hc; obtain ⟨b, D, p1, p2⟩ := h.par i c hc; exact ⟨b, D, p1, by rw [b1]; exact p2⟩

theorem st_putE (st : St) (d : Nat) (sv : SV) (m : List (Nat × Blk)) : (⟨(d, sv) :: st.slots, m⟩ : St).env = putE st.env (some d) sv := by
  funext s; show lookS _ s = _; simp only [lookS, putE]; rfl

theorem st_setm (l : List (Nat × SV)) (st : St) (id : Nat) (k : Blk) : (⟨l, (id, k) :: st.mem⟩ : St).memf = setm st.memf id k := by
  funext y; show lookM _ y = _; simp only [lookM, setm]; rfl

theorem AWO.mark {f : FuncId} {u : Ty} {pre : List u.den → Int → Prop} {mk : List u.den → Int → List u.den × Int} (hM : MarkC P f u pre mk) {i : Nat} {rest : List Nat} {d : Nat} {x y : Operand} {ats : Array TypeId} {type : TypeId} {pos : String} {after : Array Edge}
    {id ep : Nat} {xs : List u.den} {k : Int} {l : List Nat} (hl : l = i :: rest) (ho : ops[i]? = some ⟨some d, .call ⟨.value (.func f), #[x, y], ats⟩, type, pos, after, none⟩) (hd : dstOK N (some d) = true)
    (hx : opv st.env x = (.tr id ep, [])) (hy : opv st.env y = (.int .i64 k, [])) (hm : st.memf id = some (.tree ep u xs)) (hp : pre xs k)
    (h : AWO P E N ops rest Q ⟨(d, .int .i64 (mk xs k).2) :: st.slots, (id, .tree ep u (mk xs k).1) :: st.mem⟩) : AWO P E N ops l Q st := by
  rintro a w ⟨β, hs⟩; subst hl
  have hdN : ∀ d', some d = some d' → d' < N := by
    intro d' e; cases e; exact Nat.le_of_ble_eq_true hd
  obtain ⟨fn, c, hfn, hname, hb⟩ := hM.fn; have hxr := opv_rep hs hx (fun p hp => by cases hp); have hyr := opv_rep hs hy (fun p hp => by cases hp); generalize hxe : a.eval x = xv at hxr; generalize hye : a.eval y = yv at hyr
  cases hyr with
  | int _ _ lo hi =>
  cases hxr with
  | tr _ _ _ hmm h1 hv =>
    have hv := hv u xs (.of hm)
    have hrun : ∀ w, (execOp a.eval ⟨some d, .call ⟨.value (.func f), #[x, y], ats⟩, type, pos, after, none⟩).run P w = .ok (.enter f #[xv, .int .i64 k]) w := by
      intro w; simp only [execOp, resolve, Deferred.ofValue, Sem.run_bind, Sem.run_pure, Result.andThen_ok, invoke, callFunc, run_program, hfn, hname, hb, Bool.false_eq_true, if_false, Act.eval]; simp [hxe, hye]
    rw [wpOpsIn_cons]; unfold wpOpIn; simp only [ho]; rw [if_pos (by rfl)]; refine ⟨fun _ _ => trivial, ?_⟩; rw [Oper.semAt_eq _ _ _ (fun c e => by cases e), hrun w, Oper.uponIn_enter]; refine ⟨fun h => (by cases h), callsIn_fence ?_⟩; have hO := repO_tr hs hm hv; refine (hM.row w xv xs k (Held β id) hO ⟨lo, hi⟩ hp (fun c hc => ?_)).mono ?_
    · rcases hc with ⟨D, e⟩ | e
      · exact (hs.dom _ _ _ e).2.1
      · exact (hs.own _ _ e).2.1
    rintro e w' ⟨rfl, g0, g1, g2, g3, g4, g5⟩; obtain ⟨β', hs'⟩ := hs.marked hm (hM.len xs k) hv (Held β id) (fun _ h => h) g1 g2 g3 g4 g5; refine h _ w' ⟨β', ?_⟩; rw [st_setm, st_putE ⟨st.slots, st.mem⟩]; exact hs'.put hdN (.int _ _ g0.1 g0.2)

def markQ (C : Ctx) (vars : List ResultVar) (u : Ty) (r : List u.den × Int) : Exit → St → Prop
  | .normal, st | .ret, st => (retSVs C st.env vars).eval st.memf = some [.int .i64 r.2] ∧ st.env OFF = .tr 0 1 ∧ st.memf 0 = some (.tree 1 u r.1)
  | _, _ => False

theorem MarkC.of_body (hglob : ∀ w bs, Laid w bs) {f : FuncId} {fn : Func} {c : Code} {u : Ty} {pre : List u.den → Int → Prop} {mk : List u.den → Int → List u.den × Int} (hf : P.funcs[f]? = some fn) (hname : (fn.name == "runtime.NumGoroutine") = false) (hb : fn.body = some c) (hC : CtxTy P C)
    (hN : (Nat.ble 2 fn.ntmps && Nat.ble fn.ntmps OFF) = true) (hlen : ∀ xs k, (mk xs k).1.length = xs.length)
    (h : ∀ xs k, (xs.length : Int) ≤ 4294967296 → inR .i64 k → pre xs k → ∀ E, AW P E fn.ntmps c (markQ C fn.results.toList u (mk xs k)) ⟨[(0, .tr 0 1), (1, .int .i64 k), (OFF, .tr 0 1)], [(0, .tree 1 u xs)]⟩) : MarkC P f u pre mk where
  fn := ⟨fn, c, hf, hname, hb⟩
  len := hlen
  row := by
    intro w v xs k S hO hk hp hS
    classical
    simp only [Bool.and_eq_true] at hN; have hN1 := Nat.le_of_ble_eq_true hN.1; have hN2 := Nat.le_of_ble_eq_true hN.2; (have hOFF : 1 < OFF := by unfold OFF; decide); let E : Ent := { w0 := { w with heap := #[] }, A0 := fun _ => False, bs := [], wf := fun _ h => h.elim, wb := fun _ h => by simp at h, lay := hglob _ _, par := fun _ => none, outer := fun s => if s = OFF then v else undef, obj := fun b => if S b then none else w.heap[b]? }; have hE0 : E.w0.heap.size = 0 := rfl
    obtain ⟨bc, O, hbc, hO1, hsl, hlim, hblk⟩ : ∃ (bc : Option (Nat × Nat)) (O : Nat → Prop), (∀ b D, bc = some (b, D) → S b ∧ ¬ O b) ∧ (∀ b, O b → S b) ∧ SliceAt bc u.size 0 xs.length v ∧ (xs.length : Int) ≤ 4294967296 ∧
        ∀ (A : Nat → Prop) (β' : Bind) (mem' : Nat → Option Blk), β' 0 = bc → (∀ c, O c → β'.own c = some 0) → RepBlk A w β' mem' 0 (.tree 1 u xs) := by
      generalize hvs : [v] = vs at hO; generalize hyy : (xs : List u.den) = zs at hO
      cases hO with
      | nil =>
        simp only [List.cons.injEq, and_true] at hvs; exact ⟨none, fun _ => False, by simp, by simp, ⟨rfl, rfl, hvs⟩, by simp, fun A β' mem' hb _ => ⟨by simp, .inl ⟨hb, rfl⟩⟩⟩
      | slice _ _ b cap cs el css T S2 hl hh hsz hcap hSb hlen' hc hTS hd hrr =>
        subst hyy; simp only [List.cons.injEq, and_true] at hvs
        refine ⟨some (b, cap), fun c => ∃ i, i < xs.length ∧ T i c, fun b' D e => ?_, fun c ⟨i, hi, hc⟩ => (hTS i c hi hc).1, ⟨⟨b, 0, none⟩, by simpa using hvs, by omega, fun _ => by simp⟩, hl,
          fun A β' mem' hb ho => ⟨hl, .inr ⟨b, cap, cs, el, css, T, hb, hh, hsz, hcap, fun k c hk hc => ho c ⟨k, hk, hc⟩, fun j k c hj hk => hd j k c hj hk, fun k hk => ⟨hlen' k hk, fun j v hj => hc k j v hk hj, hrr k hk⟩⟩⟩⟩
        simp only [Option.some.injEq, Prod.mk.injEq] at e; obtain ⟨rfl, _⟩ := e; exact ⟨hSb, fun ⟨i, hi, hc⟩ => (hTS i b hi hc).2 rfl⟩
    let β : Bind := ⟨fun i => if i = 0 then bc else none, fun c => if O c then some 0 else none⟩
    have hβ : ∀ i b D, β i = some (b, D) → i = 0 ∧ bc = some (b, D) := by
      intro i b D e; by_cases hi : i = 0
      · subst hi; exact ⟨rfl, e⟩
      · change (if i = 0 then bc else none) = _ at e; rw [if_neg hi] at e; cases e
    have hβo : ∀ b i, β.own b = some i → i = 0 ∧ O b := by
      intro b i e; change (if O b then some 0 else none) = some i at e; by_cases ho : O b
      · rw [if_pos ho] at e; exact ⟨(Option.some.inj e).symm, ho⟩
      · rw [if_neg ho] at e; cases e
    have hvone : v.oneCell' = true := hO.one v (by simp); have hmem0 : lookM [(0, Blk.tree 1 u xs)] 0 = some (.tree 1 u xs) := rfl
    have hmemi : ∀ i k0, lookM [(0, Blk.tree 1 u xs)] i = some k0 → i = 0 ∧ k0 = .tree 1 u xs := by
      intro i k0 e; simp only [lookM] at e
      cases hb : Nat.beq i 0 with
      | true => rw [hb, cond_true] at e; exact ⟨Nat.eq_of_beq_eq_true hb, (Option.some.inj e).symm⟩
      | false => rw [hb, cond_false] at e; cases e
    have htr : ∀ (A : Nat → Prop), RepSV A w β (lookM [(0, Blk.tree 1 u xs)]) (.tr 0 1) v := by
      intro A; refine .tr _ _ _ ⟨_, hmem0, Nat.le_refl _⟩ hvone fun t zs hz => ?_; rw [hmem0] at hz; replace hz := hz.at; simp only [Option.some.injEq, Blk.tree.injEq, true_and] at hz; obtain ⟨rfl, hz⟩ := hz; obtain rfl := eq_of_heq hz; exact hsl
    have hsim : SimB E fn.ntmps (lookS [(0, .tr 0 1), (1, .int .i64 k), (OFF, .tr 0 1)]) (lookM [(0, Blk.tree 1 u xs)]) { tmps := [v, .int .i64 k].toArray ++ Array.replicate (fn.ntmps - [v, .int .i64 k].toArray.size) undef, defers := [] } w β := {
      defers := ⟨fun d hd => (by cases hd), List.nodup_nil, fun b o e => by
        change (if S b then none else w.heap[b]?) = some o at e; by_cases hSb : S b
        · rw [if_pos hSb] at e; cases e
        · rw [if_neg hSb] at e; refine ⟨⟨⟨(Array.getElem?_eq_some_iff.1 e).1, .inr (Nat.zero_le _), fun i D hi => hSb (hbc b D (hβ i b D hi).2).1, ?_⟩, Nat.zero_le _⟩, e⟩
          cases ho : β.own b with
          | none => rfl
          | some i => exact absurd (hO1 b (hβo b i ho).2) hSb⟩
      size := by simp only [Array.size_append, List.size_toArray, Array.size_replicate, List.length_cons, List.length_nil]; omega
      hN := hN2
      os := rfl, tape := rfl, output := ⟨rfl, Nat.le_refl _⟩, grow := Nat.zero_le _, old := fun b hb _ => absurd hb (Nat.not_lt_zero _)
      dom := fun i b D e => by
        obtain ⟨rfl, e⟩ := hβ i b D e; exact ⟨⟨_, hmem0, fun h => by cases h⟩, hS b (hbc b D e).1, .inr (Nat.zero_le _)⟩
      inj := fun i j b D D' e1 e2 => by rw [(hβ i b D e1).1, (hβ j b D' e2).1]
      own := fun b i e => by
        obtain ⟨rfl, ho⟩ := hβo b i e; exact ⟨⟨_, hmem0, rfl⟩, hS b (hO1 b ho), Nat.zero_le _, fun j D ej => (hbc b D (hβ j b D ej).2).2 ho⟩
      blk := fun i k0 e => by
        obtain ⟨rfl, rfl⟩ := hmemi i k0 e; exact hblk _ β _ rfl fun c hc => if_pos hc
      slot := fun s => by
        simp only [lookS]
        cases h0 : Nat.beq s 0 with
        | true =>
          obtain rfl := Nat.eq_of_beq_eq_true h0; rw [cond_true]; unfold slotV; rw [if_pos (by omega)]; (have : ([v, .int .i64 k].toArray ++ Array.replicate (fn.ntmps - [v, .int .i64 k].toArray.size) undef).getD 0 undef = v := by simp [Array.getElem?_append]); simp only [this]; exact htr _
        | false =>
          rw [cond_false]
          cases h1 : Nat.beq s 1 with
          | true =>
            obtain rfl := Nat.eq_of_beq_eq_true h1; rw [cond_true]; unfold slotV; rw [if_pos hOFF]; (have : ([v, .int .i64 k].toArray ++ Array.replicate (fn.ntmps - [v, .int .i64 k].toArray.size) undef).getD 1 undef = .int .i64 k := by simp [Array.getElem?_append]); simp only [this]; exact .int _ _ hk.1 hk.2
          | false =>
            rw [cond_false]
            cases h2 : Nat.beq s OFF with
            | true =>
              obtain rfl := Nat.eq_of_beq_eq_true h2; rw [cond_true]; unfold slotV; rw [if_neg (Nat.lt_irrefl _)]; show RepSV _ _ _ _ _ (if OFF = OFF then v else undef); rw [if_pos rfl]; exact htr _
            | false => rw [cond_false]; exact .top _
      par := fun i c e => by have := (hmemi i _ e).2; cases this }
    have haw := h xs k hlim hk hp E _ w ⟨β, hsim⟩; refine callsIn_wide.1 (callsIn_of_wp_marks (n := 0) (F := Fence.wide) hf hb trivial (wpIn_mono haw ?_)); rintro e a' w' ⟨st, ⟨β', hs⟩, hq⟩
    have key : markQ C fn.results.toList u (mk xs k) .ret st → LeavesInM Fence.wide 0 P fn a'.tmps (fun e w' => e = .returned (.int .i64 (mk xs k).2) ∧ inR .i64 (mk xs k).2 ∧ w'.os = w.os ∧ w'.tape = w.tape ∧ (w'.output = w.output ∧ U.dr w.drawn ≤ U.dr w'.drawn) ∧
        (∀ c, c < w.heap.size → ¬ S c → w'.heap[c]? = w.heap[c]?) ∧ RepO w' (.slice u) (mk xs k).1 [v] (fun c => S c ∨ w.heap.size ≤ c)) a'.defers .returning w' := by
      rintro ⟨q1, q2, q3⟩; refine leaves_marks a'.defers hs fun w' hs => ?_; obtain ⟨rvs, r1, r2, r3, r4⟩ := retSVs_sound hs hC q1; obtain ⟨x, rfl⟩ : ∃ x, rvs = [x] := List.length_eq_one_iff.1 r2.symm; have hx := r4 0 _ x rfl rfl
      have hpin : ∀ c, c < w.heap.size → ¬ S c → allow E w' β' c ∧ w'.heap[c]? = w.heap[c]? := by
        intro c hc hn; have e1 : w.heap[c]? = some w.heap[c] := Array.getElem?_eq_getElem hc; have := hs.defers.objs c w.heap[c] (by show (if S c then none else w.heap[c]?) = _; rw [if_neg hn, e1]); exact ⟨this.1.1, this.2.trans e1.symm⟩
      cases hx with
      | int _ _ lo hi =>
        refine ⟨.int .i64 (mk xs k).2, ?_, rfl, ⟨lo, hi⟩, hs.os, hs.tape, hs.output, fun c hc hn => (hpin c hc hn).2, ?_⟩
        · unfold results; simp only [Sem.run_bind]; rw [run_mapM (P := P) (w := w') _ fn.results [.int .i64 (mk xs k).2] (by simpa using r1) (fun i hi hi' => ?_)]
          · simp only [Result.andThen_ok, Sem.run_pure]; rw [packV_arr]; rfl
          · have := r3 i hi hi'
            cases hv : fn.results.toList[i] with
            | tmp t => rw [hv] at this; exact this
            | cell x t => rw [hv] at this; exact this
        · have hsl := hs.slot OFF; rw [q2] at hsl
          have e1 : slotV E { a' with defers := [] } OFF = v := by
            unfold slotV; rw [if_neg (Nat.lt_irrefl _)]; exact if_pos rfl
          rw [e1] at hsl
          cases hsl with
          | tr _ _ _ _ _ hv =>
            refine (repO_tr hs q3 (hv _ _ (.of q3))).mono fun c hc => ⟨?_, rfl⟩; by_cases hcs : c < w.heap.size
            · by_cases hSc : S c
              · exact .inl hSc
              · obtain ⟨⟨_, _, h3, h4⟩, _⟩ := hpin c hcs hSc; rcases hc with ⟨D, hc⟩ | hc
                · exact absurd hc (h3 0 D)
                · rw [h4] at hc; cases hc
            · exact .inr (by omega)
    cases e with
    | normal => exact key hq
    | ret => exact key hq
    | _ => exact hq.elim

end
end Go.Am

namespace Go.Am
variable [U : Univ]
attribute [local irreducible] OFF
section
variable {P : Program} {C : Ctx} {st : St}

theorem MarkC.of_fuel {f : FuncId} {u : Ty} {mk : Nat → List u.den → Int → List u.den × Int} {mu : List u.den → Nat} (h : ∀ n, MarkC P f u (fun xs _ => mu xs < n) (mk n)) (mu' : List u.den → Nat) (e : ∀ xs, mu xs = mu' xs := by intro; rfl) :
    MarkC P f u (fun _ _ => True) (fun xs k => mk (mu' xs + 1) xs k) where
  fn := (h 0).fn
  len := fun xs k => (h _).len xs k
  row := fun w v xs k S hO hk _ hS => (h (mu' xs + 1)).row w v xs k S hO hk (by rw [e]; exact Nat.lt_succ_self _) hS

end
end Go.Am
