/-
  Am, part R: an operation in its region.
-/
import Derived.Test.YtjcjpeckfikfkaaAmP
set_option linter.all false
namespace Go.Am
variable [U : Univ]

theorem RepV.conv {A A' : Nat → Prop} {w w' : World} {t : Ty} {x : t.den} {v : Value} (hc : ∀ cs, RepC A w t x cs → RepC A' w' t x cs) (h : RepV A w t x v) : RepV A' w' t x v := by
  cases h with
  | agg n x cs h => exact .agg n x cs (hc cs h)
  | one t x v ht h => exact .one t x v ht (hc _ h)

def RK.ty : RK → Ty
  | .err => .bool
  | .val t | .own t | .deep t => t
  | .ptr n => .named n
  | .clo _ t => .slice t

def RK.isDeep : RK → Bool
  | .deep _ => true
  | _ => false

theorem RK.flat_ty {r : RK} (hd : r.isDeep = false) (h : r.flat = true) : r.ty.flatN fuel = true := by
  cases r <;> first | rfl | exact h | cases hd

section
variable {E : Ent} {N : Nat} {env : Nat → SV} {mem : Nat → Option Blk} {a : Act} {w : World} {β : Bind} {P : Program} {C : Ctx}

theorem ress_sound {A' : Nat → Prop} {w' : World} : ∀ {rs : List RK} {id : Nat} {tvs : List TV} {svs : List SV} {ms : List (Nat × Blk)} {rvs : List Value} {nb : List Nat},
    (ressOf id rs tvs).eval mem = some (svs, ms) → RepRess A' w' rs tvs rvs nb → nb.Nodup →
    ∃ hi bc O, Fresh mem id hi ms (fun b => b ∈ nb) bc O ∧
      ∀ (Q : Nat → Prop) (β' : Bind) (mem' : Nat → Option Blk), (∀ r ∈ rs, r.isDeep = false → ∀ (x : r.ty.den) (cs : List Value), RepC A' w' r.ty x cs → RepC Q w' r.ty x cs) →
        Look ms bc O β' mem' →
        svs.length = rvs.length ∧ (∀ (i : Nat) (sv : SV) (v : Value), svs[i]? = some sv → rvs[i]? = some v → RepSV Q w' β' mem' sv v) ∧
          ∀ (i : Nat) (k : Blk), (i, k) ∈ ms → RepBlk Q w' β' mem' i k := by
  intro rs
  induction rs with
  | nil =>
    intro id tvs svs ms rvs nb hs hr _; cases hr; simp only [ressOf, Rd.eval, Option.some.injEq, Prod.mk.injEq] at hs; obtain ⟨rfl, rfl⟩ := hs; exact ⟨id, _, _, Fresh.nil id id (Nat.le_refl _) _, fun Q β' mem' _ _ => ⟨rfl, by simp, by simp⟩⟩
  | cons r rs ih =>
    intro id tvs svs ms rvs nb hs hr hnd
    cases tvs with
    | nil => simp [ressOf, Rd.eval] at hs
    | cons tv tvs =>
      simp only [ressOf] at hs; obtain ⟨⟨sv, m1⟩, h1, hs⟩ := Rd.bind_some hs; obtain ⟨⟨svs', m2⟩, h2, hs⟩ := Rd.bind_some hs; simp only [Rd.eval, Option.some.injEq, Prod.mk.injEq] at hs; obtain ⟨rfl, rfl⟩ := hs
      -- one result and the rest
      have more : ∀ {mid : Nat} {S1 : Nat → Prop} {bc1 : Nat → Option (Nat × Nat)} {O1 : Nat → Nat → Prop} {rvs : List Value} {nb nb1 : List Nat} {v : Value}, mid ≤ id + max 1 m1.length → Fresh mem id mid m1 S1 bc1 O1 → RepRess A' w' rs tvs rvs nb → nb.Nodup →
          (∀ b, S1 b → b ∈ nb1) → (∀ b, b ∈ nb → b ∈ nb1) → (∀ b, S1 b → b ∉ nb) →
          (∀ (Q : Nat → Prop) (β' : Bind) (mem' : Nat → Option Blk), (r.isDeep = false → ∀ (x : r.ty.den) (cs : List Value), RepC A' w' r.ty x cs → RepC Q w' r.ty x cs) → Look m1 bc1 O1 β' mem' →
            RepSV Q w' β' mem' sv v ∧ ∀ (i : Nat) (k : Blk), (i, k) ∈ m1 → RepBlk Q w' β' mem' i k) →
          ∃ hi bc O, Fresh mem id hi (m1 ++ m2) (fun b => b ∈ nb1) bc O ∧
            ∀ (Q : Nat → Prop) (β' : Bind) (mem' : Nat → Option Blk), (∀ r' ∈ r :: rs, r'.isDeep = false → ∀ (x : r'.ty.den) (cs : List Value), RepC A' w' r'.ty x cs → RepC Q w' r'.ty x cs) →
              Look (m1 ++ m2) bc O β' mem' →
              (sv :: svs').length = (v :: rvs).length ∧ (∀ (i : Nat) (sv' : SV) (v' : Value), (sv :: svs')[i]? = some sv' → (v :: rvs)[i]? = some v' → RepSV Q w' β' mem' sv' v') ∧
                ∀ (i : Nat) (k : Blk), (i, k) ∈ m1 ++ m2 → RepBlk Q w' β' mem' i k := by
        intro mid S1 bc1 O1 rvs nb nb1 v hmid f1 hrest hnd hs1 hs2 hdis hone; obtain ⟨hi, bc2, O2, f2, g2⟩ := ih h2 hrest hnd; have f1' : Fresh mem id (id + max 1 m1.length) m1 S1 bc1 O1 := { f1 with le := by omega, rng := fun i k hk => ⟨⟨(f1.rng i k hk).1.1, by have := (f1.rng i k hk).1.2; omega⟩, (f1.rng i k hk).2⟩ }; obtain ⟨f, hl⟩ := f1'.append f2 hs1 hs2 hdis; refine ⟨hi, _, _, f, fun Q β' mem' hc hlook => ?_⟩; obtain ⟨l1, l2⟩ := hl β' mem' hlook; obtain ⟨o1, o2⟩ := hone Q β' mem' (hc r (by simp)) l1; obtain ⟨q1, q2, q3⟩ := g2 Q β' mem' (fun r' hr' => hc r' (by simp [hr'])) l2; refine ⟨by simp [q1], fun i sv' v' hi hj => ?_, fun i k hk => ?_⟩
        · cases i with
          | zero =>
            simp only [List.getElem?_cons_zero, Option.some.injEq] at hi hj; subst hi hj; exact o1
          | succ i => exact q2 i sv' v' (by simpa using hi) (by simpa using hj)
        · rcases List.mem_append.1 hk with hk | hk
          · exact o2 i k hk
          · exact q3 i k hk
      cases hr with
      | val t x v rs tvs vs nb h k =>
        simp only [resOf] at h1; simp only [↓reduceIte] at h1; simp only [Rd.eval, Option.some.injEq, Prod.mk.injEq] at h1; obtain ⟨rfl, rfl⟩ := h1; refine more (S1 := fun _ => False) (by simp) (Fresh.nil id id (Nat.le_refl _) _) k hnd (fun b h => h.elim) (fun b h => h) (fun b h => h.elim) fun Q β' mem' hc _ => ⟨RepSV.ofTV (h.conv fun cs hcs => hc rfl x cs hcs), by simp⟩
      | clo f t x b off rs tvs vs nb h k =>
        simp only [resOf] at h1; simp only [↓reduceIte] at h1; simp only [Rd.eval, Option.some.injEq, Prod.mk.injEq] at h1; obtain ⟨rfl, rfl⟩ := h1; refine more (S1 := fun _ => False) (by simp) (Fresh.nil id id (Nat.le_refl _) _) k hnd (fun b h => h.elim) (fun b h => h) (fun b h => h.elim) fun Q β' mem' hc _ => ⟨?_, by simp⟩; have h' : RepC Q w' (.slice t) ([x] : List t.den) [.slice (some ⟨b, off, none⟩) 1 1] := hc rfl ([x] : List t.den) _ h; generalize hxs : ([x] : List t.den) = xs at h'; generalize hcs : [Value.slice (some ⟨b, off, none⟩) 1 1] = cs at h'
        cases h' with
        | nil => cases hxs
        | slice _ _ ad cap css hl hcap hA hs hlen hcc hrr =>
          subst hxs; simp only [List.cons.injEq, Value.slice.injEq, Option.some.injEq, and_true] at hcs; obtain ⟨rfl, _, _⟩ := hcs; refine .clo f [.dref t x] [.pointer (some ⟨b, off, none⟩)] rfl ?_; intro i sv v hi hv
          cases i with
          | succ i => cases hi
          | zero =>
            simp only [List.getElem?_cons_zero, Option.some.injEq] at hi hv; subst hi hv; refine .dref t x b off (css 0) (hA (by simp)) (fun j v hj => ?_) (hrr 0 (by simp)); have := hcc 0 j v (by simp) hj
            simpa using this
      | err0 rs tvs vs nb k =>
        simp only [resOf, Rd.eval, Option.some.injEq, Prod.mk.injEq] at h1; obtain ⟨rfl, rfl⟩ := h1; exact more (S1 := fun _ => False) (by simp) (Fresh.nil id id (Nat.le_refl _) _) k hnd (fun b h => h.elim) (fun b h => h) (fun b h => h.elim) fun Q β' mem' hc _ => ⟨.err0, by simp⟩
      | err1 T v rs tvs vs nb k =>
        simp only [resOf, Rd.eval, Option.some.injEq, Prod.mk.injEq] at h1; obtain ⟨rfl, rfl⟩ := h1; exact more (S1 := fun _ => False) (by simp) (Fresh.nil id id (Nat.le_refl _) _) k hnd (fun b h => h.elim) (fun b h => h) (fun b h => h.elim) fun Q β' mem' hc _ => ⟨.err1 T v, by simp⟩
      | ownNil t rs tvs vs nb k =>
        simp only [resOf] at h1; simp only [↓reduceIte] at h1; obtain ⟨ep, hep, h1⟩ := Rd.bind_some h1; simp only [Rd.eval, Option.some.injEq, Prod.mk.injEq] at h1; obtain ⟨rfl, rfl⟩ := h1; refine more (S1 := fun _ => False) (by simp) (Fresh.one none (fun _ => False) (freshEp_some hep) (by simp) (by simp)) k hnd (fun b h => h.elim) (fun b h => h) (fun b h => h.elim) fun Q β' mem' hc hl => ?_; obtain ⟨hm, hb, _⟩ := hl.one; refine ⟨?_, fun i k hk => ?_⟩
        · refine .arr _ _ _ ⟨_, hm, Nat.le_refl _⟩ rfl fun u zs hz => ?_; rw [hm] at hz; simp only [Option.some.injEq, Blk.arr.injEq, true_and] at hz; obtain ⟨rfl, hz⟩ := hz; obtain rfl := eq_of_heq hz; rw [hb]; exact ⟨rfl, rfl, rfl⟩
        · simp only [List.mem_singleton, Prod.mk.injEq] at hk; obtain ⟨rfl, rfl⟩ := hk; exact ⟨by simp, .inl ⟨hb, rfl⟩⟩
      | own t xs b D cs el css rs tvs vs nb hl hh hsz hD hel k =>
        simp only [resOf] at h1; simp only [↓reduceIte] at h1; obtain ⟨ep, hep, h1⟩ := Rd.bind_some h1; simp only [Rd.eval, Option.some.injEq, Prod.mk.injEq] at h1; obtain ⟨rfl, rfl⟩ := h1; obtain ⟨hnd1, hnd2⟩ := List.nodup_cons.1 hnd
        refine more (S1 := fun c => c = b) (by simp) (Fresh.one (some (b, D)) (fun _ => False) (freshEp_some hep) (fun b' D' e => by simp only [Option.some.injEq, Prod.mk.injEq] at e; exact ⟨e.1.symm, fun h => h⟩) (by simp)) k hnd2
          (fun c h => by rw [h]; simp) (fun c h => List.mem_cons_of_mem _ h) (fun c h => by rw [h]; exact hnd1) fun Q β' mem' hc hl => ?_
        obtain ⟨hm, hb, _⟩ := hl.one; refine ⟨?_, fun i k hk => ?_⟩
        · refine .arr _ _ _ ⟨_, hm, Nat.le_refl _⟩ rfl fun u zs hz => ?_; rw [hm] at hz; simp only [Option.some.injEq, Blk.arr.injEq, true_and] at hz; obtain ⟨rfl, hz⟩ := hz; obtain rfl := eq_of_heq hz; rw [hb]; exact ⟨_, rfl, by omega, fun _ => by simp⟩
        · simp only [List.mem_singleton, Prod.mk.injEq] at hk; obtain ⟨rfl, rfl⟩ := hk; refine ⟨by assumption, .inr ⟨b, D, cs, el, css, hb, hh, hsz, hD, fun k hk => ?_⟩⟩; obtain ⟨e1, e2, e3⟩ := hel k hk; exact ⟨e1, e2, hc rfl _ _ e3⟩
      | ptr n x b cs el rs tvs vs nb hh hrc k =>
        simp only [resOf] at h1; simp only [↓reduceIte] at h1; obtain ⟨ep, hep, h1⟩ := Rd.bind_some h1; simp only [Rd.eval, Option.some.injEq, Prod.mk.injEq] at h1; obtain ⟨rfl, rfl⟩ := h1; obtain ⟨hnd1, hnd2⟩ := List.nodup_cons.1 hnd
        refine more (S1 := fun c => c = b) (by simp) (Fresh.one (some (b, 0)) (fun _ => False) (freshEp_some hep) (fun b' D' e => by simp only [Option.some.injEq, Prod.mk.injEq] at e; exact ⟨e.1.symm, fun h => h⟩) (by simp)) k hnd2
          (fun c h => by rw [h]; simp) (fun c h => List.mem_cons_of_mem _ h) (fun c h => by rw [h]; exact hnd1) fun Q β' mem' hc hl => ?_
        obtain ⟨hm, hb, _⟩ := hl.one; refine ⟨.ref _ _ _ _ ⟨_, hm, Nat.le_refl _⟩ fun cells _ => ⟨0, hb⟩, fun i k hk => ?_⟩; simp only [List.mem_singleton, Prod.mk.injEq] at hk; obtain ⟨rfl, rfl⟩ := hk; have hrc' : RepC Q w' (.named n) x cs.toList := hc rfl x _ hrc; obtain ⟨c1, c2⟩ := cellsOf_rep (β := β') (mem := mem') fuel hrc'; refine ⟨b, 0, cs, el, hb, hh, by rw [c1]; simp, fun j sv hj => ?_⟩; (have hj' : j < cs.toList.length := by rw [← c1]; exact (List.getElem?_eq_some_iff.1 hj).1); exact ⟨cs.toList[j], by simpa using hj', hrc'.one _ (List.getElem_mem hj'), c2 j sv _ hj (List.getElem?_eq_getElem hj')⟩
      | deep t x v bs rs tvs vs nb h k =>
        simp only [resOf] at h1; simp only [↓reduceIte] at h1; have hnd' := List.nodup_append.1 hnd
        have key : ∃ (cells : List SV) (cs : List Value), Got w' mem id cells cs m1 (fun b => b ∈ bs) ∧ ∀ (Q : Nat → Prop) (β' : Bind) (mem' : Nat → Option Blk), cells.length = cs.length →
            (∀ (i : Nat) (sv : SV) (v : Value), cells[i]? = some sv → cs[i]? = some v → RepSV Q w' β' mem' sv v) → RepSV Q w' β' mem' sv v := by
          cases t with
          | named n =>
            simp only [deepSV] at h1; obtain ⟨⟨cells, m⟩, hc1, h3⟩ := Rd.bind_some h1; simp only [Rd.eval, Option.some.injEq, Prod.mk.injEq] at h3; obtain ⟨rfl, rfl⟩ := h3
            cases h with
            | agg n x cs S h => exact ⟨cells, cs, deepCells_sound fuel id _ x cs _ cells m hc1 h, fun Q β' mem' g1 g2 => .agg _ _ g1 h.one g2⟩
            | one t x v S ht h => exact absurd rfl (ht n)
          | slice u =>
            simp only [deepSV] at h1; obtain ⟨⟨cells, m⟩, hc1, h3⟩ := Rd.bind_some h1
            cases h with
            | one t x v S ht h =>
              match cells, h3 with
              | [sv0], h3 =>
                simp only [Rd.eval, Option.some.injEq, Prod.mk.injEq] at h3; obtain ⟨rfl, rfl⟩ := h3; exact ⟨[sv0], [v], deepCells_sound fuel id _ x [v] _ [sv0] m hc1 h, fun Q β' mem' g1 g2 => g2 0 sv0 v rfl rfl⟩
              | [], h3 => simp [Rd.eval] at h3
              | _ :: _ :: _, h3 => simp [Rd.eval] at h3
          | _ => simp [deepSV, Rd.eval] at h1
        obtain ⟨cells, cs, ⟨bc, O, f, g⟩, hsv⟩ := key
        exact more (nb1 := bs ++ nb) (v := v) (by omega) f k hnd'.2.1 (fun b h => List.mem_append_left _ h) (fun b h => List.mem_append_right _ h) (fun b h h' => hnd'.2.2 b h b h' rfl) fun Q β' mem' _ hl => by
          obtain ⟨g1, g2, g3⟩ := g Q β' mem' hl; exact ⟨hsv Q β' mem' g1 g2, g3⟩

theorem boxes_sound {A' : Nat → Prop} {w' : World} : ∀ {ns ids bs : List Nat} {tvs : List TV} {bw : List (Nat × Blk)}, (boxesOf ids tvs).eval mem = some bw → RepBoxes A' w' ns tvs bs →
    bw.map (·.1) = ids ∧ ids.length = bs.length ∧ (∀ id k, (id, k) ∈ bw → ∃ k0, mem id = some k0 ∧ k0.ep = k.ep ∧ k.isBox = true) ∧
      ∀ (Q : Nat → Prop) (β' : Bind) (mem' : Nat → Option Blk), (∀ n ∈ ns, ∀ (x : U.R n) (cs : List Value), RepC A' w' (.named n) x cs → RepC Q w' (.named n) x cs) →
        (∀ i (h : i < ids.length) (h' : i < bs.length), ∃ D, β' ids[i] = some (bs[i], D)) → ∀ id k, (id, k) ∈ bw → RepBlk Q w' β' mem' id k := by
  intro ns ids
  induction ids generalizing ns with
  | nil =>
    intro bs tvs bw hs hr
    cases tvs with
    | nil =>
      simp only [boxesOf, Rd.eval, Option.some.injEq] at hs; subst hs; cases hr; exact ⟨rfl, rfl, by simp, by simp⟩
    | cons => simp [boxesOf, Rd.eval] at hs
  | cons id ids ih =>
    intro bs tvs bw hs hr
    cases tvs with
    | nil => simp [boxesOf, Rd.eval] at hs
    | cons tv tvs =>
      obtain ⟨t, x⟩ := tv; simp only [boxesOf] at hs; replace hs := Rd.mem_some hs
      cases hmi : mem id with
      | none => rw [hmi] at hs; simp [Rd.eval] at hs
      | some k =>
        rw [hmi] at hs; simp only at hs; obtain ⟨r, hr', hs⟩ := Rd.bind_some hs; simp only [Rd.eval, Option.some.injEq] at hs; subst hs
        cases hr with
        | cons n x b cs el ns tvs bs hh hrc hk =>
          obtain ⟨g1, g2, g3, g4⟩ := ih hr' hk; refine ⟨by simp [g1], by simp [g2], ?_, ?_⟩
          · intro i k' hm; rcases List.mem_cons.1 hm with hm | hm
            · simp only [Prod.mk.injEq] at hm; obtain ⟨rfl, rfl⟩ := hm; exact ⟨k, hmi, rfl, rfl⟩
            · exact g3 i k' hm
          · intro Q β' mem' hc hβ i k' hm; rcases List.mem_cons.1 hm with hm | hm
            · simp only [Prod.mk.injEq] at hm; obtain ⟨rfl, rfl⟩ := hm; obtain ⟨D, hb⟩ := hβ 0 (by simp) (by simp); have hrc' := hc n (by simp) x _ hrc; obtain ⟨c1, c2⟩ := cellsOf_rep (β := β') (mem := mem') fuel hrc'; refine ⟨b, D, cs, el, hb, hh, by rw [c1]; simp, fun j sv hj => ?_⟩; (have hj' : j < cs.toList.length := by rw [← c1]; exact (List.getElem?_eq_some_iff.1 hj).1); exact ⟨cs.toList[j], by simpa using hj', hrc'.one _ (List.getElem_mem hj'), c2 j sv _ hj (List.getElem?_eq_getElem hj')⟩
            · exact g4 Q β' mem' (fun n hn => hc n (by simp [hn])) (fun j h1 h2 => by
                have := hβ (j + 1) (by simpa using h1) (by simpa using h2)
                simpa using this) i k' hm

theorem after_call (h : SimB E N env mem a w β) {B : Nat → Prop} {sp : FnSpec} {tvs : List TV} {bs bs' : List Nat} {id : Nat} {svs : List SV} {ms bw : List (Nat × Blk)}
    (hbox : ∀ id ∈ bs, ∃ ep cells, mem id = some (.box ep cells)) (hbl : bs.length = bs'.length) (hbb : ∀ i (h : i < bs.length) (h' : i < bs'.length), ∃ D, β bs[i] = some (bs'[i], D)) (hbn : bs.Nodup)
    (hBlt : ∀ b, allow E w β b → b ∉ bs')
    (hms : (ressOf id sp.rs (sp.fn tvs)).eval mem = some (svs, ms)) (hbw : (boxesOf bs (sp.bx tvs)).eval mem = some bw) (hdis : ∀ i ∈ ms.map (·.1), i ∉ bs)
    (hconv : (∀ b, B b → allow E w β b) ∨ (sp.rs.all RK.flat = true ∧ sp.ps.all PK.flat = true))
    {e : Ending} {w' : World} {rvs : List Value} {nb : List Nat} {A' : Nat → Prop} (hp : Post B w bs' sp tvs e w' rvs nb A') :
    ∃ β', SimB E N env (updm mem (ms ++ bw)) a w' β' ∧ svs.length = rvs.length ∧
      ∀ (i : Nat) (sv : SV) (v : Value), svs[i]? = some sv → rvs[i]? = some v → RepSV (allow E w' β') w' β' (updm mem (ms ++ bw)) sv v := by
  obtain ⟨hi, bc, O, hfr, g5⟩ := ress_sound hms hp.ress hp.nodup; obtain ⟨b1, b2, b3, b4⟩ := boxes_sound hbw hp.boxes; have hmsn : (ms.map (·.1)).Nodup := hfr.nd
  have hnd : ((ms ++ bw).map (·.1)).Nodup := by
    rw [List.map_append, b1]; exact List.nodup_append.2 ⟨hmsn, hbn, fun x hx y hy e => hdis x hx (e ▸ hy)⟩
  -- the bindings of the new names
  obtain ⟨β', hβm, hβo1, hβo2, hβo3⟩ : ∃ β' : Bind, (∀ i, β' i = if i ∈ ms.map (·.1) then bc i else β i) ∧ (∀ i b, O i b → β'.own b = some i) ∧ (∀ b i, β.own b = some i → i ∉ ms.map (·.1) → (∀ j, ¬ O j b) → β'.own b = some i) ∧
      ∀ b i, β'.own b = some i → O i b ∨ (β.own b = some i ∧ i ∉ ms.map (·.1)) := by
    classical
    refine ⟨⟨fun i => if i ∈ ms.map (·.1) then bc i else β i, fun b => if h : ∃ i, O i b then some (Classical.choose h) else match β.own b with | some i => if i ∈ ms.map (·.1) then none else some i | none => none⟩, fun _ => rfl, fun i b h => ?_, fun b i h h2 h3 => ?_, fun b i h => ?_⟩
    · have hx : ∃ i, O i b := ⟨i, h⟩; show (if h : ∃ i, O i b then some (Classical.choose h) else _) = some i; rw [dif_pos hx, hfr.oinj _ _ _ (Classical.choose_spec hx) h]
    · have hx : ¬ ∃ i, O i b := fun ⟨j, hj⟩ => h3 j hj; show (if h : ∃ i, O i b then some (Classical.choose h) else _) = some i; rw [dif_neg hx, h]; simp only [if_neg h2]
    · change (if h : ∃ i, O i b then some (Classical.choose h) else match β.own b with | some i => if i ∈ ms.map (·.1) then none else some i | none => none) = some i at h; split at h
      · rename_i hx; obtain rfl := Option.some.inj h; exact .inl (Classical.choose_spec hx)
      · split at h
        · rename_i k hk; split at h
          · cases h
          · rename_i hn; obtain rfl := Option.some.inj h; exact .inr ⟨hk, hn⟩
        · cases h
  have hmem : ∀ i, updm mem (ms ++ bw) i = match findPart i (ms ++ bw) with | some k => some k | none => mem i := fun i => updm_find _ _ _ hnd
  have inms : ∀ i k, (i, k) ∈ ms → i ∈ ms.map (·.1) := fun i k h => List.mem_map.2 ⟨(i, k), h, rfl⟩
  have lookm : ∀ i k, (i, k) ∈ ms → updm mem (ms ++ bw) i = some k := by
    intro i k h; obtain ⟨j, hj⟩ := List.mem_iff_getElem?.1 (List.mem_append_left bw h); rw [hmem, findPart_get hnd hj]
  have look : Look ms bc O β' (updm mem (ms ++ bw)) := fun i k h => ⟨lookm i k h, by rw [hβm, if_pos (inms i k h)], fun b hb => hβo1 i b hb⟩; have oldβ : ∀ i, i ∉ ms.map (·.1) → β' i = β i := fun i hi => by rw [hβm, if_neg hi]
  have blocks : ∀ i b D, β' i = some (b, D) → (i ∉ ms.map (·.1) ∧ β i = some (b, D)) ∨ (i ∈ ms.map (·.1) ∧ bc i = some (b, D) ∧ b ∈ nb) := by
    intro i b D hb; by_cases hi : i ∈ ms.map (·.1)
    · rw [hβm, if_pos hi] at hb; exact .inr ⟨hi, hb, (hfr.bcS i b D hb).1⟩
    · exact .inl ⟨hi, by rw [← oldβ i hi]; exact hb⟩
  have hOnew : ∀ i b, O i b → w.heap.size ≤ b ∧ b < w'.heap.size := fun i b h => hp.new b (hfr.oS i b h).1
  have hA : ∀ b, allow E w β b → allow E w' β' b ∧ w'.heap[b]? = w.heap[b]? := by
    intro b hb; obtain ⟨h1, h2, h3, ho⟩ := hb; refine ⟨⟨by have := hp.grow; omega, h2, fun i D e => ?_, ?_⟩, hp.old b h1 (hBlt b ⟨h1, h2, h3, ho⟩)⟩
    · rcases blocks i b D e with ⟨_, h4⟩ | ⟨_, _, h4⟩
      · exact h3 i D h4
      · have := (hp.new b h4).1; omega
    · cases hx : β'.own b with
      | none => rfl
      | some i =>
        rcases hβo3 b i hx with h4 | ⟨h4, _⟩
        · have := (hOnew i b h4).1; omega
        · rw [ho] at h4; cases h4
  have hup : ∀ b, (∀ b, B b → allow E w β b) → A' b → allow E w' β' b := by
    intro b hB hb; obtain ⟨h1, h2, h3⟩ := hp.allowed b hb; rcases h2 with h2 | h2
    · exact (hA b (hB b h2)).1
    · refine ⟨h1, .inr (by have := h.grow; omega), fun i D e => ?_, ?_⟩
      · rcases blocks i b D e with ⟨_, h4⟩ | ⟨_, _, h4⟩
        · have := (h.dom i b D h4).2.1; omega
        · exact h3 h4
      · cases hx : β'.own b with
        | none => rfl
        | some i =>
          rcases hβo3 b i hx with h4 | ⟨h4, _⟩
          · exact absurd (hfr.oS i b h4).1 h3
          · have := (h.own b i h4).2.1; omega
  have conv : ∀ (t : Ty), t.flatN fuel = true ∨ (∀ b, B b → allow E w β b) → ∀ (x : t.den) (cs : List Value), RepC A' w' t x cs → RepC (allow E w' β') w' t x cs := by
    intro t ht x cs hc; rcases ht with ht | hB
    · exact hc.flat fuel ht
    · exact hc.mono fun b hb => ⟨hup b hB hb, rfl⟩
  obtain ⟨q1, q2, q3⟩ := g5 (allow E w' β') β' (updm mem (ms ++ bw)) (fun r hr hrd => conv r.ty (by
    rcases hconv with hc | hc
    · exact .inr hc
    · exact .inl (RK.flat_ty hrd (List.all_eq_true.1 hc.1 r hr)))) look
  have boxN : ∀ n ∈ boxNs sp.ps, (Ty.named n).flatN fuel = true ∨ (∀ b, B b → allow E w β b) := by
    intro n hn; rcases hconv with hc | hc
    · exact .inr hc
    · refine .inl ?_
      have : ∀ ps : List PK, ps.all PK.flat = true → n ∈ boxNs ps → (Ty.named n).flatN fuel = true := by
        intro ps
        induction ps with
        | nil => intro _ h; cases h
        | cons p ps ih =>
          intro h hm; simp only [List.all_cons, Bool.and_eq_true] at h
          cases p with
          | box m =>
            rcases List.mem_cons.1 hm with rfl | hm
            · exact h.1
            · exact ih h.2 hm
          | val t => exact ih h.2 hm
          | rd t => exact ih h.2 hm
          | clo f t => exact ih h.2 hm
      exact this sp.ps hc.2 hn
  have q4 := b4 (allow E w' β') β' (updm mem (ms ++ bw)) (fun n hn x cs hc => conv (.named n) (boxN n hn) x cs hc) (fun i h1 h2 => by
    rw [oldβ _ (fun hm => hdis _ hm (List.getElem_mem h1))]
    exact hbb i h1 h2)
  have inbs : ∀ i b D, β i = some (b, D) → b ∈ bs' → i ∈ bs := by
    intro i b D hb hm; obtain ⟨j, hj, rfl⟩ := List.mem_iff_getElem.1 hm; obtain ⟨D', hD⟩ := hbb j (by omega) hj; rw [h.inj i _ _ _ _ hb hD]; exact List.getElem_mem _
  refine ⟨β', h.evolve hp.os hp.tape hp.output hp.grow ?_ hA ?_ ?_ ?_ ?_ ?_ ?_ ?_, q1, q2⟩
  · intro b hb hn; refine hp.old b (by have := h.grow; omega) fun hm => ?_; obtain ⟨j, hj, rfl⟩ := List.mem_iff_getElem.1 hm; obtain ⟨D, hD⟩ := hbb j (by omega) hj; rcases (h.dom _ _ _ hD).2.2 with h1 | h1
    · exact hn h1
    · omega
  · intro i k hk; rw [hmem]
    cases hf : findPart i (ms ++ bw) with
    | none =>
      refine ⟨k, hk, Nat.le_refl _, fun _ => ⟨k.alike_refl, oldβ i fun hm => ?_⟩⟩; obtain ⟨⟨i', k'⟩, hm2, rfl⟩ := List.mem_map.1 hm; exact findPart_none hf k' (List.mem_append_left _ hm2)
    | some k' =>
      refine ⟨k', rfl, ?_⟩; obtain ⟨j, hj⟩ := findPart_some hf; rcases List.mem_append.1 (List.mem_of_getElem? hj) with hm | hm
      · have := (hfr.rng i k' hm).2.2 k hk; exact ⟨by omega, fun e => by omega⟩
      · obtain ⟨k0, h1, h2, h3⟩ := b3 i k' hm; rw [hk] at h1; obtain rfl := Option.some.inj h1; (have hib : i ∈ bs := by rw [← b1]; exact List.mem_map.2 ⟨(i, k'), hm, rfl⟩); refine ⟨by omega, fun _ => ⟨?_, oldβ i fun hmm => hdis i hmm hib⟩⟩; obtain ⟨ep, cells, hb⟩ := hbox i hib; rw [hk] at hb; obtain rfl := Option.some.inj hb; cases k' <;> simp_all [Blk.isBox, Blk.alike]
  · intro i b D hb; rcases blocks i b D hb with ⟨h1, h2⟩ | ⟨h1, _, h2⟩
    · obtain ⟨⟨k, hk, hkb⟩, d2, d3⟩ := h.dom i b D h2; refine ⟨?_, by have := hp.grow; omega, d3⟩; rw [hmem]
      cases hf : findPart i (ms ++ bw) with
      | none => exact ⟨k, hk, hkb⟩
      | some k' =>
        obtain ⟨j, hj⟩ := findPart_some hf; rcases List.mem_append.1 (List.mem_of_getElem? hj) with hm | hm
        · exact absurd (List.mem_map.2 ⟨(i, k'), hm, rfl⟩) h1
        · obtain ⟨k0, _, _, h3⟩ := b3 i k' hm; exact ⟨k', rfl, fun _ => h3⟩
    · obtain ⟨h3, h4⟩ := hp.new b h2; have hg := h.grow; refine ⟨?_, h4, .inr (by omega)⟩; obtain ⟨⟨i', k⟩, hm, rfl⟩ := List.mem_map.1 h1; exact ⟨k, lookm i' k hm, fun hbs => by have := E.wb b hbs; omega⟩
  · intro i j b D D' hi hj; rcases blocks i b D hi with ⟨h1, e1⟩ | ⟨h1, e1, n1⟩ <;> rcases blocks j b D' hj with ⟨h2, e2⟩ | ⟨h2, e2, n2⟩
    · exact h.inj i j b D D' e1 e2
    · have := (hp.new b n2).1; have := (h.dom i b D e1).2.1; omega
    · have := (hp.new b n1).1; have := (h.dom j b D' e2).2.1; omega
    · exact hfr.inj i j b D D' e1 e2
  · intro b i hb; rcases hβo3 b i hb with h1 | ⟨h1, h2⟩
    · obtain ⟨_, k, hk, ht⟩ := hfr.oS i b h1; obtain ⟨n1, n2⟩ := hOnew i b h1; refine ⟨⟨k, lookm i k hk, ht⟩, n2, by have := h.grow; omega, fun j C e => ?_⟩; rcases blocks j b C e with ⟨_, e1⟩ | ⟨_, e1, _⟩
      · have := (h.dom j b C e1).2.1; omega
      · exact hfr.dis j i b C e1 h1
    · obtain ⟨⟨k, hk, ht⟩, n2, n3, n4⟩ := h.own b i h1; refine ⟨⟨k, ?_, ht⟩, by have := hp.grow; omega, n3, fun j C e => ?_⟩
      · rw [hmem]
        cases hx : findPart i (ms ++ bw) with
        | none => exact hk
        | some k' =>
          obtain ⟨j, hj⟩ := findPart_some hx; rcases List.mem_append.1 (List.mem_of_getElem? hj) with hm | hm
          · exact absurd (inms i k' hm) h2
          · (have hib : i ∈ bs := by rw [← b1]; exact List.mem_map.2 ⟨(i, k'), hm, rfl⟩); obtain ⟨ep, cells, hbb⟩ := hbox i hib; rw [hk] at hbb; obtain rfl := Option.some.inj hbb; cases ht
      · rcases blocks j b C e with ⟨_, e1⟩ | ⟨_, _, e1⟩
        · exact n4 j C e1
        · have := (hp.new b e1).1; omega
  · intro c i k hk1 hk2 hc; have hlt := (h.own c i hc).2.1; have hno : ∀ j, ¬ O j c := fun j hj => by have := (hOnew j c hj).1; omega
    have hni : i ∉ ms.map (·.1) := fun hm => by
      obtain ⟨⟨i', k'⟩, hm2, rfl⟩ := List.mem_map.1 hm; have e1 := lookm i' k' hm2; rw [hk1] at e1; obtain rfl := Option.some.inj e1; have := (hfr.rng i' k hm2).2.2 k hk2; omega
    refine ⟨hβo2 c i hc hni hno, hp.old c hlt fun hm => ?_⟩; obtain ⟨j, hj, e⟩ := List.mem_iff_getElem.1 hm; obtain ⟨D, hD⟩ := hbb j (by omega) hj; exact (h.own c i hc).2.2.2 _ D (by rw [← e]; exact hD)
  · intro i k' hk'; rw [hmem] at hk'
    cases hf : findPart i (ms ++ bw) with
    | none =>
      rw [hf] at hk'
      have hi : i ∉ ms.map (·.1) := fun hm => by
        obtain ⟨⟨i', k⟩, hm2, rfl⟩ := List.mem_map.1 hm; exact findPart_none hf k (List.mem_append_left _ hm2)
      have hib : i ∉ bs := fun hm => by
        rw [← b1] at hm; obtain ⟨⟨i', k⟩, hm2, rfl⟩ := List.mem_map.1 hm; exact findPart_none hf k (List.mem_append_right _ hm2)
      exact .inl ⟨hk', oldβ i hi, fun b D hb => hp.old b (h.dom i b D hb).2.1 fun hm => hib (inbs i b D hb hm)⟩
    | some k =>
      rw [hf] at hk'; obtain rfl := Option.some.inj hk'; obtain ⟨j, hj⟩ := findPart_some hf; refine .inr ?_; rcases List.mem_append.1 (List.mem_of_getElem? hj) with hm | hm
      · exact q3 i k hm
      · exact q4 i k hm
  · intro i c hc; rw [hmem] at hc
    cases hf : findPart i (ms ++ bw) with
    | none =>
      rw [hf] at hc
      exact ⟨c, hc, oldβ i fun hm => by
        obtain ⟨⟨i', k⟩, hm2, rfl⟩ := List.mem_map.1 hm
        exact findPart_none hf k (List.mem_append_left _ hm2)⟩
    | some k =>
      rw [hf] at hc; obtain rfl := Option.some.inj hc; obtain ⟨j, hj⟩ := findPart_some hf; rcases List.mem_append.1 (List.mem_of_getElem? hj) with hm | hm
      · exact absurd rfl (hfr.rng i _ hm).2.1
      · obtain ⟨k0, h1, h2, h3⟩ := b3 i _ hm; (have hib : i ∈ bs := by rw [← b1]; exact List.mem_map.2 ⟨(i, _), hm, rfl⟩); obtain ⟨ep, cells, hb⟩ := hbox i hib; rw [h1] at hb; obtain rfl := Option.some.inj hb; simp only [Blk.ep] at h2; subst h2; exact ⟨cells, h1, oldβ i fun hmm => hdis i hmm hib⟩


end
end Go.Am


namespace Go.Am
open List

theorem SimB.laid [U : Univ] {E : Ent} {N : Nat} {env : Nat → SV} {mem : Nat → Option Blk} {a : Act} {w : World} {β : Bind} (h : SimB E N env mem a w β) {bs' : List Nat} (hb : ∀ b, b ∈ bs' → ∃ i D, β i = some (b, D)) : Laid w bs' := by
  obtain ⟨l1, l2⟩ := E.lay; refine ⟨fun b hg => ⟨Nat.lt_of_lt_of_le (l1 b hg).1 h.grow, fun hm => ?_⟩, U.gst E.w0 w (fun b hg => h.old b (l1 b hg).1 (l1 b hg).2) l2⟩; obtain ⟨i, D, e⟩ := hb b hm; rcases (h.dom i b D e).2.2 with h1 | h1
  · exact (l1 b hg).2 h1
  · have := (l1 b hg).1; omega

variable [U : Univ]

section
variable {E : Ent} {N : Nat} {env : Nat → SV} {mem : Nat → Option Blk} {a : Act} {w : World} {β : Bind} {P : Program} {C : Ctx} {ops : Array Oper} {Q : Exit → Act → World → Prop}

theorem packV_rep {A : Nat → Prop} {svs : List SV} {rvs : List Value} (hl : svs.length = rvs.length) (hr : ∀ (i : Nat) (sv : SV) (v : Value), svs[i]? = some sv → rvs[i]? = some v → RepSV A w β mem sv v) :
    RepSV A w β mem (packSV svs) (packV rvs) := by
  match svs, rvs, hl with
  | [], [], _ => exact .tup [] [] rfl (by simp)
  | [sv], [v], _ => exact hr 0 sv v rfl rfl
  | sv :: sv2 :: svs, v :: v2 :: rvs, hl => exact .tup _ _ hl hr

theorem deepL_congr {mem mem' : Nat → Option Blk} {go : Nat → TV → Rd (List SV × List (Nat × Blk))}
    (hgo : ∀ (id : Nat) (tv : TV) (svs : List SV) (ms : List (Nat × Blk)), (∀ i ∈ ms.map (·.1), mem' i = mem i) → (go id tv).eval mem = some (svs, ms) → (go id tv).eval mem' = some (svs, ms)) :
    ∀ (l : List TV) (id : Nat) (svs : List SV) (ms : List (Nat × Blk)), (∀ i ∈ ms.map (·.1), mem' i = mem i) → (deepL go id l).eval mem = some (svs, ms) → (deepL go id l).eval mem' = some (svs, ms) := by
  intro l
  induction l with
  | nil => intro id svs ms _ h; exact h
  | cons tv r ih =>
    intro id svs ms hc h; simp only [deepL] at h ⊢; obtain ⟨⟨c1, m1⟩, h1, h⟩ := Rd.bind_some h; obtain ⟨⟨c2, m2⟩, h2, h⟩ := Rd.bind_some h; simp only [Rd.eval, Option.some.injEq, Prod.mk.injEq] at h; obtain ⟨rfl, rfl⟩ := h; have e1 := hgo id tv c1 m1 (fun i hi => hc i (by rw [map_append]; exact mem_append_left _ hi)) h1; have e2 := ih _ c2 m2 (fun i hi => hc i (by rw [map_append]; exact mem_append_right _ hi)) h2; rw [Rd.eval_bind, e1]; simp only [Option.bind_some]; rw [Rd.eval_bind, e2]; rfl

theorem deepCells_congr {mem mem' : Nat → Option Blk} : ∀ (f id : Nat) (tv : TV) (svs : List SV) (ms : List (Nat × Blk)), (∀ i ∈ ms.map (·.1), mem' i = mem i) → (deepCells f id tv).eval mem = some (svs, ms) → (deepCells f id tv).eval mem' = some (svs, ms) := by
  have sl : ∀ (id : Nat) (u : Ty) (xs : List u.den) (svs : List SV) (ms : List (Nat × Blk)), (∀ i ∈ ms.map (·.1), mem' i = mem i) →
      ((freshEp id).bind fun ep => if u.flatN fuel then Rd.ret ([SV.arr id ep], [(id, Blk.arr ep u xs)]) else Rd.ret ([SV.tr id ep], [(id, Blk.tree ep u xs)])).eval mem = some (svs, ms) →
      ((freshEp id).bind fun ep => if u.flatN fuel then Rd.ret ([SV.arr id ep], [(id, Blk.arr ep u xs)]) else Rd.ret ([SV.tr id ep], [(id, Blk.tree ep u xs)])).eval mem' = some (svs, ms) := by
    intro id u xs svs ms hc h; obtain ⟨ep, hep, h⟩ := Rd.bind_some h
    have hid : id ∈ ms.map (·.1) := by
      split at h <;> (simp only [Rd.eval, Option.some.injEq, Prod.mk.injEq] at h; obtain ⟨_, rfl⟩ := h; simp)
    rw [Rd.eval_bind, freshEp_congr (hc id hid), hep]; simp only [Option.bind_some]; split
    · rename_i hf; rw [if_pos hf] at h; exact h
    · rename_i hf; rw [if_neg hf] at h; exact h
  intro f
  induction f with
  | zero =>
    rintro id ⟨t, x⟩ svs ms hc h
    cases t with
    | slice u => exact sl id u x svs ms hc h
    | _ => exact h
  | succ f ih =>
    rintro id ⟨t, x⟩ svs ms hc h
    cases t with
    | slice u => exact sl id u x svs ms hc h
    | named n => exact deepL_congr ih _ _ _ _ hc h
    | _ => exact h

theorem ressOf_congr : ∀ {rs : List RK} {id : Nat} {tvs : List TV} {mem mem' : Nat → Option Blk} {rvs : List SV} {ms : List (Nat × Blk)}, (∀ i ∈ ms.map (·.1), mem' i = mem i) → (ressOf id rs tvs).eval mem = some (rvs, ms) → (ressOf id rs tvs).eval mem' = some (rvs, ms) := by
  intro rs
  induction rs with
  | nil =>
    intro id tvs mem mem' rvs ms _ h
    cases tvs with
    | nil => exact h
    | cons => simp [ressOf, Rd.eval] at h
  | cons r rs ih =>
    intro id tvs mem mem' rvs ms hc h
    cases tvs with
    | nil => simp [ressOf, Rd.eval] at h
    | cons tv tvs =>
      simp only [ressOf] at h ⊢; obtain ⟨⟨sv, m1⟩, h1, h⟩ := Rd.bind_some h; obtain ⟨⟨svs, m2⟩, h2, h⟩ := Rd.bind_some h; simp only [Rd.eval, Option.some.injEq, Prod.mk.injEq] at h; obtain ⟨rfl, rfl⟩ := h; have e2 := ih (mem' := mem') (fun i hi => hc i (by simp at hi ⊢; exact .inr hi)) h2
      have e1 : (resOf id r tv).eval mem' = some (sv, m1) := by
        obtain ⟨t, x⟩ := tv
        cases r with
        | err =>
          cases t with
          | bool => exact h1
          | _ => simp [resOf, Rd.eval] at h1
        | val u =>
          simp only [resOf] at h1 ⊢; split at h1
          · rename_i e; rw [if_pos e]; exact h1
          · simp [Rd.eval] at h1
        | clo f u =>
          simp only [resOf] at h1 ⊢; split at h1
          · rename_i e; rw [if_pos e]; exact h1
          · simp [Rd.eval] at h1
        | own u =>
          cases t with
          | slice t =>
            simp only [resOf] at h1 ⊢; split at h1
            · rename_i e; obtain ⟨ep, hep, h1⟩ := Rd.bind_some h1; simp only [Rd.eval, Option.some.injEq, Prod.mk.injEq] at h1; obtain ⟨rfl, rfl⟩ := h1; rw [if_pos e, Rd.eval_bind, freshEp_congr (hc id (by simp)), hep]; rfl
            · simp [Rd.eval] at h1
          | _ => simp [resOf, Rd.eval] at h1
        | ptr n =>
          cases t with
          | named m =>
            simp only [resOf] at h1 ⊢; split at h1
            · rename_i e; obtain ⟨ep, hep, h1⟩ := Rd.bind_some h1; simp only [Rd.eval, Option.some.injEq, Prod.mk.injEq] at h1; obtain ⟨rfl, rfl⟩ := h1; rw [if_pos e, Rd.eval_bind, freshEp_congr (hc id (by simp)), hep]; rfl
            · simp [Rd.eval] at h1
          | _ => simp [resOf, Rd.eval] at h1
        | deep u =>
          simp only [resOf] at h1 ⊢; split at h1
          · rename_i e; rw [if_pos e]; have hc1 : ∀ i ∈ m1.map (·.1), mem' i = mem i := fun i hi => hc i (by rw [map_append]; exact mem_append_left _ hi)
            cases t with
            | named n =>
              simp only [deepSV] at h1 ⊢; obtain ⟨⟨c, m⟩, h3, h1⟩ := Rd.bind_some h1; (have hm : m = m1 := by simp only [Rd.eval, Option.some.injEq, Prod.mk.injEq] at h1; exact h1.2); rw [Rd.eval_bind, deepCells_congr _ _ _ _ _ (by rw [hm]; exact hc1) h3]; exact h1
            | slice v =>
              simp only [deepSV] at h1 ⊢; obtain ⟨⟨c, m⟩, h3, h1⟩ := Rd.bind_some h1
              have hm : m = m1 := by
                match c, h1 with
                | [sv0], h1 => simp only [Rd.eval, Option.some.injEq, Prod.mk.injEq] at h1; exact h1.2
                | [], h1 => simp [Rd.eval] at h1
                | _ :: _ :: _, h1 => simp [Rd.eval] at h1
              rw [Rd.eval_bind, deepCells_congr _ _ _ _ _ (by rw [hm]; exact hc1) h3]
              match c, h1 with
              | [sv0], h1 => exact h1
              | [], h1 => simp [Rd.eval] at h1
              | _ :: _ :: _, h1 => simp [Rd.eval] at h1
            | _ => simp [deepSV, Rd.eval] at h1
          · simp [Rd.eval] at h1
      rw [Rd.eval_bind, e1]; simp only [Option.bind_some]; rw [Rd.eval_bind, e2]; rfl

theorem boxesOf_congr : ∀ {ids : List Nat} {tvs : List TV} {mem mem' : Nat → Option Blk} {bw : List (Nat × Blk)}, (∀ i ∈ ids, mem' i = mem i) → (boxesOf ids tvs).eval mem = some bw → (boxesOf ids tvs).eval mem' = some bw := by
  intro ids
  induction ids with
  | nil =>
    intro tvs mem mem' bw _ h
    cases tvs with
    | nil => exact h
    | cons => simp [boxesOf, Rd.eval] at h
  | cons id ids ih =>
    intro tvs mem mem' bw hc h
    cases tvs with
    | nil => simp [boxesOf, Rd.eval] at h
    | cons tv tvs =>
      obtain ⟨t, x⟩ := tv; simp only [boxesOf, Rd.eval] at h ⊢; rw [hc id (by simp)]
      cases hm : mem id with
      | none => rw [hm] at h; simp [Rd.eval] at h
      | some k =>
        rw [hm] at h; simp only at h ⊢; obtain ⟨r, hr, h⟩ := Rd.bind_some h; rw [Rd.eval_bind, ih (fun i hi => hc i (by simp [hi])) hr]; exact h

theorem callsIn_fence {E : Ent} {n : Nat} {f : FuncId} {args : Array Value} {w : World} {R : Ending → World → Prop} (h : Calls P f args w R) : CallsIn E.fence n P f args w R :=
  (callsIn_wide (n := n)).2 h

theorem oper_sound (hC : CtxOK P C) (h : SimB E N env mem a w β) {d0 : Nat} {wr : Bool} {o : Oper} {r : Res} (hs : (stepOp C wr env d0 o.op).eval mem = some r) (hob : ∀ p ∈ r.ob, p) (hd : ∀ d, o.dst = some d → d < N)
    {K : Act → World → Prop} (hK : ∀ a' w', Sim E N (putE env o.dst r.val) (updm mem r.memw) a' w' → K a' w') : o.wpIn E.fence 0 P a w K Q := by
  cases hnc : isCall o.op with
  | false =>
    obtain ⟨x, v, w', β', hrun, hx, hsim, hv⟩ := stepOp_sound h hC.ty hs hob hnc; refine ⟨fun _ _ => trivial, ?_⟩; rw [Oper.semAt_eq _ _ _ (fun c e => by rw [e] at hs; simp [stepOp, Rd.eval] at hs), hrun]; rcases hx with rfl | ⟨rfl, rfl⟩
    · exact hK _ _ ⟨β', hsim.put hd hv⟩
    · exact hK _ _ ⟨β', hsim.put hd hv⟩
  | true =>
    obtain ⟨dst, op, type, pos, after, guard⟩ := o; simp only at hs hnc hd hK
    cases op with
    | call c =>
      obtain ⟨callee, args, ats⟩ := c
      cases callee with
      | builtin b => simp [isCall] at hnc
      | invoke f m => simp [stepOp, Rd.eval] at hs
      | value f =>
        simp only [stepOp] at hs
        cases hv : opvs env args.toList with
        | mk vs ps =>
          cases hf : opv env f with
          | mk fv qs =>
            rw [hv, hf] at hs; simp only at hs
            cases fv with
            | clo g caps =>
              simp only at hs
              cases hsp : C.sp g with
              | none => rw [hsp] at hs; simp [Rd.eval] at hs
              | some sp =>
                rw [hsp] at hs; simp only [Rd.withOb] at hs; obtain ⟨r', hr', hs⟩ := Rd.bind_some hs; simp only [Rd.eval, Option.some.injEq] at hs; subst hs; simp only at hob hK; obtain ⟨⟨fn, hfn, hname, hbody⟩, hcontract⟩ := hC.fn g sp hsp; obtain ⟨k1, k2⟩ := opvs_rep h args.toList hv (fun p hp => hob p (by simp [hp])); have hfr := opv_rep h hf (fun p hp => hob p (by simp [hp])); generalize hfe : a.eval f = fval at hfr
                cases hfr with
                | clo _ _ cvs hcl hcr =>
                  -- the operation enters the function
                  have hrun : ∀ w, (execOp a.eval ⟨dst, .call ⟨.value f, args, ats⟩, type, pos, after, guard⟩).run P w = .ok (.enter g (args.toList.map a.eval ++ cvs).toArray) w := by
                    intro w; (have e1 : args.map a.eval = (args.toList.map a.eval).toArray := by apply Array.ext'; simp); simp only [execOp, resolve, hfe, Deferred.ofValue, Sem.run_bind, Sem.run_pure, Result.andThen_ok, invoke, callFunc, run_program, hfn, hname, hbody, Bool.false_eq_true, if_false, e1]; simp
                  refine ⟨fun _ _ => trivial, ?_⟩; rw [Oper.semAt_eq _ _ _ (fun c e => by cases e), hrun w]; refine ⟨fun h => (by cases h), callsIn_fence ?_⟩; have hargl : (vs ++ caps).length = (args.toList.map a.eval ++ cvs).length := by simp only [length_append, k1, hcl]
                  have hargr : ∀ (i : Nat) (sv : SV) (v : Value), (vs ++ caps)[i]? = some sv → (args.toList.map a.eval ++ cvs)[i]? = some v → RepSV (allow E w β) w β mem sv v := by
                    intro i sv v hi hj; by_cases hlt : i < vs.length
                    · rw [getElem?_append_left hlt] at hi; rw [getElem?_append_left (by omega)] at hj; exact k2 i sv v hi hj
                    · rw [getElem?_append_right (by omega)] at hi hj; rw [k1] at hi; exact hcr _ sv v hi hj
                  -- what the abstract call did
                  simp only [doCall] at hr'; obtain ⟨⟨tvs, lent, bs⟩, hargs, hr'⟩ := Rd.bind_some hr'; simp only at hr'; split at hr'
                  · simp [Rd.eval] at hr'
                  · rename_i hc1; simp only [Bool.or_eq_true, Bool.not_eq_true', not_or, Bool.not_eq_true, Bool.not_eq_false] at hc1; obtain ⟨hbn, hlb⟩ := hc1; obtain ⟨⟨rvs, ms⟩, hms, hr'⟩ := Rd.bind_some hr'; obtain ⟨bw, hbw, hr'⟩ := Rd.bind_some hr'; simp only at hr'; split at hr'
                    · simp [Rd.eval] at hr'
                    · rename_i hc2
                      have hdl : ∀ id ∈ lent, id ∉ bs := by
                        intro id hid hm; rw [any_eq_false] at hlb; exact hlb id hid (by simpa using hm)
                      have hdm : ∀ i ∈ ms.map (·.1), i ∉ lent ∧ i ∉ bs := by
                        intro i hi; obtain ⟨⟨i', k⟩, hm, rfl⟩ := mem_map.1 hi; rw [Bool.not_eq_true, any_eq_false] at hc2; have := hc2 _ hm
                        simp only [Bool.or_eq_true, not_or] at this
                        exact ⟨by simpa using this.1, by simpa using this.2⟩
                      -- the call, its state before being (mem0, β0)
                      have core : ∀ {mem0 : Nat → Option Blk} {β0 : Bind} {B : Nat → Prop}, SimB E N env mem0 a w β0 → (∀ b, B b → b < w.heap.size) →
                          (∀ id ∈ bs, ∃ ep cells, mem0 id = some (.box ep cells)) → ∀ bs' : List Nat, bs.length = bs'.length → (∀ i (h : i < bs.length) (h' : i < bs'.length), ∃ D, β0 bs[i] = some (bs'[i], D)) →
                          (∀ b, B b → b ∉ bs') → RepArgs B w sp.ps (args.toList.map a.eval ++ cvs) tvs bs' → sp.pre tvs →
                          (ressOf (d0 * 4) sp.rs (sp.fn tvs)).eval mem0 = some (rvs, ms) → (boxesOf bs (sp.bx tvs)).eval mem0 = some bw →
                          ((∀ b, B b → allow E w β0 b) ∨ (sp.rs.all RK.flat = true ∧ sp.ps.all PK.flat = true)) →
                          (∀ a' w', Sim E N (putE env dst (packSV rvs)) (updm mem0 (ms ++ bw)) a' w' → K a' w') →
                          Calls P g (args.toList.map a.eval ++ cvs).toArray w fun
                            | .returned v, w'' => K (a.put dst v) w''
                            | .panicked chain, w'' => Q (.panic chain) a w''
                            | .outgrown, _ => LetsOut Q := by
                        intro mem0 β0 B h0 hBs hbx bs' hbl hbb hBn hra hpre hms0 hbw0 hconv hK0; have hnd := nodupN_nodup hbn
                        have hbs'lt : ∀ b, b ∈ bs' → b < w.heap.size := by
                          intro b hb; obtain ⟨j, hj, rfl⟩ := mem_iff_getElem.1 hb; obtain ⟨D, hD⟩ := hbb j (by omega) hj; exact (h0.dom _ _ _ hD).2.1
                        have hnd' : bs'.Nodup := by
                          rw [nodup_iff_pairwise_ne, pairwise_iff_getElem]; intro i j hi hj hij e; obtain ⟨D, hD⟩ := hbb i (by omega) hi; obtain ⟨D', hD'⟩ := hbb j (by omega) hj; rw [e] at hD; have := h0.inj _ _ _ _ _ hD hD'; exact absurd this ((pairwise_iff_getElem.1 (nodup_iff_pairwise_ne.1 hnd)) i j (by omega) (by omega) hij)
                        refine (hcontract B w _ tvs bs' (fun b hb => ⟨hBs b hb, hBn b hb⟩) hbs'lt hnd' hra hpre (h0.laid fun b hb => by
                          obtain ⟨i, hi, rfl⟩ := mem_iff_getElem.1 hb
                          exact ⟨_, hbb i (by omega) hi⟩)).mono ?_
                        rintro e w' ⟨rvals, nb, A', hp⟩
                        have hallow : ∀ b, allow E w β0 b → b ∉ bs' := by
                          intro b hb hm; obtain ⟨j, hj, rfl⟩ := mem_iff_getElem.1 hm; obtain ⟨D, hD⟩ := hbb j (by omega) hj; exact hb.2.2.1 _ _ hD
                        obtain ⟨β', hs', hl', hr''⟩ := after_call h0 hbx hbl hbb hnd hallow hms0 hbw0 (fun i hi => (hdm i hi).2) hconv hp; rw [hp.ret]; exact hK0 _ _ ⟨β', hs'.put hd (packV_rep hl' hr'')⟩
                      have hbox0 : ∀ (B : Nat → Prop), (∀ b, allow E w β b → B b) → (∀ id ∈ lent, ∀ b, Held β id b → B b) →
                          (∀ id ∈ bs, ∃ ep cells, mem id = some (.box ep cells)) ∧ ∃ bs', bs.length = bs'.length ∧ (∀ i (h : i < bs.length) (h' : i < bs'.length), ∃ D, β bs[i] = some (bs'[i], D)) ∧ RepArgs B w sp.ps (args.toList.map a.eval ++ cvs) tvs bs' :=
                        fun B hB hl => argsOf_sound h hB hargl hargr hargs hl
                      split at hr'
                      · rename_i hiso; simp only [Rd.eval, Option.some.injEq] at hr'; subst hr'; have hpre := hob (sp.pre tvs) (by simp); obtain ⟨hbx, bs', hbl, hbb, hra⟩ := hbox0 (fun b => allow E w β b ∨ ∃ id ∈ lent, Held β id b) (fun b hb => .inl hb) (fun id hid b hb => .inr ⟨id, hid, hb⟩); refine core h ?_ hbx bs' hbl hbb ?_ hra hpre hms hbw ?_ hK
                        · rintro b (hb | ⟨id, hid, ⟨D, hb⟩ | hb⟩)
                          · exact hb.1
                          · exact (h.dom _ _ _ hb).2.1
                          · exact (h.own _ _ hb).2.1
                        · rintro b hb hm; obtain ⟨j, hj, rfl⟩ := mem_iff_getElem.1 hm; obtain ⟨D', hD'⟩ := hbb j (by omega) hj; rcases hb with hb | ⟨id, hid, ⟨D, hb⟩ | hb⟩
                          · exact hb.2.2.1 _ _ hD'
                          · exact hdl id hid (by rw [h.inj _ _ _ _ _ hb hD']; exact getElem_mem _)
                          · exact (h.own _ _ hb).2.2.2 _ _ hD'
                        · simp only [Bool.or_eq_true, Bool.and_eq_true] at hiso; rcases hiso with hiso | hiso
                          · refine .inl ?_; rintro b (hb | ⟨id, hid, hb⟩)
                            · exact hb
                            · (have : lent = [] := by simpa using hiso); rw [this] at hid; cases hid
                          · exact .inr hiso
                      · split at hr'
                        · rename_i hnl; obtain ⟨ks, hks, hr'⟩ := Rd.bind_some hr'; simp only [Rd.eval, Option.some.injEq] at hr'; subst hr'; have hpre := hob (sp.pre tvs) (by simp); obtain ⟨β2, h2, hA2, hid2, hsame, _⟩ := h.kill lent hnl hks; obtain ⟨hbx, bs', hbl, hbb, hra⟩ := hbox0 (allow E w β2) hA2 hid2; have hsb : ∀ id ∈ bs, β2 id = β id ∧ updm mem ks id = mem id := fun id hid => hsame id (fun hm => hdl id hm hid); have hms2 : (ressOf (d0 * 4) sp.rs (sp.fn tvs)).eval (updm mem ks) = some (rvs, ms) := ressOf_congr (fun i hi => (hsame i (hdm i hi).1).2) hms; have hbw2 : (boxesOf bs (sp.bx tvs)).eval (updm mem ks) = some bw := boxesOf_congr (fun i hi => (hsb i hi).2) hbw; refine core h2 (fun b hb => hb.1) (fun id hid => ?_) bs' hbl (fun i h1 h2 => ?_) ?_ hra hpre hms2 hbw2 (.inl fun b hb => hb) (fun a' w' hsim => hK a' w' (by rw [updm_append]; exact hsim))
                          · rw [(hsb id hid).2]; exact hbx id hid
                          · rw [(hsb _ (getElem_mem h1)).1]; exact hbb i h1 h2
                          · rintro b hb hm; obtain ⟨j, hj, rfl⟩ := mem_iff_getElem.1 hm; obtain ⟨D', hD'⟩ := hbb j (by omega) hj; rw [← (hsb _ (getElem_mem _)).1] at hD'; exact hb.2.2.1 _ _ hD'
                        · simp [Rd.eval] at hr'
            | _ => simp [Rd.eval] at hs
    | _ => simp [isCall] at hnc

end
end Go.Am
