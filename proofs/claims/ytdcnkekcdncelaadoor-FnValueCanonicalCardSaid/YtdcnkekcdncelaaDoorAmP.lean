/-
  Am, part P: what a function's contract says; the arguments of a call.
-/
import Derived.Test.YtdcnkekcdncelaaDoorAmO
set_option linter.all false
namespace Go.Am
open List
variable [U : Univ]

inductive RepArgs (A : Nat → Prop) (w : World) : List PK → List Value → List TV → List Nat → Prop
  | nil : RepArgs A w [] [] [] []
  | val (t : Ty) (x : t.den) (v : Value) (ps : List PK) (vs : List Value) (tvs : List TV) (bs : List Nat) (h : RepV A w t x v) (k : RepArgs A w ps vs tvs bs) :
      RepArgs A w (.val t :: ps) (v :: vs) (⟨t, x⟩ :: tvs) bs
  | rd (t : Ty) (x : t.den) (b off : Nat) (cs : List Value) (ps : List PK) (vs : List Value) (tvs : List TV) (bs : List Nat) (hA : A b)
      (hc : ∀ (j : Nat) (v : Value), cs[j]? = some v → w.cell? ⟨b, off + j, none⟩ = some v) (h : RepC A w t x cs) (k : RepArgs A w ps vs tvs bs) :
      RepArgs A w (.rd t :: ps) (.pointer (some ⟨b, off, none⟩) :: vs) (⟨t, x⟩ :: tvs) bs
  | clo (f : Nat) (t : Ty) (x : t.den) (b off : Nat) (cs : List Value) (ps : List PK) (vs : List Value) (tvs : List TV) (bs : List Nat) (hA : A b)
      (hc : ∀ (j : Nat) (v : Value), cs[j]? = some v → w.cell? ⟨b, off + j, none⟩ = some v) (h : RepC A w t x cs) (k : RepArgs A w ps vs tvs bs) :
      RepArgs A w (.clo f t :: ps) (.func (.func f) #[] #[.pointer (some ⟨b, off, none⟩)] :: vs) (⟨t, x⟩ :: tvs) bs
  | box (n : Nat) (x : U.R n) (b : Nat) (cs : Array Value) (el : Nat) (ps : List PK) (vs : List Value) (tvs : List TV) (bs : List Nat) (hh : w.heap[b]? = some (.cells cs el (0, 0)))
      (h : RepC A w (.named n) x cs.toList) (k : RepArgs A w ps vs tvs bs) :
      RepArgs A w (.box n :: ps) (.pointer (some ⟨b, 0, none⟩) :: vs) (⟨.named n, x⟩ :: tvs) (b :: bs)

inductive RepRess (A : Nat → Prop) (w : World) : List RK → List TV → List Value → List Nat → Prop
  | nil : RepRess A w [] [] [] []
  | val (t : Ty) (x : t.den) (v : Value) (rs : List RK) (tvs : List TV) (vs : List Value) (nb : List Nat) (h : RepV A w t x v) (k : RepRess A w rs tvs vs nb) :
      RepRess A w (.val t :: rs) (⟨t, x⟩ :: tvs) (v :: vs) nb
  | err0 (rs : List RK) (tvs : List TV) (vs : List Value) (nb : List Nat) (k : RepRess A w rs tvs vs nb) : RepRess A w (.err :: rs) (⟨.bool, false⟩ :: tvs) (.nilIface :: vs) nb
  | err1 (T : TypeId) (v : Value) (rs : List RK) (tvs : List TV) (vs : List Value) (nb : List Nat) (k : RepRess A w rs tvs vs nb) : RepRess A w (.err :: rs) (⟨.bool, true⟩ :: tvs) (.iface T v :: vs) nb
  | ownNil (t : Ty) (rs : List RK) (tvs : List TV) (vs : List Value) (nb : List Nat) (k : RepRess A w rs tvs vs nb) :
      RepRess A w (.own t :: rs) (⟨.slice t, ([] : List t.den)⟩ :: tvs) (.slice none 0 0 :: vs) nb
  | own (t : Ty) (xs : List t.den) (b D : Nat) (cs : Array Value) (el : Nat) (css : Nat → List Value) (rs : List RK) (tvs : List TV) (vs : List Value) (nb : List Nat)
      (hl : (xs.length : Int) ≤ 4294967296) (hh : w.heap[b]? = some (.cells cs el (0, 0))) (hs : cs.size = D * t.size) (hD : xs.length ≤ D)
      (h : ∀ k (hk : k < xs.length), (css k).length = t.size ∧ (∀ (j : Nat) (v : Value), (css k)[j]? = some v → cs[k * t.size + j]? = some v) ∧ RepC A w t xs[k] (css k))
      (k : RepRess A w rs tvs vs nb) : RepRess A w (.own t :: rs) (⟨.slice t, xs⟩ :: tvs) (.slice (some ⟨b, 0, none⟩) xs.length D :: vs) (b :: nb)
  | ptr (n : Nat) (x : U.R n) (b : Nat) (cs : Array Value) (el : Nat) (rs : List RK) (tvs : List TV) (vs : List Value) (nb : List Nat) (hh : w.heap[b]? = some (.cells cs el (0, 0)))
      (h : RepC A w (.named n) x cs.toList) (k : RepRess A w rs tvs vs nb) : RepRess A w (.ptr n :: rs) (⟨.named n, x⟩ :: tvs) (.pointer (some ⟨b, 0, none⟩) :: vs) (b :: nb)
  | clo (f : Nat) (t : Ty) (x : t.den) (b off : Nat) (rs : List RK) (tvs : List TV) (vs : List Value) (nb : List Nat) (h : RepC A w (.slice t) ([x] : List t.den) [.slice (some ⟨b, off, none⟩) 1 1]) (k : RepRess A w rs tvs vs nb) :
      RepRess A w (.clo f t :: rs) (⟨t, x⟩ :: tvs) (.func (.func f) #[] #[.pointer (some ⟨b, off, none⟩)] :: vs) nb
  | deep (t : Ty) (x : t.den) (v : Value) (bs : List Nat) (rs : List RK) (tvs : List TV) (vs : List Value) (nb : List Nat) (h : RepVO w t x v (fun b => b ∈ bs)) (k : RepRess A w rs tvs vs nb) :
      RepRess A w (.deep t :: rs) (⟨t, x⟩ :: tvs) (v :: vs) (bs ++ nb)

def boxNs : List PK → List Nat
  | [] => []
  | .box n :: r => n :: boxNs r
  | _ :: r => boxNs r

inductive RepBoxes (A : Nat → Prop) (w : World) : List Nat → List TV → List Nat → Prop
  | nil : RepBoxes A w [] [] []
  | cons (n : Nat) (x : U.R n) (b : Nat) (cs : Array Value) (el : Nat) (ns : List Nat) (tvs : List TV) (bs : List Nat) (hh : w.heap[b]? = some (.cells cs el (0, 0)))
      (h : RepC A w (.named n) x cs.toList) (k : RepBoxes A w ns tvs bs) : RepBoxes A w (n :: ns) (⟨.named n, x⟩ :: tvs) (b :: bs)

def packV : List Value → Value
  | [v] => v
  | vs => .tuple vs.toArray

structure Post (A : Nat → Prop) (w : World) (bs : List Nat) (sp : FnSpec) (tvs : List TV) (e : Ending) (w' : World) (rvs : List Value) (nb : List Nat) (A' : Nat → Prop) : Prop where
  ret : e = .returned (packV rvs)
  os : w'.os = w.os
  tape : w'.tape = w.tape
  output : w'.output = w.output ∧ U.dr w.drawn ≤ U.dr w'.drawn
  grow : w.heap.size ≤ w'.heap.size
  old : ∀ b, b < w.heap.size → b ∉ bs → w'.heap[b]? = w.heap[b]?
  allowed : ∀ b, A' b → b < w'.heap.size ∧ (A b ∨ w.heap.size ≤ b) ∧ b ∉ nb
  nodup : nb.Nodup
  new : ∀ b, b ∈ nb → w.heap.size ≤ b ∧ b < w'.heap.size
  ress : RepRess A' w' sp.rs (sp.fn tvs) rvs nb
  boxes : RepBoxes A' w' (boxNs sp.ps) (sp.bx tvs) bs

def FnOK (P : Program) (f : FuncId) (sp : FnSpec) : Prop :=
  (∃ fn, P.funcs[f]? = some fn ∧ (fn.name == "runtime.NumGoroutine") = false ∧ fn.body.isNone = false) ∧
  ∀ (A : Nat → Prop) (w : World) (vs : List Value) (tvs : List TV) (bs : List Nat), (∀ b, A b → b < w.heap.size ∧ b ∉ bs) → (∀ b, b ∈ bs → b < w.heap.size) → bs.Nodup →
    RepArgs A w sp.ps vs tvs bs → sp.pre tvs → Laid w bs →
    Calls P f vs.toArray w fun e w' => ∃ rvs nb A', Post A w bs sp tvs e w' rvs nb A'

structure CtxOK (P : Program) (C : Ctx) : Prop where
  ty : CtxTy P C
  fn : ∀ f sp, C.sp f = some sp → FnOK P f sp

section
variable {E : Ent} {N : Nat} {env : Nat → SV} {mem : Nat → Option Blk} {a : Act} {w : World} {β : Bind} {P : Program} {C : Ctx}

theorem argOf0_sound (h : SimB E N env mem a w β) {B : Nat → Prop} (hB : ∀ b, allow E w β b → B b) {p : PK} {sv : SV} {v : Value} {tv : TV} {lent bs : List Nat}
    (hr : RepSV (allow E w β) w β mem sv v) (hs : (argOf0 p sv).eval mem = some (tv, lent, bs)) (hl : ∀ id ∈ lent, ∀ b, Held β id b → B b) :
    (∀ id ∈ bs, ∃ ep cells, mem id = some (.box ep cells)) ∧ ∃ bs', bs.length = bs'.length ∧ (∀ i (h : i < bs.length) (h' : i < bs'.length), ∃ D, β bs[i] = some (bs'[i], D)) ∧
      ∀ {ps vs tvs bs2}, RepArgs B w ps vs tvs bs2 → RepArgs B w (p :: ps) (v :: vs) (tv :: tvs) (bs' ++ bs2) := by
  cases p with
  | val t =>
    simp only [argOf0] at hs; obtain ⟨x, hx, hs⟩ := Rd.bind_some hs; simp only [Rd.eval, Option.some.injEq, Prod.mk.injEq] at hs; obtain ⟨rfl, rfl, rfl⟩ := hs; obtain ⟨y, hy, hx⟩ := Rd.bind_some hx; obtain rfl := Option.some.inj hx; have := toD_sound h hB fuel (fun _ id hi b hb => hl id hi b hb) hr hy; exact ⟨by simp, [], rfl, by simp, fun k => .val t y v _ _ _ _ this k⟩
  | rd t =>
    cases hr with
    | dref u x b off cs hA hc hr =>
      simp only [argOf0] at hs; obtain ⟨y, hy, hs⟩ := Rd.bind_some hs; simp only [Rd.eval, Option.some.injEq, Prod.mk.injEq] at hs; obtain ⟨rfl, rfl, rfl⟩ := hs; obtain ⟨e, rfl⟩ := TV.to_some (Rd.opt_some hy); subst e; exact ⟨by simp, [], rfl, by simp, fun k => .rd u x b off cs _ _ _ _ (hB b hA) hc (hr.mono fun b hb => ⟨hB b hb, rfl⟩) k⟩
    | ref id ep off b hm hv =>
      simp only [argOf0] at hs; replace hs := Rd.mem_some hs
      cases hmi : mem id with
      | none => rw [hmi] at hs; simp [Rd.eval] at hs
      | some k =>
        rw [hmi] at hs
        cases k with
        | arr => simp [Rd.eval] at hs
        | tree => simp [Rd.eval] at hs
        | dead => simp [Rd.eval] at hs
        | box ep' cells =>
          simp only at hs; split at hs
          · rename_i e; subst e; obtain ⟨D, hb⟩ := hv cells hmi; obtain ⟨b', D', cs, el, hb', hh, hsz, hcell⟩ := h.blk id _ hmi; rw [hb] at hb'; (obtain ⟨rfl, rfl⟩ : b = b' ∧ D = D' := by simpa using hb'); (have hcl : ∀ (j : Nat) (v : Value), cs[j]? = some v → w.cell? ⟨b, j, none⟩ = some v := fun j v hj => by simp [World.cell?, hh, hj]); by_cases hn : ∃ n, t = .named n
            · obtain ⟨n, rfl⟩ := hn; simp only at hs; obtain ⟨x, hx, hs⟩ := Rd.bind_some hs; simp only [Rd.eval, Option.some.injEq, Prod.mk.injEq] at hs; obtain ⟨rfl, rfl, rfl⟩ := hs
              have hagg : RepSV (allow E w β) w β mem (.agg ((cells.drop off).take (U.sz n))) (.agg ((cs.toList.drop off).take (U.sz n)).toArray) := by
                refine .agg _ _ (by simp only [length_take, length_drop, Array.length_toList]; omega) ?_ ?_
                · intro v hv; have hv := mem_of_mem_drop (mem_of_mem_take hv); obtain ⟨j, hj, rfl⟩ := mem_iff_getElem.1 hv; (have hj' : j < cells.length := by simpa [hsz] using hj); obtain ⟨v, hv, h1, _⟩ := hcell j cells[j] (by simp [hj'])
                  have : cs.toList[j] = v := by
                    have : cs.toList[j]? = some v := by simpa using hv
                    rw [getElem?_eq_getElem hj] at this
                    simpa using this
                  rw [this]; exact h1
                · intro i sv v hi hj; rw [getElem?_take, getElem?_drop] at hi hj; split at hi
                  · rename_i hlt; rw [if_pos hlt] at hj; obtain ⟨v', hv', _, hr⟩ := hcell _ _ hi; have : cs[off + i]? = some v := by simpa using hj
                    rw [hv'] at this
                    obtain rfl := Option.some.inj this
                    exact hr
                  · simp at hi
              obtain ⟨y, hx1, hx2⟩ := Rd.bind_some hx; obtain rfl := Option.some.inj hx2; have hy := toD_sound h hB fuel (fun _ id hi b hb => hl id (mem_cons_of_mem _ hi) b hb) hagg hx1; have hyc := hy.cells.1; simp only [Value.cells, toList_toArray] at hyc; refine ⟨by simp, [], rfl, by simp, fun k => .rd (.named n) y b off _ _ _ _ _ (hl id (by simp) b (.inl ⟨D, hb⟩)) (fun j v hj => ?_) hyc k⟩; rw [getElem?_take, getElem?_drop] at hj; split at hj
              · exact hcl _ _ (by simpa using hj)
              · simp at hj
            · have key : ∀ sv, cells[off]? = some sv → ∀ x, (toTV true t sv).eval mem = some x → x = tv → lent = id :: lentIds fuel sv → bs = [] →
                  (∀ id ∈ bs, ∃ ep cells, mem id = some (.box ep cells)) ∧ ∃ bs', bs.length = bs'.length ∧ (∀ i (h : i < bs.length) (h' : i < bs'.length), ∃ D, β bs[i] = some (bs'[i], D)) ∧
                    ∀ {ps vs tvs bs2}, RepArgs B w ps vs tvs bs2 → RepArgs B w (.rd t :: ps) (.pointer (some ⟨b, off, none⟩) :: vs) (tv :: tvs) (bs' ++ bs2) := by
                rintro sv hsv x hx rfl rfl rfl; obtain ⟨v, hv, h1, hr⟩ := hcell _ _ hsv; obtain ⟨y, hx1, hx2⟩ := Rd.bind_some hx; obtain rfl := Option.some.inj hx2; have hy := toD_sound h hB fuel (fun _ id hi b hb => hl id (mem_cons_of_mem _ hi) b hb) hr hx1
                cases hy with
                | agg n x cs hc => exact absurd ⟨_, rfl⟩ hn
                | one t y v ht hc =>
                  refine ⟨by simp, [], rfl, by simp, fun k => .rd t y b off [v] _ _ _ _ (hl id (by simp) b (.inl ⟨D, hb⟩)) (fun j u hj => ?_) hc k⟩
                  match j, hj with
                  | 0, hj => simp at hj; subst hj; exact hcl _ _ hv
              cases t with
              | named n => exact absurd ⟨n, rfl⟩ hn
              | _ =>
                simp only at hs; split at hs
                · rename_i sv hsv; obtain ⟨x, hx, hs⟩ := Rd.bind_some hs; simp only [Rd.eval, Option.some.injEq, Prod.mk.injEq] at hs; obtain ⟨h1, h2, h3⟩ := hs; exact key sv hsv x hx h1 h2.symm h3.symm
                · simp [Rd.eval] at hs
          · simp [Rd.eval] at hs
    | eref id ep i p b ov hm hv =>
      simp only [argOf0] at hs; replace hs := Rd.mem_some hs
      cases hmi : mem id with
      | none => rw [hmi] at hs; simp [Rd.eval] at hs
      | some k =>
        rw [hmi] at hs
        cases k with
        | box => simp [Rd.eval] at hs
        | tree => simp [Rd.eval] at hs
        | dead => simp [Rd.eval] at hs
        | arr ep' u xs =>
          simp only at hs; split at hs
          · rename_i e; subst e; obtain ⟨hlt, D, o, u', hb, hpo, rfl⟩ := hv u xs hmi; obtain ⟨_, ⟨hb', _⟩ | ⟨b', D', cs, el, css, hb', hh, hsz, hD, hel⟩⟩ := h.blk id _ hmi
            · rw [hb] at hb'; simp at hb'
            rw [hb] at hb'; (obtain ⟨rfl, rfl⟩ : b = b' ∧ D = D' := by simpa using hb'); obtain ⟨hcl, hcc, hrep⟩ := hel i hlt; rw [show xs.getD i u.zero = xs[i] by simp [hlt]] at hs; split at hs
            · rename_i tv' hfo; obtain ⟨y, hy, hs⟩ := Rd.bind_some hs; simp only [Rd.eval, Option.some.injEq, Prod.mk.injEq] at hs; obtain ⟨rfl, rfl, rfl⟩ := hs; obtain ⟨v', z⟩ := tv'; obtain ⟨e, rfl⟩ := TV.to_some (Rd.opt_some hy); subst e; obtain ⟨o', ho', hr, hle⟩ := follow_rep p hrep hfo; rw [ho'] at hpo; (obtain ⟨rfl, rfl⟩ : o' = o ∧ v' = u' := by simpa using hpo); refine ⟨by simp, [], rfl, by simp, fun k => .rd v' z b _ _ _ _ _ _ (hl id (by simp) b (.inl ⟨D, hb⟩)) (fun j v hj => ?_) (hr.mono fun b hb => ⟨hB b hb, rfl⟩) k⟩; rw [getElem?_take, getElem?_drop] at hj; split at hj
              · have := hcc _ _ hj; simp [World.cell?, hh]; rw [show i * u.size + o' + j = i * u.size + (o' + j) by omega]
                exact this
              · simp at hj
            · simp [Rd.eval] at hs
          · simp [Rd.eval] at hs
    | _ => simp [argOf0, Rd.eval] at hs
  | box n =>
    cases hr with
    | ref id ep off b hm hv =>
      simp only [argOf0] at hs; replace hs := Rd.mem_some hs
      cases hmi : mem id with
      | none => rw [hmi] at hs; simp [Rd.eval] at hs
      | some k =>
        rw [hmi] at hs
        cases k with
        | arr => simp [Rd.eval] at hs
        | tree => simp [Rd.eval] at hs
        | dead => simp [Rd.eval] at hs
        | box ep' cells =>
          simp only at hs; split at hs
          · rename_i e; obtain ⟨rfl, rfl⟩ := e; obtain ⟨D, hb⟩ := hv cells hmi; obtain ⟨b', D', cs, el, hb', hh, hsz, hcell⟩ := h.blk id _ hmi; rw [hb] at hb'; (obtain ⟨rfl, rfl⟩ : b = b' ∧ D = D' := by simpa using hb'); obtain ⟨x, hx, hs⟩ := Rd.bind_some hs; simp only [Rd.eval, Option.some.injEq, Prod.mk.injEq] at hs; obtain ⟨rfl, rfl, rfl⟩ := hs
            have hagg : RepSV (allow E w β) w β mem (.agg cells) (.agg cs.toList.toArray) := by
              refine .agg _ _ (by simp [hsz]) ?_ ?_
              · intro v hv; obtain ⟨j, hj, rfl⟩ := mem_iff_getElem.1 hv; (have hj' : j < cells.length := by simpa [hsz] using hj); obtain ⟨v, hv, h1, _⟩ := hcell j cells[j] (by simp [hj'])
                have : cs.toList[j] = v := by
                  have : cs.toList[j]? = some v := by simpa using hv
                  rw [getElem?_eq_getElem hj] at this
                  simpa using this
                rw [this]; exact h1
              · intro i sv v hi hj; obtain ⟨v', hv', _, hr⟩ := hcell _ _ hi; have : cs[i]? = some v := by simpa using hj
                rw [hv'] at this
                obtain rfl := Option.some.inj this
                exact hr
            obtain ⟨y, rfl, hy⟩ := toTV_sound h hagg hx; have hyc := hy.cells.1; simp only [Value.cells, toList_toArray] at hyc; refine ⟨fun id' hid => by simp at hid; subst hid; exact ⟨_, _, hmi⟩, [b], rfl, fun i h1 h2 => ?_, fun k => .box n y b cs el _ _ _ _ hh (hyc.mono fun b hb => ⟨hB b hb, rfl⟩) k⟩; have : i = 0 := by simp at h1; omega
            subst this
            exact ⟨D, hb⟩
          · simp [Rd.eval] at hs
    | _ => simp [argOf0, Rd.eval] at hs
  | clo f t => simp [argOf0, Rd.eval] at hs

theorem elemsD_sound (h : SimB E N env mem a w β) {B : Nat → Prop} (hB : ∀ b, allow E w β b → B b) {u : Ty} (hu : u.size = 1) : ∀ {svs : List SV} {vs : List Value} {xs : List u.den},
    (∀ sv ∈ svs, ∀ id ∈ lentIds 7 sv, ∀ b, Held β id b → B b) → svs.length = vs.length → (∀ (i : Nat) (sv : SV) (v : Value), svs[i]? = some sv → vs[i]? = some v → v.oneCell' = true ∧ RepSV (allow E w β) w β mem sv v) →
    (elemsD u svs).eval mem = some xs → xs.length = vs.length ∧ ∀ i (h1 : i < xs.length) (h2 : i < vs.length), RepC B w u xs[i] [vs[i]] := by
  intro svs
  induction svs with
  | nil =>
    intro vs xs _ hl _ hx; obtain rfl := Option.some.inj hx; obtain rfl := length_eq_zero_iff.1 hl.symm; exact ⟨rfl, fun i h1 => absurd h1 (Nat.not_lt_zero _)⟩
  | cons sv svs ih =>
    intro vs xs hlent hl hr hx
    cases vs with
    | nil => simp at hl
    | cons v vs =>
      simp only [elemsD] at hx; obtain ⟨y, hy, hx⟩ := Rd.bind_some hx; obtain ⟨ys, hys, hx⟩ := Rd.bind_some hx; obtain rfl := Option.some.inj hx; obtain ⟨h1, hrv⟩ := hr 0 sv v rfl rfl; obtain ⟨e1, e2⟩ := ih (fun sv hs => hlent sv (mem_cons_of_mem _ hs)) (by simpa using hl) (fun i sv v hi hj => hr (i + 1) sv v (by simpa using hi) (by simpa using hj)) hys; refine ⟨by simp [e1], fun i h1 h2 => ?_⟩
      match i, h1, h2 with
      | 0, _, _ =>
        have hd := toD_sound h hB 7 (fun _ id hi b hb => hlent sv (mem_cons_self ..) id hi b hb) hrv hy
        cases hd with
        | agg n x cs hc => cases h1
        | one t x v ht hc => exact hc
      | i + 1, h1, h2 => exact e2 i (by simpa using h1) (by simpa using h2)

theorem vecArg_sound (h : SimB E N env mem a w β) {B : Nat → Prop} (hB : ∀ b, allow E w β b → B b) {t : Ty} {id ep off len : Nat} {v : Value} {tv : TV} {lent bs : List Nat}
    (hr : RepSV (allow E w β) w β mem (.bsl id ep off len) v) (hs : (vecArg t id ep off len).eval mem = some (tv, lent, bs)) (hl : ∀ id ∈ lent, ∀ b, Held β id b → B b) :
    bs = [] ∧ ∃ x : t.den, tv = ⟨t, x⟩ ∧ RepV B w t x v := by
  cases t with
  | slice u =>
    simp only [vecArg] at hs; replace hs := Rd.mem_some hs
    cases hmi : mem id with
    | none => rw [hmi] at hs; simp [Rd.eval] at hs
    | some k =>
      rw [hmi] at hs
      cases k with
      | arr => simp [Rd.eval] at hs
      | tree => simp [Rd.eval] at hs
      | dead => simp [Rd.eval] at hs
      | box ep' cells =>
        simp only at hs; split at hs
        · rename_i e; obtain ⟨rfl, hoff, hlen, hu⟩ := e; obtain ⟨xs, hxs, hs⟩ := Rd.bind_some hs; simp only [Rd.eval, Option.some.injEq, Prod.mk.injEq] at hs; obtain ⟨rfl, rfl, rfl⟩ := hs
          cases hr with
          | bsl _ _ _ _ b cap hle hm hv =>
            obtain ⟨D, hb⟩ := hv cells hmi; obtain ⟨b', D', cs, el, hb', hh, hsz, hcell⟩ := h.blk id _ hmi; rw [hb] at hb'; (obtain ⟨rfl, rfl⟩ : b = b' ∧ D = D' := by simpa using hb'); (have hsl : (((cells.drop off).take len)).length = len := by rw [length_take, length_drop]; omega); have hvl : (((cs.toList.drop off).take len)).length = len := by rw [length_take, length_drop, Array.length_toList]; omega
            obtain ⟨e1, e2⟩ := elemsD_sound h hB hu (vs := (cs.toList.drop off).take len) (fun sv hsv id' hid' b hb => hl id' (mem_cons_of_mem _ (mem_flatMap.2 ⟨sv, hsv, hid'⟩)) b hb) (by rw [hsl, hvl])
              (fun i sv v hi hj => by
                rw [getElem?_take, getElem?_drop] at hi hj; split at hi
                · rename_i hlt; rw [if_pos hlt] at hj; obtain ⟨v', hv', h1, hr⟩ := hcell _ _ hi; have : cs[off + i]? = some v := by simpa using hj
                  rw [hv'] at this
                  obtain rfl := Option.some.inj this
                  exact ⟨h1, hr⟩
                · simp at hi) hxs
            (have hxl : xs.length = len := by rw [e1, hvl]); refine ⟨rfl, xs, rfl, .one _ _ _ (fun n e => by cases e) ?_⟩; rw [← hxl]; refine .slice u xs ⟨b, off, none⟩ cap (fun i => [((cs.toList.drop off).take len).getD i undef]) (by unfold lim; omega) (by omega) (fun _ => hl id (mem_cons_self ..) b (.inl ⟨D, hb⟩)) (fun _ => rfl) (fun i hi => by rw [hu]; rfl) (fun i j v hi hj => ?_) (fun i hi => ?_)
            · match j, hj with
              | 0, hj =>
                simp only [getElem?_cons_zero, Option.some.injEq] at hj; subst hj; (have hi2 : i < ((cs.toList.drop off).take len).length := by omega); have h3 : off + i < cs.size := by omega
                have hg : ((cs.toList.drop off).take len).getD i undef = cs[off + i] := by
                  rw [getD_eq_getElem?_getD, getElem?_take, if_pos (by omega), getElem?_drop, Array.getElem?_toList, Array.getElem?_eq_getElem h3]; rfl
                rw [hg]; show w.cell? ⟨b, off + i * u.size + 0, none⟩ = _; unfold World.cell?; rw [hh]; show cs[off + i * u.size + 0]? = _; rw [hu, Nat.mul_one, Nat.add_zero, Array.getElem?_eq_getElem h3]
              | j + 1, hj => simp at hj
            · (have hi2 : i < ((cs.toList.drop off).take len).length := by omega); have := e2 i hi hi2; rw [getD_eq_getElem?_getD, getElem?_eq_getElem hi2]
              exact this
        · simp [Rd.eval] at hs
  | _ => simp [vecArg, Rd.eval] at hs

theorem argOf_sound (h : SimB E N env mem a w β) {B : Nat → Prop} (hB : ∀ b, allow E w β b → B b) {p : PK} {sv : SV} {v : Value} {tv : TV} {lent bs : List Nat}
    (hr : RepSV (allow E w β) w β mem sv v) (hs : (argOf p sv).eval mem = some (tv, lent, bs)) (hl : ∀ id ∈ lent, ∀ b, Held β id b → B b) :
    (∀ id ∈ bs, ∃ ep cells, mem id = some (.box ep cells)) ∧ ∃ bs', bs.length = bs'.length ∧ (∀ i (h : i < bs.length) (h' : i < bs'.length), ∃ D, β bs[i] = some (bs'[i], D)) ∧
      ∀ {ps vs tvs bs2}, RepArgs B w ps vs tvs bs2 → RepArgs B w (p :: ps) (v :: vs) (tv :: tvs) (bs' ++ bs2) := by
  cases p with
  | val t =>
    cases sv with
    | bsl id ep off len =>
      obtain ⟨rfl, x, rfl, hx⟩ := vecArg_sound h hB hr hs hl; exact ⟨by simp, [], rfl, by simp, fun k => .val t x v _ _ _ _ hx k⟩
    | _ => exact argOf0_sound h hB hr hs hl
  | rd t => exact argOf0_sound h hB hr hs hl
  | box n => exact argOf0_sound h hB hr hs hl
  | clo f t =>
    cases hr with
    | clo g l vs hlen hr =>
      match l, hlen with
      | [], _ => simp [argOf, Rd.eval] at hs
      | _ :: _ :: _, _ => simp [argOf, Rd.eval] at hs
      | [sv], hlen =>
        obtain ⟨v, rfl⟩ : ∃ v, vs = [v] := length_eq_one_iff.1 hlen.symm; simp only [argOf] at hs; split at hs
        · rename_i e; subst e; obtain ⟨h1, bs', h2, h3, h4⟩ := argOf0_sound h hB (hr 0 sv v rfl rfl) hs hl; refine ⟨h1, bs', h2, h3, fun k => ?_⟩; have := h4 k
          cases this with
          | rd _ x b off cs _ _ _ _ hA hc h k => exact .clo _ _ x b off cs _ _ _ _ hA hc h k
        · simp [Rd.eval] at hs
    | _ => simp [argOf, Rd.eval] at hs

theorem argsOf_sound (h : SimB E N env mem a w β) {B : Nat → Prop} (hB : ∀ b, allow E w β b → B b) : ∀ {ps : List PK} {svs : List SV} {vs : List Value} {tvs : List TV} {lent bs : List Nat},
    svs.length = vs.length → (∀ (i : Nat) (sv : SV) (v : Value), svs[i]? = some sv → vs[i]? = some v → RepSV (allow E w β) w β mem sv v) →
    (argsOf ps svs).eval mem = some (tvs, lent, bs) → (∀ id ∈ lent, ∀ b, Held β id b → B b) →
    (∀ id ∈ bs, ∃ ep cells, mem id = some (.box ep cells)) ∧ ∃ bs', bs.length = bs'.length ∧ (∀ i (h : i < bs.length) (h' : i < bs'.length), ∃ D, β bs[i] = some (bs'[i], D)) ∧ RepArgs B w ps vs tvs bs' := by
  intro ps
  induction ps with
  | nil =>
    intro svs vs tvs lent bs hl hr hs _
    cases svs with
    | nil =>
      simp only [argsOf, Rd.eval, Option.some.injEq, Prod.mk.injEq] at hs; obtain ⟨rfl, rfl, rfl⟩ := hs
      cases vs with
      | nil => exact ⟨by simp, [], rfl, by simp, .nil⟩
      | cons => simp at hl
    | cons => simp [argsOf, Rd.eval] at hs
  | cons p ps ih =>
    intro svs vs tvs lent bs hl hr hs hlent
    cases svs with
    | nil => simp [argsOf, Rd.eval] at hs
    | cons sv svs =>
      cases vs with
      | nil => simp at hl
      | cons v vs =>
        simp only [argsOf] at hs; obtain ⟨⟨x, l1, b1⟩, h1, hs⟩ := Rd.bind_some hs; obtain ⟨⟨xs, l2, b2⟩, h2, hs⟩ := Rd.bind_some hs; simp only [Rd.eval, Option.some.injEq, Prod.mk.injEq] at hs; obtain ⟨rfl, rfl, rfl⟩ := hs; obtain ⟨a1, bs1, a2, a3, a4⟩ := argOf_sound h hB (hr 0 sv v rfl rfl) h1 (fun id hi => hlent id (by simp [hi])); obtain ⟨c1, bs2, c2, c3, c4⟩ := ih (by simpa using hl) (fun i sv v hi hj => hr (i + 1) sv v (by simpa using hi) (by simpa using hj)) h2 (fun id hi => hlent id (by simp [hi])); refine ⟨fun id hid => ?_, bs1 ++ bs2, by simp [a2, c2], fun i g1 g2 => ?_, a4 c4⟩
        · rcases mem_append.1 hid with hid | hid
          · exact a1 id hid
          · exact c1 id hid
        · by_cases hlt : i < b1.length
          · rw [getElem_append_left hlt, getElem_append_left (by omega)]; exact a3 i hlt (by omega)
          · (have g1' : i < b1.length + b2.length := by simpa using g1); rw [getElem_append_right (by omega), getElem_append_right (by omega)]; have := c3 (i - b1.length) (by omega) (by omega)
            simpa [a2] using this

end
end Go.Am
