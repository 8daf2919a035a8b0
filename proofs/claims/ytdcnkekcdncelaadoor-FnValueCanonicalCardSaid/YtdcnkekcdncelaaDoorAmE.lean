/-
  Am, part E: parts of data; loads; the other operations that write nothing.
-/
import Derived.Test.YtdcnkekcdncelaaDoorAmD
set_option linter.all false
namespace Go.Am
open List
variable [U : Univ]

def Ty.isNamed : Ty → Bool
  | .named _ => true
  | _ => false

def valOf (t : Ty) (cs : List Value) : Value := if t.isNamed then .agg cs.toArray else cs.getD 0 undef

theorem repV_valOf {A : Nat → Prop} {w : World} {t : Ty} {x : t.den} {cs : List Value} (h : RepC A w t x cs) : RepV A w t x (valOf t cs) := by
  have hl := h.length
  cases t with
  | named n => exact .agg n x cs h
  | _ =>
    refine .one _ _ _ (by simp) ?_; simp only [Ty.size] at hl
    match cs, hl with
    | [c], _ => exact h

theorem RepV.cells {A : Nat → Prop} {w : World} {t : Ty} {x : t.den} {v : Value} (h : RepV A w t x v) : RepC A w t x v.cells.toList ∧ v.cells.size = t.size := by
  cases h with
  | agg n x cs h => exact ⟨by simpa [Value.cells] using h, by simpa [Value.cells] using h.length⟩
  | one t x v ht h =>
    have h1 := h.one v (by simp); (have e : v.cells = #[v] := by cases v <;> simp_all [Value.cells, Value.oneCell']); exact ⟨by simpa [e] using h, by rw [e]; simpa using h.length⟩

theorem RepSV.ofTV {A : Nat → Prop} {w : World} {β : Bind} {mem : Nat → Option Blk} {t : Ty} {x : t.den} {v : Value} (h : RepV A w t x v) :
    RepSV A w β mem (SV.ofTV ⟨t, x⟩) v := by
  cases h with
  | agg n x cs h => exact .data _ _ _ (.agg n x cs h)
  | one t x v ht h =>
    cases t with
    | int k => cases h; constructor <;> assumption
    | bool => cases h; constructor
    | str => cases h; constructor; assumption
    | named n => exact absurd rfl (ht n)
    | slice t => exact .data _ _ _ (.one _ _ _ (by simp) h)

theorem RepL.part {A : Nat → Prop} {w : World} {l : List TV} {cs : List Value} (h : RepL A w l cs) (f : Nat) {t : Ty} {x : t.den} (hf : l[f]? = some ⟨t, x⟩) :
    RepC A w t x ((cs.drop ((((l.map Sigma.fst).take f).map Ty.size).sum)).take t.size) ∧ ((((l.map Sigma.fst).take f).map Ty.size).sum) + t.size ≤ cs.length := by
  induction f generalizing l cs with
  | zero =>
    cases h with
    | nil => simp at hf
    | cons u y r cs ds h k =>
      simp only [getElem?_cons_zero, Option.some.injEq] at hf; obtain rfl : u = t := congrArg Sigma.fst hf; (obtain rfl : y = x := by simpa using hf); have hl := h.length; refine ⟨?_, ?_⟩
      · simp only [take_zero, map_nil, sum_nil, drop_zero]; rw [take_append_of_le_length (by omega), take_of_length_le (by omega)]; exact h
      · simp [hl]
  | succ f ih =>
    cases h with
    | nil => simp at hf
    | cons u y r cs ds h k =>
      simp only [getElem?_cons_succ] at hf; obtain ⟨h1, h2⟩ := ih k hf; have hl := h.length; refine ⟨?_, ?_⟩
      · simp only [map_cons, take_succ_cons, sum_cons]; rw [← hl, ← drop_drop, drop_left]; exact h1
      · simp only [map_cons, take_succ_cons, sum_cons, length_append]; omega

theorem RepC.field {A : Nat → Prop} {w : World} {n f : Nat} {x : U.R n} {cs : List Value} (h : RepC A w (.named n) x cs) {t : Ty} {y : t.den} (hf : (U.get n x)[f]? = some ⟨t, y⟩) :
    RepC A w t y ((cs.drop (offsetOf n f)).take t.size) ∧ offsetOf n f + t.size ≤ cs.length := by
  cases h with
  | named n x cs h =>
    have := h.part f hf
    rw [U.get_tys] at this
    exact this

theorem follow_rep {A : Nat → Prop} {w : World} (p : List Nat) : ∀ {t : Ty} {x : t.den} {cs : List Value} {u : Ty} {y : u.den}, RepC A w t x cs → follow ⟨t, x⟩ p = some ⟨u, y⟩ →
    ∃ o, pathOff t p = some (o, u) ∧ RepC A w u y ((cs.drop o).take u.size) ∧ o + u.size ≤ cs.length := by
  induction p with
  | nil =>
    intro t x cs u y h hf; simp only [follow, Option.some.injEq] at hf; obtain rfl : t = u := congrArg Sigma.fst hf; (obtain rfl : x = y := by simpa using hf); refine ⟨0, rfl, ?_, by simp [h.length]⟩; rw [drop_zero, take_of_length_le (by rw [h.length]; omega)]; exact h
  | cons f p ih =>
    intro t x cs u y h hf
    cases t with
    | named n =>
      simp only [follow] at hf; split at hf
      · rename_i tv htv; obtain ⟨t', x'⟩ := tv; obtain ⟨h1, h2⟩ := h.field htv; obtain ⟨o, ho, h3, h4⟩ := ih h1 hf; (have ht : (U.tys n)[f]? = some t' := by rw [← U.get_tys n x, getElem?_map, htv]; rfl); refine ⟨offsetOf n f + o, by simp [pathOff, ht, ho], ?_, ?_⟩
        · simp only [length_take, length_drop] at h4; rw [drop_take, take_take, drop_drop] at h3; rwa [Nat.min_eq_left (by omega)] at h3
        · simp only [length_take, length_drop] at h4; omega
      · simp at hf
    | _ => simp [follow] at hf

theorem treeCells_rep {A A' : Nat → Prop} {w w' : World} {β : Bind} {mem : Nat → Option Blk} : ∀ (f : Nat) {t : Ty} {x : t.den} {cs : List Value}, RepC A w t x cs →
    (treeCells f ⟨t, x⟩).length = cs.length ∧ ∀ (i : Nat) (sv : SV) (v : Value), (treeCells f ⟨t, x⟩)[i]? = some sv → cs[i]? = some v → RepSV A' w' β mem sv v := by
  have one : ∀ {sv : SV} {v : Value}, RepSV A' w' β mem sv v → ∀ (i : Nat) (sv' : SV) (v' : Value), [sv][i]? = some sv' → [v][i]? = some v' → RepSV A' w' β mem sv' v' := by
    intro sv v h i sv' v' hi hj
    match i, hi, hj with
    | 0, hi, hj =>
      simp only [getElem?_cons_zero, Option.some.injEq] at hi hj; subst hi hj; exact h
  intro f
  induction f with
  | zero =>
    intro t x cs h
    cases h with
    | int k n lo hi => exact ⟨rfl, one (.int k n lo hi)⟩
    | bool b => exact ⟨rfl, one (.bool b)⟩
    | str s hs => exact ⟨rfl, one (.str s hs)⟩
    | named n x cs h =>
      have hl := (RepC.named n x cs h).length; refine ⟨by simp only [treeCells, length_replicate]; exact hl.symm, fun i sv v hi _ => ?_⟩; simp only [treeCells, getElem?_replicate] at hi; split at hi
      · obtain rfl := Option.some.inj hi; exact .top v
      · simp at hi
    | nil t => exact ⟨rfl, one (.top _)⟩
    | slice t xs p cap css hl hcap hA hs hlen hc hr => exact ⟨rfl, one (.top _)⟩
  | succ f ih =>
    intro t x cs h
    cases h with
    | int k n lo hi => exact ⟨rfl, one (.int k n lo hi)⟩
    | bool b => exact ⟨rfl, one (.bool b)⟩
    | str s hs => exact ⟨rfl, one (.str s hs)⟩
    | named n x cs h =>
      simp only [treeCells]; generalize U.get n x = l at h; clear x
      induction l generalizing cs with
      | nil => cases h; exact ⟨rfl, fun i sv v hi _ => by simp at hi⟩
      | cons tv r ihr =>
        obtain ⟨t, x⟩ := tv
        cases h with
        | cons _ _ _ cs ds h k =>
          obtain ⟨h1, h2⟩ := ih h; obtain ⟨k1, k2⟩ := ihr k; refine ⟨by simp only [flatMap_cons, length_append]; omega, fun i sv v hi hj => ?_⟩; simp only [flatMap_cons] at hi; by_cases hlt : i < cs.length
          · rw [getElem?_append_left (by omega)] at hi hj; exact h2 i sv v hi hj
          · rw [getElem?_append_right (by omega)] at hi hj; rw [h1] at hi; exact k2 _ sv v hi hj
    | nil t => exact ⟨rfl, one (.top _)⟩
    | slice t xs p cap css hl hcap hA hs hlen hc hr => exact ⟨rfl, one (.top _)⟩

theorem treeSV_rep {A A' : Nat → Prop} {w w' : World} {β : Bind} {mem : Nat → Option Blk} {t : Ty} {x : t.den} {cs : List Value} (h : RepC A w t x cs) : RepSV A' w' β mem (treeSV ⟨t, x⟩) (valOf t cs) := by
  simp only [treeSV]; split
  · rename_i hf; exact RepSV.ofTV (repV_valOf (h.flat fuel hf))
  · cases t with
    | named n =>
      obtain ⟨k1, k2⟩ := treeCells_rep (A' := A') (w' := w') (β := β) (mem := mem) fuel h; simp only [valOf, Ty.isNamed, if_true]; exact .agg _ _ k1 h.one k2
    | _ => exact .top _

section
variable {E : Ent} {N : Nat} {env : Nat → SV} {mem : Nat → Option Blk} {a : Act} {w : World} {β : Bind} {P : Program} {C : Ctx}

theorem TyOK.size {T : Nat} {t : Ty} (h : TyOK P C T t) (w : World) : (sizeOf T).run P w = .ok t.size w := by
  obtain ⟨i, z, hi, hs, _⟩ := h.info; simp [sizeOf, typeInfo, hi, hs]

theorem TyOK.isAgg {T : Nat} {t : Ty} (h : TyOK P C T t) (w : World) : (isAgg T).run P w = .ok t.isNamed w := by
  have hu := h.und
  cases t with
  | int k => simp [Go.isAgg, run_underlying hu, Ty.isNamed]
  | bool => simp [Go.isAgg, run_underlying hu, Ty.isNamed]
  | str => simp [Go.isAgg, run_underlying hu, Ty.isNamed]
  | slice e => obtain ⟨E, hu, _⟩ := hu; simp [Go.isAgg, run_underlying hu, Ty.isNamed]
  | named n => obtain ⟨E, hu, _⟩ := hu; simp [Go.isAgg, run_underlying hu, Ty.isNamed]

theorem TyOK.zero {T : Nat} {t : Ty} (h : TyOK P C T t) (w : World) : ∃ z, (zeroValue T).run P w = .ok z w ∧ ∀ A w, RepV A w t t.zero z := by
  obtain ⟨i, z, hi, _, _, _, hz, hr⟩ := h.info; exact ⟨z, by simp [zeroValue, typeInfo, hi, hz], hr⟩

theorem TyOK.loadVar {T : Nat} {t : Ty} (h : TyOK P C T t) {b off : Nat} {cs : List Value} (hl : cs.length = t.size)
    (hc : ∀ (j : Nat) (v : Value), cs[j]? = some v → w.cell? ⟨b, off + j, none⟩ = some v) : (loadVar T ⟨b, off, none⟩).run P w = .ok (valOf t cs) w := by
  have hp := t.size_pos; simp only [Go.loadVar, Sem.run_bind, h.isAgg, Result.andThen_ok, valOf]
  cases ht : t.isNamed with
  | true =>
    simp only [if_true, Sem.run_bind, h.size, Result.andThen_ok]; rw [← hl, run_loadCells_list w ⟨b, off, none⟩ cs (fun j v hj => by rw [Addr.add_lit]; exact hc j v hj)]; rfl
  | false =>
    have h1 : t.size = 1 := by cases t <;> simp_all [Ty.isNamed, Ty.size]
    match cs, hl.trans h1 with
    | [c], _ =>
      have := hc 0 c rfl
      simp only [Nat.add_zero] at this
      simp [run_load, this]

theorem loadVar_ptr {T X : Nat} (hu : P.underlying T = some (.pointer X)) {b off : Nat} {cs : List Value} (hl : cs.length = Ty.bool.size)
    (hc : ∀ (j : Nat) (v : Value), cs[j]? = some v → w.cell? ⟨b, off + j, none⟩ = some v) : (loadVar T ⟨b, off, none⟩).run P w = .ok (valOf .bool cs) w := by
  match cs, hl with
  | [c], _ =>
    have := hc 0 c rfl
    simp only [Nat.add_zero] at this
    simp [Go.loadVar, Go.isAgg, run_underlying hu, run_load, this, valOf, Ty.isNamed]

theorem load_sound (h : SimB E N env mem a w β) {T : Nat} {t : Ty} (ht : ∀ {b off : Nat} {cs : List Value}, cs.length = t.size → (∀ (j : Nat) (v : Value), cs[j]? = some v → w.cell? ⟨b, off + j, none⟩ = some v) → (loadVar T ⟨b, off, none⟩).run P w = .ok (valOf t cs) w) {sv r : SV} {x : Value} (hx : RepSV (allow E w β) w β mem sv x)
    (hs : (loadSV t sv).eval mem = some r) : ∃ y, (Instr.loadAt T x).run P w = .ok y w ∧ RepSV (allow E w β) w β mem r y := by
  cases hx with
  | dref u x b off cs hA hc hr =>
    simp only [loadSV] at hs; split at hs
    · rename_i e; subst e; simp only [Rd.eval, Option.some.injEq] at hs; subst hs; exact ⟨_, by simp only [Instr.loadAt, Instr.sureAddr, Sem.run_bind, Sem.run_pure, Result.andThen_ok]; exact ht hr.length hc, RepSV.ofTV (repV_valOf hr)⟩
    · simp [Rd.eval] at hs
  | ref id ep off b hm hv =>
    simp only [loadSV] at hs; replace hs := Rd.mem_some hs
    cases hmi : mem id with
    | none => rw [hmi] at hs; simp [Rd.eval] at hs
    | some k =>
      rw [hmi] at hs
      cases k with
      | arr => simp [Rd.eval] at hs
      | tree => simp [Rd.eval] at hs
      | dead => simp [Rd.eval] at hs
      | box ep' cells =>
        simp only at hs; split at hs
        · rename_i e; subst e; obtain ⟨D, hb⟩ := hv cells hmi; obtain ⟨b', D', cs, el, hb', hh, hsz, hcell⟩ := h.blk id _ hmi; rw [hb] at hb'; (obtain ⟨rfl, rfl⟩ : b = b' ∧ D = D' := by simpa using hb'); have hcl : ∀ (j : Nat) (v : Value), cs[j]? = some v → w.cell? ⟨b, j, none⟩ = some v := fun j v hj => by simp [World.cell?, hh, hj]
          cases t with
          | named n =>
            simp only at hs; split at hs
            · rename_i hle; simp only [Rd.eval, Option.some.injEq] at hs; subst hs
              have hl : ((cs.toList.drop off).take (U.sz n)).length = U.sz n := by
                simp only [length_take, length_drop, Array.length_toList]; omega
              refine ⟨valOf (.named n) ((cs.toList.drop off).take (U.sz n)), ?_, ?_⟩
              · simp only [Instr.loadAt, Instr.sureAddr, Sem.run_bind, Sem.run_pure, Result.andThen_ok]; refine ht hl fun j v hj => ?_; rw [getElem?_take, getElem?_drop] at hj; split at hj
                · exact hcl _ _ (by simpa using hj)
                · simp at hj
              · refine .agg _ _ (by simp only [length_take, length_drop, Array.length_toList]; omega) ?_ ?_
                · intro v hv; have hv := mem_of_mem_drop (mem_of_mem_take hv); obtain ⟨j, hj, rfl⟩ := mem_iff_getElem.1 hv; (have hj' : j < cells.length := by simpa [hsz] using hj); obtain ⟨v, hv, h1, _⟩ := hcell j cells[j] (by simp [hj'])
                  have : cs.toList[j] = v := by
                    have : cs.toList[j]? = some v := by simpa using hv
                    rw [getElem?_eq_getElem hj] at this
                    simpa using this
                  rw [this]; exact h1
                · intro i sv v hi hj; rw [getElem?_take, getElem?_drop] at hi hj; split at hi
                  · rename_i hlt; rw [if_pos hlt] at hj; obtain ⟨v', hv', _, hr⟩ := hcell _ _ hi; have : cs[off + i]? = some v := by simpa using hj
                    rw [hv'] at this
                    obtain rfl := Option.some.inj this
                    exact hr
                  · simp at hi
            · simp [Rd.eval] at hs
          | _ =>
            simp only at hs; split at hs
            · rename_i sv hsv; simp only [Rd.eval, Option.some.injEq] at hs; subst hs; obtain ⟨v, hv, h1, hr⟩ := hcell _ _ hsv; refine ⟨v, ?_, hr⟩; simp only [Instr.loadAt, Instr.sureAddr, Sem.run_bind, Sem.run_pure, Result.andThen_ok]
              rw [ht (cs := [v]) rfl (fun j u hj => by
                match j, hj with
                | 0, hj => simp at hj; subst hj; exact hcl _ _ hv)]
              simp [valOf, Ty.isNamed]
            · simp [Rd.eval] at hs
        · simp [Rd.eval] at hs
  | eref id ep i p b ov hm hv =>
    simp only [loadSV] at hs; replace hs := Rd.mem_some hs
    cases hmi : mem id with
    | none => rw [hmi] at hs; simp [Rd.eval] at hs
    | some k =>
      rw [hmi] at hs
      cases k with
      | box => simp [Rd.eval] at hs
      | tree => simp [Rd.eval] at hs
      | dead => simp [Rd.eval] at hs
      | arr ep' u xs =>
        simp only at hs; split at hs
        · rename_i e; subst e; obtain ⟨hlt, D, o, u', hb, hpo, rfl⟩ := hv u xs hmi; obtain ⟨_, ⟨hb', _⟩ | ⟨b', D', cs, el, css, hb', hh, hsz, hD, hel⟩⟩ := h.blk id _ hmi
          · rw [hb] at hb'; simp at hb'
          rw [hb] at hb'; (obtain ⟨rfl, rfl⟩ : b = b' ∧ D = D' := by simpa using hb'); obtain ⟨hcl, hcc, hrep⟩ := hel i hlt; rw [show xs.getD i u.zero = xs[i] by simp [hlt]] at hs; split at hs
          · rename_i v' y hfo; split at hs
            · rename_i e; subst e; simp only [Rd.eval, Option.some.injEq] at hs; subst hs; obtain ⟨o', ho', hr, hle⟩ := follow_rep p hrep hfo; rw [ho'] at hpo; (obtain ⟨rfl, rfl⟩ : o' = o ∧ v' = u' := by simpa using hpo); refine ⟨_, ?_, RepSV.ofTV (repV_valOf hr)⟩; simp only [Instr.loadAt, Instr.sureAddr, Sem.run_bind, Sem.run_pure, Result.andThen_ok]; refine ht hr.length fun j v hj => ?_; rw [getElem?_take, getElem?_drop] at hj; split at hj
              · have := hcc _ _ hj; simp [World.cell?, hh]; rw [show i * u.size + o' + j = i * u.size + (o' + j) by omega]
                exact this
              · simp at hj
            · simp [Rd.eval] at hs
          · simp [Rd.eval] at hs
        · simp [Rd.eval] at hs
  | tref id ep i p b ov hm hv =>
    simp only [loadSV] at hs; replace hs := Rd.mem_some hs
    cases hmi : mem id with
    | none => rw [hmi] at hs; simp [Rd.eval] at hs
    | some k =>
      rw [hmi] at hs
      cases k with
      | box => simp [Rd.eval] at hs
      | arr => simp [Rd.eval] at hs
      | dead => simp [Rd.eval] at hs
      | tree ep' u xs =>
        simp only at hs; split at hs
        · rename_i e; subst e; obtain ⟨hlt, D, o, u', hb, hpo, rfl⟩ := hv u xs hmi; obtain ⟨_, ⟨hb', _⟩ | ⟨b', D', cs, el, css, T', hb', hh, hsz, hD, hT1, hT2, hel⟩⟩ := h.blk id _ hmi
          · rw [hb] at hb'; simp at hb'
          rw [hb] at hb'; (obtain ⟨rfl, rfl⟩ : b = b' ∧ D = D' := by simpa using hb'); obtain ⟨hcl, hcc, hrep⟩ := hel i hlt; rw [show xs.getD i u.zero = xs[i] by simp [hlt]] at hs; split at hs
          · rename_i v' y hfo; split at hs
            · rename_i e; subst e; simp only [Rd.eval, Option.some.injEq] at hs; subst hs; obtain ⟨o', ho', hr, hle⟩ := follow_rep p (hrep.repC (A := T' i) fun _ h => h) hfo; rw [ho'] at hpo; (obtain ⟨rfl, rfl⟩ : o' = o ∧ v' = u' := by simpa using hpo); refine ⟨_, ?_, treeSV_rep hr⟩; simp only [Instr.loadAt, Instr.sureAddr, Sem.run_bind, Sem.run_pure, Result.andThen_ok]; refine ht hr.length fun j v hj => ?_; rw [getElem?_take, getElem?_drop] at hj; split at hj
              · have := hcc _ _ hj; simp [World.cell?, hh]; rw [show i * u.size + o' + j = i * u.size + (o' + j) by omega]
                exact this
              · simp at hj
            · simp [Rd.eval] at hs
          · simp [Rd.eval] at hs
        · simp [Rd.eval] at hs
  | _ => simp [loadSV, Rd.eval] at hs

end
end Go.Am
