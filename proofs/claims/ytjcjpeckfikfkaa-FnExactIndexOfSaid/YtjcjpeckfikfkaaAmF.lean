/-
  Am, part F: new blocks, and writes into the call's own.
-/
import Derived.Test.YtjcjpeckfikfkaaAmD
set_option linter.all false
namespace Go.Am
open List
variable [U : Univ]


def valOf (t : Ty) (cs : List Value) : Value := if t.isNamed then .agg cs.toArray else cs.getD 0 undef

theorem repV_valOf {A : Nat → Prop} {w : World} {t : Ty} {x : t.den} {cs : List Value} (h : RepC A w t x cs) : RepV A w t x (valOf t cs) := by
  have hl := h.length
  cases t with
  | named n => exact .agg n x cs h
  | _ =>
    refine .one _ _ _ (by simp) ?_; simp only [Ty.size] at hl
    match cs, hl with
    | [c], _ => exact h

theorem RepV.cells {A : Nat → Prop} {w : World} {t : Ty} {x : t.den} {v : Value} (h : RepV A w t x v) : RepC A w t x v.cells.toList ∧ v.cells.size = t.size := by
  cases h with
  | agg n x cs h => exact ⟨by simpa [Value.cells] using h, by simpa [Value.cells] using h.length⟩
  | one t x v ht h =>
    have h1 := h.one v (by simp); (have e : v.cells = #[v] := by cases v <;> simp_all [Value.cells, Value.oneCell']); exact ⟨by simpa [e] using h, by rw [e]; simpa using h.length⟩

theorem RepSV.ofTV {A : Nat → Prop} {w : World} {β : Bind} {mem : Nat → Option Blk} {t : Ty} {x : t.den} {v : Value} (h : RepV A w t x v) :
    RepSV A w β mem (SV.ofTV ⟨t, x⟩) v := by
  cases h with
  | agg n x cs h => exact .data _ _ _ (.agg n x cs h)
  | one t x v ht h =>
    cases t with
    | int k => cases h; constructor <;> assumption
    | bool => cases h; constructor
    | str => cases h; constructor; assumption
    | named n => exact absurd rfl (ht n)
    | slice t => exact .data _ _ _ (.one _ _ _ (by simp) h)

theorem RepL.part {A : Nat → Prop} {w : World} {l : List TV} {cs : List Value} (h : RepL A w l cs) (f : Nat) {t : Ty} {x : t.den} (hf : l[f]? = some ⟨t, x⟩) :
    RepC A w t x ((cs.drop ((((l.map Sigma.fst).take f).map Ty.size).sum)).take t.size) ∧ ((((l.map Sigma.fst).take f).map Ty.size).sum) + t.size ≤ cs.length := by
  induction f generalizing l cs with
  | zero =>
    cases h with
    | nil => simp at hf
    | cons u y r cs ds h k =>
      simp only [getElem?_cons_zero, Option.some.injEq] at hf; obtain rfl : u = t := congrArg Sigma.fst hf; (obtain rfl : y = x := by simpa using hf); have hl := h.length; refine ⟨?_, ?_⟩
      · simp only [take_zero, map_nil, sum_nil, drop_zero]; rw [take_append_of_le_length (by omega), take_of_length_le (by omega)]; exact h
      · simp [hl]
  | succ f ih =>
    cases h with
    | nil => simp at hf
    | cons u y r cs ds h k =>
      simp only [getElem?_cons_succ] at hf; obtain ⟨h1, h2⟩ := ih k hf; have hl := h.length; refine ⟨?_, ?_⟩
      · simp only [map_cons, take_succ_cons, sum_cons]; rw [← hl, ← drop_drop, drop_left]; exact h1
      · simp only [map_cons, take_succ_cons, sum_cons, length_append]; omega

theorem RepC.field {A : Nat → Prop} {w : World} {n f : Nat} {x : U.R n} {cs : List Value} (h : RepC A w (.named n) x cs) {t : Ty} {y : t.den} (hf : (U.get n x)[f]? = some ⟨t, y⟩) :
    RepC A w t y ((cs.drop (offsetOf n f)).take t.size) ∧ offsetOf n f + t.size ≤ cs.length := by
  cases h with
  | named n x cs h =>
    have := h.part f hf
    rw [U.get_tys] at this
    exact this

theorem follow_rep {A : Nat → Prop} {w : World} (p : List Nat) : ∀ {t : Ty} {x : t.den} {cs : List Value} {u : Ty} {y : u.den}, RepC A w t x cs → follow ⟨t, x⟩ p = some ⟨u, y⟩ →
    ∃ o, pathOff t p = some (o, u) ∧ RepC A w u y ((cs.drop o).take u.size) ∧ o + u.size ≤ cs.length := by
  induction p with
  | nil =>
    intro t x cs u y h hf; simp only [follow, Option.some.injEq] at hf; obtain rfl : t = u := congrArg Sigma.fst hf; (obtain rfl : x = y := by simpa using hf); refine ⟨0, rfl, ?_, by simp [h.length]⟩; rw [drop_zero, take_of_length_le (by rw [h.length]; omega)]; exact h
  | cons f p ih =>
    intro t x cs u y h hf
    cases t with
    | named n =>
      simp only [follow] at hf; split at hf
      · rename_i tv htv; obtain ⟨t', x'⟩ := tv; obtain ⟨h1, h2⟩ := h.field htv; obtain ⟨o, ho, h3, h4⟩ := ih h1 hf; (have ht : (U.tys n)[f]? = some t' := by rw [← U.get_tys n x, getElem?_map, htv]; rfl); refine ⟨offsetOf n f + o, by simp [pathOff, ht, ho], ?_, ?_⟩
        · simp only [length_take, length_drop] at h4; rw [drop_take, take_take, drop_drop] at h3; rwa [Nat.min_eq_left (by omega)] at h3
        · simp only [length_take, length_drop] at h4; omega
      · simp at hf
    | _ => simp [follow] at hf

theorem treeCells_rep {A A' : Nat → Prop} {w w' : World} {β : Bind} {mem : Nat → Option Blk} : ∀ (f : Nat) {t : Ty} {x : t.den} {cs : List Value}, RepC A w t x cs →
    (treeCells f ⟨t, x⟩).length = cs.length ∧ ∀ (i : Nat) (sv : SV) (v : Value), (treeCells f ⟨t, x⟩)[i]? = some sv → cs[i]? = some v → RepSV A' w' β mem sv v := by
  have one : ∀ {sv : SV} {v : Value}, RepSV A' w' β mem sv v → ∀ (i : Nat) (sv' : SV) (v' : Value), [sv][i]? = some sv' → [v][i]? = some v' → RepSV A' w' β mem sv' v' := by
    intro sv v h i sv' v' hi hj
    match i, hi, hj with
    | 0, hi, hj =>
      simp only [getElem?_cons_zero, Option.some.injEq] at hi hj; subst hi hj; exact h
  intro f
  induction f with
  | zero =>
    intro t x cs h
    cases h with
    | int k n lo hi => exact ⟨rfl, one (.int k n lo hi)⟩
    | bool b => exact ⟨rfl, one (.bool b)⟩
    | str s hs => exact ⟨rfl, one (.str s hs)⟩
    | named n x cs h =>
      have hl := (RepC.named n x cs h).length; refine ⟨by simp only [treeCells, length_replicate]; exact hl.symm, fun i sv v hi _ => ?_⟩; simp only [treeCells, getElem?_replicate] at hi; split at hi
      · obtain rfl := Option.some.inj hi; exact .top v
      · simp at hi
    | nil t => exact ⟨rfl, one (.top _)⟩
    | slice t xs p cap css hl hcap hA hs hlen hc hr => exact ⟨rfl, one (.top _)⟩
  | succ f ih =>
    intro t x cs h
    cases h with
    | int k n lo hi => exact ⟨rfl, one (.int k n lo hi)⟩
    | bool b => exact ⟨rfl, one (.bool b)⟩
    | str s hs => exact ⟨rfl, one (.str s hs)⟩
    | named n x cs h =>
      simp only [treeCells]; generalize U.get n x = l at h; clear x
      induction l generalizing cs with
      | nil => cases h; exact ⟨rfl, fun i sv v hi _ => by simp at hi⟩
      | cons tv r ihr =>
        obtain ⟨t, x⟩ := tv
        cases h with
        | cons _ _ _ cs ds h k =>
          obtain ⟨h1, h2⟩ := ih h; obtain ⟨k1, k2⟩ := ihr k; refine ⟨by simp only [flatMap_cons, length_append]; omega, fun i sv v hi hj => ?_⟩; simp only [flatMap_cons] at hi; by_cases hlt : i < cs.length
          · rw [getElem?_append_left (by omega)] at hi hj; exact h2 i sv v hi hj
          · rw [getElem?_append_right (by omega)] at hi hj; rw [h1] at hi; exact k2 _ sv v hi hj
    | nil t => exact ⟨rfl, one (.top _)⟩
    | slice t xs p cap css hl hcap hA hs hlen hc hr => exact ⟨rfl, one (.top _)⟩

theorem treeSV_rep {A A' : Nat → Prop} {w w' : World} {β : Bind} {mem : Nat → Option Blk} {t : Ty} {x : t.den} {cs : List Value} (h : RepC A w t x cs) : RepSV A' w' β mem (treeSV ⟨t, x⟩) (valOf t cs) := by
  simp only [treeSV]; split
  · rename_i hf; exact RepSV.ofTV (repV_valOf (h.flat fuel hf))
  · cases t with
    | named n =>
      obtain ⟨k1, k2⟩ := treeCells_rep (A' := A') (w' := w') (β := β) (mem := mem) fuel h; simp only [valOf, Ty.isNamed, if_true]; exact .agg _ _ k1 h.one k2
    | _ => exact .top _

section
variable {E : Ent} {N : Nat} {env : Nat → SV} {mem : Nat → Option Blk} {a : Act} {w : World} {β : Bind} {P : Program} {C : Ctx}

theorem TyOK.size {T : Nat} {t : Ty} (h : TyOK P C T t) (w : World) : (sizeOf T).run P w = .ok t.size w := by
  obtain ⟨i, z, hi, hs, _⟩ := h.info; simp [sizeOf, typeInfo, hi, hs]

theorem TyOK.isAgg {T : Nat} {t : Ty} (h : TyOK P C T t) (w : World) : (isAgg T).run P w = .ok t.isNamed w := by
  have hu := h.und
  cases t with
  | int k => simp [Go.isAgg, run_underlying hu, Ty.isNamed]
  | bool => simp [Go.isAgg, run_underlying hu, Ty.isNamed]
  | str => simp [Go.isAgg, run_underlying hu, Ty.isNamed]
  | slice e => obtain ⟨E, hu, _⟩ := hu; simp [Go.isAgg, run_underlying hu, Ty.isNamed]
  | named n => obtain ⟨E, hu, _⟩ := hu; simp [Go.isAgg, run_underlying hu, Ty.isNamed]

theorem TyOK.zero {T : Nat} {t : Ty} (h : TyOK P C T t) (w : World) : ∃ z, (zeroValue T).run P w = .ok z w ∧ ∀ A w, RepV A w t t.zero z := by
  obtain ⟨i, z, hi, _, _, _, hz, hr⟩ := h.info; exact ⟨z, by simp [zeroValue, typeInfo, hi, hz], hr⟩

theorem TyOK.loadVar {T : Nat} {t : Ty} (h : TyOK P C T t) {b off : Nat} {cs : List Value} (hl : cs.length = t.size)
    (hc : ∀ (j : Nat) (v : Value), cs[j]? = some v → w.cell? ⟨b, off + j, none⟩ = some v) : (loadVar T ⟨b, off, none⟩).run P w = .ok (valOf t cs) w := by
  have hp := t.size_pos; simp only [Go.loadVar, Sem.run_bind, h.isAgg, Result.andThen_ok, valOf]
  cases ht : t.isNamed with
  | true =>
    simp only [if_true, Sem.run_bind, h.size, Result.andThen_ok]; rw [← hl, run_loadCells_list w ⟨b, off, none⟩ cs (fun j v hj => by rw [Addr.add_lit]; exact hc j v hj)]; rfl
  | false =>
    have h1 : t.size = 1 := by cases t <;> simp_all [Ty.isNamed, Ty.size]
    match cs, hl.trans h1 with
    | [c], _ =>
      have := hc 0 c rfl
      simp only [Nat.add_zero] at this
      simp [run_load, this]

theorem loadVar_ptr {T X : Nat} (hu : P.underlying T = some (.pointer X)) {b off : Nat} {cs : List Value} (hl : cs.length = Ty.bool.size)
    (hc : ∀ (j : Nat) (v : Value), cs[j]? = some v → w.cell? ⟨b, off + j, none⟩ = some v) : (loadVar T ⟨b, off, none⟩).run P w = .ok (valOf .bool cs) w := by
  match cs, hl with
  | [c], _ =>
    have := hc 0 c rfl
    simp only [Nat.add_zero] at this
    simp [Go.loadVar, Go.isAgg, run_underlying hu, run_load, this, valOf, Ty.isNamed]

theorem load_sound (h : SimB E N env mem a w β) {T : Nat} {t : Ty} (ht : ∀ {b off : Nat} {cs : List Value}, cs.length = t.size → (∀ (j : Nat) (v : Value), cs[j]? = some v → w.cell? ⟨b, off + j, none⟩ = some v) → (loadVar T ⟨b, off, none⟩).run P w = .ok (valOf t cs) w) {sv r : SV} {x : Value} (hx : RepSV (allow E w β) w β mem sv x)
    (hs : (loadSV t sv).eval mem = some r) : ∃ y, (Instr.loadAt T x).run P w = .ok y w ∧ RepSV (allow E w β) w β mem r y := by
  cases hx with
  | dref u x b off cs hA hc hr =>
    simp only [loadSV] at hs; split at hs
    · rename_i e; subst e; simp only [Rd.eval, Option.some.injEq] at hs; subst hs; exact ⟨_, by simp only [Instr.loadAt, Instr.sureAddr, Sem.run_bind, Sem.run_pure, Result.andThen_ok]; exact ht hr.length hc, RepSV.ofTV (repV_valOf hr)⟩
    · simp [Rd.eval] at hs
  | ref id ep off b hm hv =>
    simp only [loadSV] at hs; replace hs := Rd.mem_some hs
    cases hmi : mem id with
    | none => rw [hmi] at hs; simp [Rd.eval] at hs
    | some k =>
      rw [hmi] at hs
      cases k with
      | arr => simp [Rd.eval] at hs
      | tree => simp [Rd.eval] at hs
      | dead => simp [Rd.eval] at hs
      | mp => simp [Rd.eval] at hs
      | hole => simp [Rd.eval] at hs
      | box ep' cells =>
        simp only at hs; split at hs
        · rename_i e; subst e; obtain ⟨D, hb⟩ := hv cells hmi; obtain ⟨b', D', cs, el, hb', hh, hsz, hcell⟩ := h.blk id _ hmi; rw [hb] at hb'; (obtain ⟨rfl, rfl⟩ : b = b' ∧ D = D' := by simpa using hb'); have hcl : ∀ (j : Nat) (v : Value), cs[j]? = some v → w.cell? ⟨b, j, none⟩ = some v := fun j v hj => by simp [World.cell?, hh, hj]
          cases t with
          | named n =>
            simp only at hs; split at hs
            · rename_i hle; simp only [Rd.eval, Option.some.injEq] at hs; subst hs
              have hl : ((cs.toList.drop off).take (U.sz n)).length = U.sz n := by
                simp only [length_take, length_drop, Array.length_toList]; omega
              refine ⟨valOf (.named n) ((cs.toList.drop off).take (U.sz n)), ?_, ?_⟩
              · simp only [Instr.loadAt, Instr.sureAddr, Sem.run_bind, Sem.run_pure, Result.andThen_ok]; refine ht hl fun j v hj => ?_; rw [getElem?_take, getElem?_drop] at hj; split at hj
                · exact hcl _ _ (by simpa using hj)
                · simp at hj
              · refine .agg _ _ (by simp only [length_take, length_drop, Array.length_toList]; omega) ?_ ?_
                · intro v hv; have hv := mem_of_mem_drop (mem_of_mem_take hv); obtain ⟨j, hj, rfl⟩ := mem_iff_getElem.1 hv; (have hj' : j < cells.length := by simpa [hsz] using hj); obtain ⟨v, hv, h1, _⟩ := hcell j cells[j] (by simp [hj'])
                  have : cs.toList[j] = v := by
                    have : cs.toList[j]? = some v := by simpa using hv
                    rw [getElem?_eq_getElem hj] at this
                    simpa using this
                  rw [this]; exact h1
                · intro i sv v hi hj; rw [getElem?_take, getElem?_drop] at hi hj; split at hi
                  · rename_i hlt; rw [if_pos hlt] at hj; obtain ⟨v', hv', _, hr⟩ := hcell _ _ hi; have : cs[off + i]? = some v := by simpa using hj
                    rw [hv'] at this
                    obtain rfl := Option.some.inj this
                    exact hr
                  · simp at hi
            · simp [Rd.eval] at hs
          | _ =>
            simp only at hs; split at hs
            · rename_i sv hsv; simp only [Rd.eval, Option.some.injEq] at hs; subst hs; obtain ⟨v, hv, h1, hr⟩ := hcell _ _ hsv; refine ⟨v, ?_, hr⟩; simp only [Instr.loadAt, Instr.sureAddr, Sem.run_bind, Sem.run_pure, Result.andThen_ok]
              rw [ht (cs := [v]) rfl (fun j u hj => by
                match j, hj with
                | 0, hj => simp at hj; subst hj; exact hcl _ _ hv)]
              simp [valOf, Ty.isNamed]
            · simp [Rd.eval] at hs
        · simp [Rd.eval] at hs
  | eref id ep i p b ov hm hv =>
    simp only [loadSV] at hs; replace hs := Rd.mem_some hs
    cases hmi : mem id with
    | none => rw [hmi] at hs; simp [Rd.eval] at hs
    | some k =>
      rw [hmi] at hs
      cases k with
      | box => simp [Rd.eval] at hs
      | tree => simp [Rd.eval] at hs
      | dead => simp [Rd.eval] at hs
      | mp => simp [Rd.eval] at hs
      | hole => simp [Rd.eval] at hs
      | arr ep' u xs =>
        simp only at hs; split at hs
        · rename_i e; subst e; obtain ⟨hlt, D, o, u', hb, hpo, rfl⟩ := hv u xs hmi; obtain ⟨_, ⟨hb', _⟩ | ⟨b', D', cs, el, css, hb', hh, hsz, hD, hel⟩⟩ := h.blk id _ hmi
          · rw [hb] at hb'; simp at hb'
          rw [hb] at hb'; (obtain ⟨rfl, rfl⟩ : b = b' ∧ D = D' := by simpa using hb'); obtain ⟨hcl, hcc, hrep⟩ := hel i hlt; rw [show xs.getD i u.zero = xs[i] by simp [hlt]] at hs; split at hs
          · rename_i v' y hfo; split at hs
            · rename_i e; subst e; simp only [Rd.eval, Option.some.injEq] at hs; subst hs; obtain ⟨o', ho', hr, hle⟩ := follow_rep p hrep hfo; rw [ho'] at hpo; (obtain ⟨rfl, rfl⟩ : o' = o ∧ v' = u' := by simpa using hpo); refine ⟨_, ?_, RepSV.ofTV (repV_valOf hr)⟩; simp only [Instr.loadAt, Instr.sureAddr, Sem.run_bind, Sem.run_pure, Result.andThen_ok]; refine ht hr.length fun j v hj => ?_; rw [getElem?_take, getElem?_drop] at hj; split at hj
              · have := hcc _ _ hj; simp [World.cell?, hh]; rw [show i * u.size + o' + j = i * u.size + (o' + j) by omega]
                exact this
              · simp at hj
            · simp [Rd.eval] at hs
          · simp [Rd.eval] at hs
        · simp [Rd.eval] at hs
  | tref id ep i p b ov hm hv =>
    simp only [loadSV] at hs; replace hs := Rd.mem_some hs
    cases hmi : mem id with
    | none => rw [hmi] at hs; simp [Rd.eval] at hs
    | some k =>
      rw [hmi] at hs
      cases k with
      | box => simp [Rd.eval] at hs
      | arr => simp [Rd.eval] at hs
      | dead => simp [Rd.eval] at hs
      | mp => simp [Rd.eval] at hs
      | hole ep' u xs hs' o =>
        cases o with
        | none => simp [Rd.eval] at hs
        | some f =>
          simp only at hs; split at hs
          · rename_i e; obtain ⟨rfl, hp, rfl, hn⟩ := e; simp only [Rd.eval, Option.some.injEq] at hs; subst hs; obtain ⟨hlt, D, o, u', hb, hpo, rfl⟩ := hv u xs (.ofH hmi); (obtain rfl : p = [] := by simpa using hp); simp only [pathOff, Option.some.injEq, Prod.mk.injEq] at hpo; obtain ⟨rfl, rfl⟩ := hpo; obtain ⟨_, b', D', cs, el, css, T', hb', hh, hsz, hD, hf, hT1, hT2, hel⟩ := h.blk id _ hmi; rw [hb] at hb'; (obtain ⟨rfl, rfl⟩ : b = b' ∧ D = D' := by simpa using hb'); obtain ⟨hcl, hcc, _⟩ := hel i hlt; have hcf := hf.1 f rfl i hlt; refine ⟨valOf u (css i), ?_, ?_⟩
            · simp only [Instr.loadAt, Instr.sureAddr, Sem.run_bind, Sem.run_pure, Result.andThen_ok]; refine ht hcl fun j v hj => ?_; have := hcc _ _ hj; simp [World.cell?, hh]
              exact this
            · rw [← hcf]; simp only [valOf, hn, if_true]; exact .el id i _
          · simp [Rd.eval] at hs
      | tree ep' u xs =>
        simp only at hs; split at hs
        · rename_i e; subst e; obtain ⟨hlt, D, o, u', hb, hpo, rfl⟩ := hv u xs (.of hmi); obtain ⟨_, ⟨hb', _⟩ | ⟨b', D', cs, el, css, T', hb', hh, hsz, hD, hT1, hT2, hel⟩⟩ := h.blk id _ hmi
          · rw [hb] at hb'; simp at hb'
          rw [hb] at hb'; (obtain ⟨rfl, rfl⟩ : b = b' ∧ D = D' := by simpa using hb'); obtain ⟨hcl, hcc, hrep⟩ := hel i hlt; rw [show xs.getD i u.zero = xs[i] by simp [hlt]] at hs; split at hs
          · rename_i v' y hfo; split at hs
            · rename_i e; subst e; simp only [Rd.eval, Option.some.injEq] at hs; subst hs; obtain ⟨o', ho', hr, hle⟩ := follow_rep p (hrep.repC (A := T' i) fun _ h => h) hfo; rw [ho'] at hpo; (obtain ⟨rfl, rfl⟩ : o' = o ∧ v' = u' := by simpa using hpo); refine ⟨_, ?_, treeSV_rep hr⟩; simp only [Instr.loadAt, Instr.sureAddr, Sem.run_bind, Sem.run_pure, Result.andThen_ok]; refine ht hr.length fun j v hj => ?_; rw [getElem?_take, getElem?_drop] at hj; split at hj
              · have := hcc _ _ hj; simp [World.cell?, hh]; rw [show i * u.size + o' + j = i * u.size + (o' + j) by omega]
                exact this
              · simp at hj
            · simp [Rd.eval] at hs
          · simp [Rd.eval] at hs
        · simp [Rd.eval] at hs
  | _ => simp [loadSV, Rd.eval] at hs

end
end Go.Am


namespace Go.Am
open List
variable [U : Univ]

theorem RepBlk.mono {A A' : Nat → Prop} {w w' : World} {β β' : Bind} {mem mem' : Nat → Option Blk}
    (hA : ∀ b, A b → A' b ∧ w'.heap[b]? = w.heap[b]?)
    (hm : ∀ i k, mem i = some k → ∃ k', mem' i = some k' ∧ k.ep ≤ k'.ep ∧ (k.ep = k'.ep → k.alike k' ∧ β' i = β i))
    {i : Nat} {k : Blk} (hb : β' i = β i) (hh : ∀ b C, β i = some (b, C) → w'.heap[b]? = w.heap[b]?)
    (ho : k.isTree = true → ∀ c, β.own c = some i → β'.own c = some i ∧ w'.heap[c]? = w.heap[c]?) (h : RepBlk A w β mem i k) : RepBlk A' w' β' mem' i k := by
  cases k with
  | box ep cells =>
    obtain ⟨b, C, cs, el, h1, h2, h3, h4⟩ := h; refine ⟨b, C, cs, el, by rw [hb, h1], by rw [hh b C h1, h2], h3, fun j sv hj => ?_⟩; obtain ⟨v, hv, h1, hr⟩ := h4 j sv hj; exact ⟨v, hv, h1, hr.mono hA hm⟩
  | arr ep t xs =>
    obtain ⟨hl, ⟨h1, h2⟩ | ⟨b, C, cs, el, css, h1, h2, h3, h4, h5⟩⟩ := h
    · exact ⟨hl, .inl ⟨by rw [hb, h1], h2⟩⟩
    · refine ⟨hl, .inr ⟨b, C, cs, el, css, by rw [hb, h1], by rw [hh b C h1, h2], h3, h4, fun k hk => ?_⟩⟩; obtain ⟨e1, e2, e3⟩ := h5 k hk; exact ⟨e1, e2, e3.mono hA⟩
  | tree ep t xs =>
    obtain ⟨hl, ⟨h1, h2⟩ | ⟨b, C, cs, el, css, T, h1, h2, h3, h4, h5, h6, h7⟩⟩ := h
    · exact ⟨hl, .inl ⟨by rw [hb, h1], h2⟩⟩
    · refine ⟨hl, .inr ⟨b, C, cs, el, css, T, by rw [hb, h1], by rw [hh b C h1, h2], h3, h4, fun k c hk hT => (ho rfl c (h5 k c hk hT)).1, h6, fun k hk => ?_⟩⟩; obtain ⟨e1, e2, e3⟩ := h7 k hk; exact ⟨e1, e2, e3.mono fun c hc => ⟨hc, (ho rfl c (h5 k c hk hc)).2⟩⟩
  | dead ep => exact hb.trans h
  | hole ep t xs hs o =>
    obtain ⟨hl, b, C, cs, el, css, T, h1, h2, h3, h4, h0, h5, h6, h7⟩ := h; refine ⟨hl, b, C, cs, el, css, T, by rw [hb, h1], by rw [hh b C h1, h2], h3, h4, h0, fun k c hk hn hT => (ho rfl c (h5 k c hk hn hT)).1, h6, fun k hk => ?_⟩; obtain ⟨e1, e2, e3⟩ := h7 k hk; exact ⟨e1, e2, fun hn => (e3 hn).mono fun c hc => ⟨hc, (ho rfl c (h5 k c hk hn hc)).2⟩⟩
  | mp ep l =>
    obtain ⟨b, C, es, clk, h1, h2, h3⟩ := h; exact ⟨b, C, es, clk, by rw [hb, h1], by rw [hh b C h1, h2], h3⟩

def Held (β : Bind) (id b : Nat) : Prop := (∃ C, β id = some (b, C)) ∨ β.own b = some id

section
variable {E : Ent} {N : Nat} {env : Nat → SV} {mem : Nat → Option Blk} {a : Act} {w : World} {β : Bind} {P : Program} {C : Ctx}

theorem SimB.evolve (h : SimB E N env mem a w β) {w' : World} {β' : Bind} {mem' : Nat → Option Blk}
    (hos : w'.os = w.os) (htape : w'.tape = w.tape) (hout : w'.output = w.output ∧ U.dr w.drawn ≤ U.dr w'.drawn) (hgrow : w.heap.size ≤ w'.heap.size)
    (hold : ∀ b, b < E.w0.heap.size → b ∉ E.bs → w'.heap[b]? = w.heap[b]?)
    (hA : ∀ b, allow E w β b → allow E w' β' b ∧ w'.heap[b]? = w.heap[b]?)
    (hm : ∀ i k, mem i = some k → ∃ k', mem' i = some k' ∧ k.ep ≤ k'.ep ∧ (k.ep = k'.ep → k.alike k' ∧ β' i = β i))
    (hdom : ∀ i b C, β' i = some (b, C) → (∃ k, mem' i = some k ∧ (b ∈ E.bs → k.isBox = true)) ∧ b < w'.heap.size ∧ (b ∈ E.bs ∨ E.w0.heap.size ≤ b))
    (hinj : ∀ i j b C D, β' i = some (b, C) → β' j = some (b, D) → i = j)
    (hown : ∀ b i, β'.own b = some i → (∃ k, mem' i = some k ∧ k.isTree = true) ∧ b < w'.heap.size ∧ E.w0.heap.size ≤ b ∧ ∀ j C, β' j ≠ some (b, C))
    (hkeep : ∀ c i k, mem' i = some k → mem i = some k → β.own c = some i → β'.own c = some i ∧ w'.heap[c]? = w.heap[c]?)
    (hblk : ∀ i k', mem' i = some k' → (mem i = some k' ∧ β' i = β i ∧ ∀ b C, β i = some (b, C) → w'.heap[b]? = w.heap[b]?) ∨ RepBlk (allow E w' β') w' β' mem' i k')
    (hpar : ∀ i c, mem' i = some (.box 0 c) → ∃ c0, mem i = some (.box 0 c0) ∧ β' i = β i) :
    SimB E N env mem' a w' β' where
  defers := h.defers.mono hA
  size := h.size
  hN := h.hN
  os := hos.trans h.os
  tape := htape.trans h.tape
  output := ⟨hout.1.trans h.output.1, Nat.le_trans h.output.2 hout.2⟩
  grow := Nat.le_trans h.grow hgrow
  old := fun b hb hn => (hold b hb hn).trans (h.old b hb hn)
  dom := hdom
  inj := hinj
  own := hown
  blk := fun i k hk => by
    rcases hblk i k hk with ⟨h1, h2, h3⟩ | h1
    · exact (h.blk i k h1).mono hA hm h2 h3 fun _ c hc => hkeep c i k hk h1 hc
    · exact h1
  slot := fun s => (h.slot s).mono hA hm
  par := fun i c hc => by
    obtain ⟨c0, h1, h2⟩ := hpar i c hc; obtain ⟨b, D, h3, h4⟩ := h.par i c0 h1; exact ⟨b, D, h3, by rw [h2]; exact h4⟩

def setm (mem : Nat → Option Blk) (id : Nat) (k : Blk) : Nat → Option Blk := fun j => bif Nat.beq j id then some k else mem j

theorem setm_same (mem : Nat → Option Blk) (id : Nat) (k : Blk) : setm mem id k id = some k := by simp [setm]
theorem setm_ne (mem : Nat → Option Blk) {id j : Nat} (k : Blk) (h : j ≠ id) : setm mem id k j = mem j := by
  (have : Nat.beq j id = false := by rw [Bool.eq_false_iff]; intro e; exact h (Nat.eq_of_beq_eq_true e)); simp [setm, this]

theorem updm_one (mem : Nat → Option Blk) (id : Nat) (k : Blk) : updm mem [(id, k)] = setm mem id k := rfl

theorem SimB.fresh (h : SimB E N env mem a w β) {w' : World} {id : Nat} {k : Blk} (bc : Option (Nat × Nat))
    (hep : k.ep ≠ 0 ∧ ∀ k0, mem id = some k0 → k0.ep < k.ep)
    (hos : w'.os = w.os) (htape : w'.tape = w.tape) (hout : w'.output = w.output ∧ U.dr w.drawn ≤ U.dr w'.drawn) (hgrow : w.heap.size ≤ w'.heap.size)
    (hheap : ∀ b, b < w.heap.size → w'.heap[b]? = w.heap[b]?)
    (hbc : ∀ b C, bc = some (b, C) → w.heap.size ≤ b ∧ b < w'.heap.size)
    (hblk : RepBlk (allow E w' (β.set id bc)) w' (β.set id bc) (setm mem id k) id k) :
    SimB E N env (setm mem id k) a w' (β.set id bc) := by
  have hA : ∀ b, allow E w β b → allow E w' (β.set id bc) b ∧ w'.heap[b]? = w.heap[b]? := by
    rintro b ⟨h1, h2, h3, h4⟩; refine ⟨⟨by omega, h2, fun i C => ?_, Bind.set_own_none h4⟩, hheap b h1⟩; by_cases hi : i = id
    · subst hi; rw [Bind.set_same]; intro e; have := hbc b C e; omega
    · rw [Bind.set_ne _ _ hi]; exact h3 i C
  refine h.evolve hos htape hout hgrow (fun b hb _ => hheap b (by have := h.grow; omega)) hA ?_ ?_ ?_ ?_ ?_ ?_ ?_
  · intro i k0 hk0; by_cases hi : i = id
    · subst hi; have := hep.2 k0 hk0; exact ⟨k, setm_same _ _ _, by omega, by omega⟩
    · exact ⟨k0, by rw [setm_ne _ _ hi]; exact hk0, Nat.le_refl _, fun _ => ⟨k0.alike_refl, Bind.set_ne _ _ hi⟩⟩
  · intro i b C hb; by_cases hi : i = id
    · subst hi; rw [Bind.set_same] at hb; obtain ⟨h1, h2⟩ := hbc b C hb; exact ⟨⟨k, setm_same _ _ _, fun hbs => by have := E.wb b hbs; have := h.grow; omega⟩, h2, .inr (by have := h.grow; omega)⟩
    · rw [Bind.set_ne _ _ hi] at hb; obtain ⟨⟨k0, hk0, hk1⟩, h2, h3⟩ := h.dom i b C hb; exact ⟨⟨k0, by rw [setm_ne _ _ hi]; exact hk0, hk1⟩, by omega, h3⟩
  · intro i j b C D hi hj; by_cases h1 : i = id <;> by_cases h2 : j = id
    · rw [h1, h2]
    · subst h1; rw [Bind.set_same] at hi; rw [Bind.set_ne _ _ h2] at hj; have := hbc b C hi; have := (h.dom j b D hj).2.1; omega
    · subst h2; rw [Bind.set_same] at hj; rw [Bind.set_ne _ _ h1] at hi; have := hbc b D hj; have := (h.dom i b C hi).2.1; omega
    · rw [Bind.set_ne _ _ h1] at hi; rw [Bind.set_ne _ _ h2] at hj; exact h.inj i j b C D hi hj
  · intro b i hb; obtain ⟨hb, hne⟩ := Bind.set_own_some hb; obtain ⟨⟨k0, hk0, ht⟩, h2, h3, h4⟩ := h.own b i hb; refine ⟨⟨k0, by rw [setm_ne _ _ hne]; exact hk0, ht⟩, by omega, h3, fun j C hj => ?_⟩; by_cases hji : j = id
    · subst hji; rw [Bind.set_same] at hj; have := hbc b C hj; omega
    · rw [Bind.set_ne _ _ hji] at hj; exact h4 j C hj
  · intro c i k1 hk1 hk2 hc; by_cases hi : i = id
    · subst hi; rw [setm_same] at hk1; obtain rfl := Option.some.inj hk1; have := hep.2 _ hk2; omega
    · refine ⟨?_, hheap c (h.own c i hc).2.1⟩; rw [Bind.set_own, hc, if_neg (fun e => hi (Option.some.inj e))]
  · intro i k' hk'; by_cases hi : i = id
    · subst hi; rw [setm_same] at hk'; obtain rfl := Option.some.inj hk'; exact .inr hblk
    · rw [setm_ne _ _ hi] at hk'; exact .inl ⟨hk', Bind.set_ne _ _ hi, fun b C hb => hheap b (h.dom i b C hb).2.1⟩
  · intro i c hc; by_cases hi : i = id
    · subst hi; rw [setm_same] at hc; obtain rfl := Option.some.inj hc; exact absurd rfl hep.1
    · rw [setm_ne _ _ hi] at hc; exact ⟨c, hc, Bind.set_ne _ _ hi⟩

theorem SimB.write (h : SimB E N env mem a w β) {w' : World} {id b D : Nat} {k0 k : Blk} (hk0 : mem id = some k0) (hb : β id = some (b, D))
    (hep : k0.ep ≤ k.ep) (hal : k0.ep = k.ep → k0.alike k) (hbox : k0.isBox = k.isBox)
    (hos : w'.os = w.os) (htape : w'.tape = w.tape) (hout : w'.output = w.output ∧ U.dr w.drawn ≤ U.dr w'.drawn) (hsize : w'.heap.size = w.heap.size)
    (hheap : ∀ c, c ≠ b → w'.heap[c]? = w.heap[c]?)
    (hblk : RepBlk (allow E w' β) w' β (setm mem id k) id k) (htr : k0.isTree = k.isTree := by rfl) :
    SimB E N env (setm mem id k) a w' β := by
  have hdb := h.dom id b D hb
  have hA : ∀ c, allow E w β c → allow E w' β c ∧ w'.heap[c]? = w.heap[c]? := by
    rintro c ⟨h1, h2, h3, h4⟩; refine ⟨⟨by omega, h2, h3, h4⟩, hheap c ?_⟩; rintro rfl; exact h3 id D hb
  refine h.evolve hos htape hout (by omega) (fun c hc hn => hheap c ?_) hA ?_ ?_ h.inj ?_ ?_ ?_ ?_
  · rintro rfl; rcases hdb.2.2 with h1 | h1
    · exact hn h1
    · omega
  · intro i k1 hk1; by_cases hi : i = id
    · subst hi; rw [hk0] at hk1; obtain rfl := Option.some.inj hk1; exact ⟨k, setm_same _ _ _, hep, fun e => ⟨hal e, rfl⟩⟩
    · exact ⟨k1, by rw [setm_ne _ _ hi]; exact hk1, Nat.le_refl _, fun _ => ⟨k1.alike_refl, rfl⟩⟩
  · intro i c C hc; obtain ⟨⟨k1, hk1, hk2⟩, h2, h3⟩ := h.dom i c C hc; refine ⟨?_, by omega, h3⟩; by_cases hi : i = id
    · subst hi; rw [hk0] at hk1; obtain rfl := Option.some.inj hk1; exact ⟨k, setm_same _ _ _, fun hb => by rw [← hbox]; exact hk2 hb⟩
    · exact ⟨k1, by rw [setm_ne _ _ hi]; exact hk1, hk2⟩
  · intro c i hc; obtain ⟨⟨k1, hk1, ht⟩, h2, h3, h4⟩ := h.own c i hc; refine ⟨?_, by omega, h3, h4⟩; by_cases hi : i = id
    · subst hi; rw [hk0] at hk1; obtain rfl := Option.some.inj hk1; exact ⟨k, setm_same _ _ _, by rw [← htr]; exact ht⟩
    · exact ⟨k1, by rw [setm_ne _ _ hi]; exact hk1, ht⟩
  · intro c i _ _ _ hc; exact ⟨hc, hheap c (fun e => (h.own c i hc).2.2.2 id D (by rw [e]; exact hb))⟩
  · intro i k' hk'; by_cases hi : i = id
    · subst hi; rw [setm_same] at hk'; obtain rfl := Option.some.inj hk'; exact .inr hblk
    · rw [setm_ne _ _ hi] at hk'; exact .inl ⟨hk', rfl, fun c C hc => hheap c (fun e => hi (by subst e; exact h.inj i id c C D hc hb))⟩
  · intro i c hc; by_cases hi : i = id
    · subst hi; rw [setm_same] at hc; obtain rfl := Option.some.inj hc; simp only [Blk.ep, Nat.le_zero] at hep
      cases k0 with
      | box e c0 => simp only at hep; subst hep; exact ⟨c0, hk0, rfl⟩
      | arr => simp [Blk.isBox] at hbox
      | tree => simp [Blk.isBox] at hbox
      | dead => simp [Blk.isBox] at hbox
      | mp => simp [Blk.isBox] at hbox
      | hole => simp [Blk.isBox] at hbox
    · rw [setm_ne _ _ hi] at hc; exact ⟨c, hc, rfl⟩

theorem freshEp_some {id ep : Nat} (h : (freshEp id).eval mem = some ep) : ep ≠ 0 ∧ ∀ k0, mem id = some k0 → k0.ep < ep := by
  have h := Rd.mem_some h; refine ⟨?_, fun k0 hk0 => ?_⟩
  · split at h <;> simp only [Rd.eval, Option.some.injEq] at h <;> omega
  · rw [hk0] at h; simp only [Rd.eval, Option.some.injEq] at h; omega

theorem SimB.alloc (h : SimB E N env mem a w β) {id : Nat} {k : Blk} (cs : Array Value) (el D : Nat) (hep : k.ep ≠ 0 ∧ ∀ k0, mem id = some k0 → k0.ep < k.ep)
    (hblk : ∀ (w' : World) (β' : Bind) (mem' : Nat → Option Blk),
      (∀ b, allow E w β b → allow E w' β' b ∧ w'.heap[b]? = w.heap[b]?) →
      (∀ i k, mem i = some k → ∃ k', mem' i = some k' ∧ k.ep ≤ k'.ep ∧ (k.ep = k'.ep → k.alike k' ∧ β' i = β i)) →
      β' id = some (w.heap.size, D) → w'.heap[w.heap.size]? = some (.cells cs el (0, 0)) → RepBlk (allow E w' β') w' β' mem' id k) :
    SimB E N env (setm mem id k) a (w.alloc (.cells cs el)) (β.set id (some (w.heap.size, D))) := by
  have hheap : ∀ b, b < w.heap.size → (w.alloc (.cells cs el)).heap[b]? = w.heap[b]? := fun b hb => by
    show (w.heap.push _)[b]? = _; rw [Array.getElem?_push, if_neg (by omega)]
  refine h.fresh (some (w.heap.size, D)) hep rfl rfl ⟨rfl, Nat.le_refl _⟩ (by simp) hheap ?_ ?_
  · rintro b C e; simp only [Option.some.injEq, Prod.mk.injEq] at e; obtain ⟨rfl, rfl⟩ := e; exact ⟨Nat.le_refl _, by simp⟩
  · refine hblk _ _ _ ?_ ?_ (Bind.set_same _ _ _) (by show (w.heap.push _)[w.heap.size]? = _; simp)
    · rintro b ⟨h1, h2, h3, h4⟩; refine ⟨⟨by simp; omega, h2, fun i C => ?_, Bind.set_own_none h4⟩, hheap b h1⟩; by_cases hi : i = id
      · subst hi; rw [Bind.set_same]; intro e; simp only [Option.some.injEq, Prod.mk.injEq] at e; omega
      · rw [Bind.set_ne _ _ hi]; exact h3 i C
    · intro i k0 hk0; by_cases hi : i = id
      · subst hi; have := hep.2 k0 hk0; exact ⟨k, setm_same _ _ _, by omega, by omega⟩
      · exact ⟨k0, by rw [setm_ne _ _ hi]; exact hk0, Nat.le_refl _, fun _ => ⟨k0.alike_refl, Bind.set_ne _ _ hi⟩⟩

theorem updm_cons (mem : Nat → Option Blk) (id : Nat) (k : Blk) (r : List (Nat × Blk)) : updm mem ((id, k) :: r) = updm (setm mem id k) r := rfl

theorem updm_append (mem : Nat → Option Blk) (l r : List (Nat × Blk)) : updm mem (l ++ r) = updm (updm mem l) r := by
  induction l generalizing mem with
  | nil => rfl
  | cons x l ih => exact ih _

theorem nodupN_cons {i : Nat} {r : List Nat} (h : nodupN (i :: r) = true) : i ∉ r ∧ nodupN r = true := by
  simp only [nodupN, Bool.and_eq_true, Bool.not_eq_true'] at h; exact ⟨by simpa using h.1, h.2⟩

theorem nodupN_nodup : ∀ {l : List Nat}, nodupN l = true → l.Nodup := by
  intro l
  induction l with
  | nil => intro _; exact nodup_nil
  | cons x l ih =>
    intro h; obtain ⟨h1, h2⟩ := nodupN_cons h; exact nodup_cons.2 ⟨h1, ih h2⟩

theorem SimB.set_none (h : SimB E N env mem a w β) {id : Nat} {k : Blk} (hm : mem id = some k) (ht : k.isTree = false) (hb : β id = none) : β.set id none = β := by
  obtain ⟨m, o⟩ := β
  have e1 : upd m id none = m := by
    funext j; by_cases hj : j = id
    · subst hj; rw [upd_same]; exact hb.symm
    · rw [upd_ne _ _ hj]
  have e2 : (fun b => if o b = some id then none else o b) = o := by
    funext b; split
    · rename_i e; obtain ⟨k0, hk0, h0⟩ := (h.own b id e).1; rw [hm] at hk0; obtain rfl := Option.some.inj hk0; rw [ht] at h0; cases h0
    · rfl
  show (⟨upd m id none, fun b => if o b = some id then none else o b⟩ : Bind) = ⟨m, o⟩; rw [e1, e2]

theorem killed_cons {mem : Nat → Option Blk} {id : Nat} {ids : List Nat} {ks : List (Nat × Blk)} (hk : (killed (id :: ids)).eval mem = some ks) :
    ∃ k0 r, mem id = some k0 ∧ k0.isBox = false ∧ (killed ids).eval mem = some r ∧ ks = (id, .dead (k0.ep + 1)) :: r := by
  simp only [killed] at hk; replace hk := Rd.mem_some hk
  cases hmi : mem id with
  | none => rw [hmi] at hk; simp [Rd.eval] at hk
  | some k =>
    rw [hmi] at hk
    cases k with
    | box => simp [Rd.eval] at hk
    | dead => simp [Rd.eval] at hk
    | mp => simp [Rd.eval] at hk
    | hole => simp [Rd.eval] at hk
    | arr ep t xs =>
      simp only at hk; obtain ⟨r, hr, hk⟩ := Rd.bind_some hk; simp only [Rd.eval, Option.some.injEq] at hk; exact ⟨_, r, rfl, rfl, hr, hk.symm⟩
    | tree ep t xs =>
      simp only at hk; obtain ⟨r, hr, hk⟩ := Rd.bind_some hk; simp only [Rd.eval, Option.some.injEq] at hk; exact ⟨_, r, rfl, rfl, hr, hk.symm⟩

theorem killed_congr {mem mem' : Nat → Option Blk} : ∀ {ids : List Nat}, (∀ j, j ∈ ids → mem' j = mem j) → (killed ids).eval mem' = (killed ids).eval mem := by
  intro ids
  induction ids with
  | nil => intro _; rfl
  | cons id ids ih =>
    intro h; have h1 := h id (by simp); have h2 := ih (fun j hj => h j (by simp [hj])); simp only [killed, Rd.eval]; rw [h1]
    cases mem id with
    | none => rfl
    | some k => cases k <;> simp only [Rd.eval, Rd.eval_bind, h2]

theorem SimB.kill : ∀ (ids : List Nat) {mem : Nat → Option Blk} {β : Bind} {ks : List (Nat × Blk)}, SimB E N env mem a w β → nodupN ids = true → (killed ids).eval mem = some ks →
    ∃ β', SimB E N env (updm mem ks) a w β' ∧ (∀ b, allow E w β b → allow E w β' b) ∧ (∀ id ∈ ids, ∀ b, Held β id b → allow E w β' b) ∧
      (∀ i, i ∉ ids → β' i = β i ∧ updm mem ks i = mem i) ∧
      (∀ i k, mem i = some k → ∃ k', updm mem ks i = some k' ∧ k.ep ≤ k'.ep ∧ (k.ep = k'.ep → k.alike k' ∧ β' i = β i)) ∧
      (∀ b i, i ∉ ids → β.own b = some i → β'.own b = some i) := by
  intro ids
  induction ids with
  | nil =>
    intro mem β ks h _ hk; simp only [killed, Rd.eval, Option.some.injEq] at hk; subst hk; exact ⟨β, h, fun _ hb => hb, by simp, fun _ _ => ⟨rfl, rfl⟩, fun i k hk => ⟨k, hk, Nat.le_refl _, fun _ => ⟨k.alike_refl, rfl⟩⟩, fun _ _ _ h => h⟩
  | cons id ids ih =>
    intro mem β ks h hnd hk; obtain ⟨hnin, hnd⟩ := nodupN_cons hnd; obtain ⟨k0, r, hmi, hbox, hr, rfl⟩ := killed_cons hk
    have h1 := h.fresh (w' := w) (id := id) (k := .dead (k0.ep + 1)) none ⟨Nat.succ_ne_zero _, fun k1 hk1 => by
        rw [hmi] at hk1; obtain rfl := Option.some.inj hk1
        exact Nat.lt_succ_self _⟩ rfl rfl ⟨rfl, Nat.le_refl _⟩ (Nat.le_refl _) (fun _ _ => rfl) (by simp) (Bind.set_same _ _ _)
    have hr' : (killed ids).eval (setm mem id (.dead (k0.ep + 1))) = some r := by
      rw [killed_congr (mem := mem) fun j hj => setm_ne _ _ (fun e => hnin (by rw [← e]; exact hj))]; exact hr
    obtain ⟨β', k1, k2, k3, k4, k5, k6⟩ := ih h1 hnd hr'
    have hup : ∀ b, b < w.heap.size → (E.A0 b ∨ E.w0.heap.size ≤ b) → (∀ j C, j ≠ id → β j ≠ some (b, C)) → (β.own b = none ∨ β.own b = some id) → allow E w β' b := by
      intro b b1 b2 b3 b4; refine k2 b ⟨b1, b2, fun i C => ?_, ?_⟩
      · by_cases hi : i = id
        · subst hi; rw [Bind.set_same]; simp
        · rw [Bind.set_ne _ _ hi]; exact b3 i C hi
      · rw [Bind.set_own]; rcases b4 with b4 | b4
        · rw [b4]; simp
        · rw [if_pos b4]
    refine ⟨β', by rw [updm_cons]; exact k1, ?_, ?_, ?_, ?_, ?_⟩
    · rintro b ⟨b1, b2, b3, b4⟩; exact hup b b1 b2 (fun j C _ => b3 j C) (.inl b4)
    · intro i hi b hb; rcases mem_cons.1 hi with rfl | hi
      · rcases hb with ⟨D, hb⟩ | hb
        · obtain ⟨⟨kx, hkx, hkb⟩, d2, d3⟩ := h.dom i b D hb; refine hup b d2 ?_ (fun j C hj e => hj (h.inj j i b C D e hb)) (.inl ?_)
          · rcases d3 with d3 | d3
            · rw [hmi] at hkx; obtain rfl := Option.some.inj hkx; have := hkb d3
              rw [hbox] at this
              cases this
            · exact .inr d3
          · cases ho : β.own b with
            | none => rfl
            | some j => exact absurd hb ((h.own b j ho).2.2.2 i D)
        · obtain ⟨_, d2, d3, d4⟩ := h.own b i hb; exact hup b d2 (.inr d3) (fun j C _ => d4 j C) (.inr hb)
      · have hne : i ≠ id := fun e => hnin (by rw [← e]; exact hi); refine k3 i hi b ?_; rcases hb with ⟨D, hb⟩ | hb
        · exact .inl ⟨D, by rw [Bind.set_ne _ _ hne]; exact hb⟩
        · refine .inr ?_; rw [Bind.set_own, hb, if_neg (fun e => hne (Option.some.inj e))]
    · intro i hi; simp only [mem_cons, not_or] at hi; obtain ⟨e1, e2⟩ := k4 i hi.2; rw [updm_cons, e1, e2]; exact ⟨Bind.set_ne _ _ hi.1, setm_ne _ _ hi.1⟩
    · intro i k hk9; by_cases hi : i = id
      · subst hi; rw [hmi] at hk9; obtain rfl := Option.some.inj hk9; obtain ⟨k', hk', hle, _⟩ := k5 i (.dead (k0.ep + 1)) (setm_same _ _ _); refine ⟨k', by rw [updm_cons]; exact hk', by simp only [Blk.ep] at hle ⊢; omega, fun e => by simp only [Blk.ep] at hle e; omega⟩
      · obtain ⟨k', hk', hle, hal⟩ := k5 i k (by rw [setm_ne _ _ hi]; exact hk9); exact ⟨k', by rw [updm_cons]; exact hk', hle, fun e => by obtain ⟨a1, a2⟩ := hal e; exact ⟨a1, by rw [a2, Bind.set_ne _ _ hi]⟩⟩
    · intro b i hi hb; simp only [mem_cons, not_or] at hi; refine k6 b i hi.2 ?_; rw [Bind.set_own, hb, if_neg (fun e => hi.1 (Option.some.inj e))]

def Moved (β : Bind) (ids : List Nat) (b : Nat) : Prop := ∃ i, i ∈ ids ∧ Held β i b

open Classical in
noncomputable def Bind.take (β : Bind) (ids : List Nat) (id : Nat) (bc : Option (Nat × Nat)) : Bind :=
  ⟨fun i => if i = id then bc else if i ∈ ids then none else β i, fun b => if Moved β ids b then some id else β.own b⟩

theorem Bind.take_same (β : Bind) (ids : List Nat) (id : Nat) (bc : Option (Nat × Nat)) : (β.take ids id bc) id = bc := if_pos rfl
theorem Bind.take_in {β : Bind} {ids : List Nat} {id : Nat} {bc : Option (Nat × Nat)} {i : Nat} (hne : i ≠ id) (h : i ∈ ids) : (β.take ids id bc) i = none := by
  show (if i = id then bc else if i ∈ ids then none else β i) = none; rw [if_neg hne, if_pos h]
theorem Bind.take_ne {β : Bind} {ids : List Nat} {id : Nat} {bc : Option (Nat × Nat)} {i : Nat} (hne : i ≠ id) (h : i ∉ ids) : (β.take ids id bc) i = β i := by
  show (if i = id then bc else if i ∈ ids then none else β i) = β i; rw [if_neg hne, if_neg h]
theorem Bind.take_own {β : Bind} {ids : List Nat} {id : Nat} {bc : Option (Nat × Nat)} {b : Nat} (h : Moved β ids b) : (β.take ids id bc).own b = some id := if_pos h
theorem Bind.take_own_ne {β : Bind} {ids : List Nat} {id : Nat} {bc : Option (Nat × Nat)} {b : Nat} (h : ¬ Moved β ids b) : (β.take ids id bc).own b = β.own b := if_neg h

theorem updm_killed {mem : Nat → Option Blk} : ∀ {ids : List Nat} {mem0 : Nat → Option Blk} {ks : List (Nat × Blk)}, nodupN ids = true → (killed ids).eval mem = some ks →
    (∀ i, i ∉ ids → updm mem0 ks i = mem0 i) ∧ ∀ i, i ∈ ids → ∃ k0, mem i = some k0 ∧ k0.isBox = false ∧ updm mem0 ks i = some (.dead (k0.ep + 1)) := by
  intro ids
  induction ids with
  | nil =>
    intro mem0 ks _ hk; simp only [killed, Rd.eval, Option.some.injEq] at hk; subst hk; exact ⟨fun _ _ => rfl, by simp⟩
  | cons id ids ih =>
    intro mem0 ks hnd hk; obtain ⟨hnin, hnd⟩ := nodupN_cons hnd; obtain ⟨k0, r, hmi, hbox, hr, rfl⟩ := killed_cons hk; obtain ⟨h1, h2⟩ := ih (mem0 := setm mem0 id (.dead (k0.ep + 1))) hnd hr; refine ⟨fun i hi => ?_, fun i hi => ?_⟩
    · simp only [mem_cons, not_or] at hi; rw [updm_cons, h1 i hi.2, setm_ne _ _ hi.1]
    · rcases mem_cons.1 hi with rfl | hi
      · exact ⟨k0, hmi, hbox, by rw [updm_cons, h1 i hnin, setm_same]⟩
      · exact h2 i hi

theorem SimB.take (h : SimB E N env mem a w β) {w' : World} {ids : List Nat} {ks : List (Nat × Blk)} {id : Nat} {k : Blk} {bc : Option (Nat × Nat)}
    (hnd : nodupN ids = true) (hks : (killed ids).eval mem = some ks) (hid : id ∉ ids) (hk : k.isTree = true)
    (hep2 : ∀ k0, mem id = some k0 → k0.ep < k.ep ∨ (k0.alike k ∧ k0.ep = k.ep ∧ bc = β id))
    (hos : w'.os = w.os) (htape : w'.tape = w.tape) (hout : w'.output = w.output ∧ U.dr w.drawn ≤ U.dr w'.drawn) (hgrow : w.heap.size ≤ w'.heap.size)
    (hbc : ∀ b C, bc = some (b, C) → b < w'.heap.size ∧ (w.heap.size ≤ b ∨ ∃ D, (∃ k0, mem id = some k0 ∧ k0.isBox = false) ∧ β id = some (b, D)))
    (hheap : ∀ b, b < w.heap.size → (∀ C, bc ≠ some (b, C)) → w'.heap[b]? = w.heap[b]?)
    (hblk : (∀ b, Moved β ids b ∨ β.own b = some id → w'.heap[b]? = w.heap[b]?) → RepBlk (allow E w' (β.take ids id bc)) w' (β.take ids id bc) (setm (updm mem ks) id k) id k) :
    SimB E N env (setm (updm mem ks) id k) a w' (β.take ids id bc) ∧ (∀ b, allow E w β b → allow E w' (β.take ids id bc) b ∧ w'.heap[b]? = w.heap[b]?) ∧
      (∀ i k0, mem i = some k0 → ∃ k', setm (updm mem ks) id k i = some k' ∧ k0.ep ≤ k'.ep ∧ (k0.ep = k'.ep → k0.alike k' ∧ (β.take ids id bc) i = β i)) := by
  obtain ⟨u1, u2⟩ := updm_killed (mem0 := mem) hnd hks
  -- what is moved: new blocks of the call's own
  have hmv : ∀ b, Moved β ids b → b < w.heap.size ∧ E.w0.heap.size ≤ b ∧ (∀ j C, β j = some (b, C) → j ∈ ids) ∧ (∀ j, β.own b = some j → j ∈ ids) := by
    rintro b ⟨i, hi, hb⟩; obtain ⟨k0, hk0, hbox, _⟩ := u2 i hi; rcases hb with ⟨D, hb⟩ | hb
    · obtain ⟨⟨kx, hkx, hkb⟩, d2, d3⟩ := h.dom i b D hb; refine ⟨d2, ?_, fun j C e => by rw [h.inj j i b C D e hb]; exact hi, fun j e => absurd hb ((h.own b j e).2.2.2 i D)⟩; rcases d3 with d3 | d3
      · rw [hk0] at hkx; obtain rfl := Option.some.inj hkx; have := hkb d3
        rw [hbox] at this
        cases this
      · exact d3
    · obtain ⟨_, d2, d3, d4⟩ := h.own b i hb; exact ⟨d2, d3, fun j C e => absurd e (d4 j C), fun j e => by rw [hb] at e; obtain rfl := Option.some.inj e; exact hi⟩
  have hbcid : ∀ b C, bc = some (b, C) → b < w.heap.size → ∃ D, (∃ k0, mem id = some k0 ∧ k0.isBox = false) ∧ β id = some (b, D) := by
    intro b C e hlt; rcases (hbc b C e).2 with h1 | h1
    · omega
    · exact h1
  have hbcm : ∀ b C, bc = some (b, C) → ¬ Moved β ids b := by
    intro b C e hm; obtain ⟨m1, m2, m3, m4⟩ := hmv b hm; obtain ⟨D, _, hD⟩ := hbcid b C e m1; exact hid (m3 id D hD)
  have hbco : ∀ b C j, bc = some (b, C) → β.own b ≠ some j := by
    intro b C j e ho; obtain ⟨_, o2, _, o4⟩ := h.own b j ho; obtain ⟨D, _, hD⟩ := hbcid b C e o2; exact o4 id D hD
  have hcases : ∀ i b C, (β.take ids id bc) i = some (b, C) → (i = id ∧ bc = some (b, C)) ∨ (i ≠ id ∧ i ∉ ids ∧ β i = some (b, C)) := by
    intro i b C e; by_cases hi : i = id
    · subst hi; rw [Bind.take_same] at e; exact .inl ⟨rfl, e⟩
    · by_cases hj : i ∈ ids
      · rw [Bind.take_in hi hj] at e; cases e
      · rw [Bind.take_ne hi hj] at e; exact .inr ⟨hi, hj, e⟩
  have hA : ∀ b, allow E w β b → allow E w' (β.take ids id bc) b ∧ w'.heap[b]? = w.heap[b]? := by
    rintro b ⟨h1, h2, h3, h4⟩
    have hnm : ¬ Moved β ids b := by
      rintro ⟨i, _, ⟨D, hb⟩ | hb⟩
      · exact h3 i D hb
      · rw [h4] at hb; cases hb
    refine ⟨⟨by omega, h2, fun i C e => ?_, by rw [Bind.take_own_ne hnm]; exact h4⟩, hheap b h1 fun C e => ?_⟩
    · rcases hcases i b C e with ⟨_, e⟩ | ⟨_, _, e⟩
      · obtain ⟨D, _, hD⟩ := hbcid b C e h1; exact h3 id D hD
      · exact h3 i C e
    · obtain ⟨D, _, hD⟩ := hbcid b C e h1; exact h3 id D hD
  have hm : ∀ i k0, mem i = some k0 → ∃ k', setm (updm mem ks) id k i = some k' ∧ k0.ep ≤ k'.ep ∧ (k0.ep = k'.ep → k0.alike k' ∧ (β.take ids id bc) i = β i) := by
    intro i k0 hk0; by_cases hi : i = id
    · subst hi; refine ⟨k, setm_same _ _ _, ?_⟩; rcases hep2 k0 hk0 with h1 | ⟨h1, h2, h3⟩
      · exact ⟨by omega, by omega⟩
      · exact ⟨by omega, fun _ => ⟨h1, by rw [Bind.take_same, h3]⟩⟩
    · rw [setm_ne _ _ hi]; by_cases hj : i ∈ ids
      · obtain ⟨k1, hk1, _, hu⟩ := u2 i hj; rw [hk0] at hk1; obtain rfl := Option.some.inj hk1; exact ⟨_, hu, by simp only [Blk.ep]; omega, fun e => by simp only [Blk.ep] at e; omega⟩
      · exact ⟨k0, by rw [u1 i hj]; exact hk0, Nat.le_refl _, fun _ => ⟨k0.alike_refl, Bind.take_ne hi hj⟩⟩
  have hheapO : ∀ b, Moved β ids b ∨ (∃ i, β.own b = some i) → w'.heap[b]? = w.heap[b]? := by
    rintro b (hb | ⟨i, hb⟩)
    · exact hheap b (hmv b hb).1 fun C e => hbcm b C e hb
    · exact hheap b (h.own b i hb).2.1 fun C e => hbco b C i e hb
  refine ⟨h.evolve hos htape hout hgrow (fun b hb hnb => hheap b (by have := h.grow; omega) fun C e => ?_) hA hm ?_ ?_ ?_ ?_ ?_ ?_, hA, hm⟩
  · obtain ⟨D, _, hD⟩ := hbcid b C e (by have := h.grow; omega); rcases (h.dom id b D hD).2.2 with h1 | h1
    · exact hnb h1
    · omega
  · intro i b C e; rcases hcases i b C e with ⟨rfl, e2⟩ | ⟨hi, hj, e⟩
    · obtain ⟨h1, h2⟩ := hbc b C e2
      have hge : E.w0.heap.size ≤ b ∨ (b ∈ E.bs ∧ ∃ D, (∃ k0, mem i = some k0 ∧ k0.isBox = false) ∧ β i = some (b, D)) := by
        rcases h2 with h2 | ⟨D, hx, hD⟩
        · exact .inl (by have := h.grow; omega)
        · rcases (h.dom i b D hD).2.2 with h3 | h3
          · exact .inr ⟨h3, D, hx, hD⟩
          · exact .inl h3
      have hge : E.w0.heap.size ≤ b := by
        rcases hge with hge | ⟨hbs, D, ⟨k0, hk0, hbox⟩, hD⟩
        · exact hge
        · obtain ⟨⟨kx, hkx, hkb⟩, _⟩ := h.dom i b D hD; rw [hk0] at hkx; obtain rfl := Option.some.inj hkx; have := hkb hbs
          rw [hbox] at this
          cases this
      refine ⟨⟨k, setm_same _ _ _, fun hbs => ?_⟩, h1, .inr hge⟩; have := E.wb b hbs; omega
    · obtain ⟨⟨k0, hk0, hkb⟩, d2, d3⟩ := h.dom i b C e; exact ⟨⟨k0, by rw [setm_ne _ _ hi, u1 i hj]; exact hk0, hkb⟩, by omega, d3⟩
  · intro i j b C D hi hj; rcases hcases i b C hi with ⟨rfl, ei⟩ | ⟨hi1, hi2, ei⟩ <;> rcases hcases j b D hj with ⟨rfl, ej⟩ | ⟨hj1, hj2, ej⟩
    · rfl
    · obtain ⟨D', _, hD⟩ := hbcid b C ei (h.dom j b D ej).2.1; exact h.inj _ _ _ _ _ hD ej
    · obtain ⟨D', _, hD⟩ := hbcid b D ej (h.dom i b C ei).2.1; exact h.inj _ _ _ _ _ ei hD
    · exact h.inj i j b C D ei ej
  · intro b i e; by_cases hmb : Moved β ids b
    · rw [Bind.take_own hmb] at e; obtain rfl := Option.some.inj e; obtain ⟨m1, m2, m3, m4⟩ := hmv b hmb; refine ⟨⟨k, setm_same _ _ _, hk⟩, by omega, m2, fun j C ej => ?_⟩; rcases hcases j b C ej with ⟨rfl, ej2⟩ | ⟨_, hj, ej⟩
      · exact hbcm b C ej2 hmb
      · exact hj (m3 j C ej)
    · rw [Bind.take_own_ne hmb] at e; obtain ⟨⟨k0, hk0, ht⟩, o2, o3, o4⟩ := h.own b i e; have hin : i ∉ ids := fun hi => hmb ⟨i, hi, .inr e⟩; refine ⟨?_, by omega, o3, fun j C ej => ?_⟩
      · by_cases hi : i = id
        · subst hi; exact ⟨k, setm_same _ _ _, hk⟩
        · exact ⟨k0, by rw [setm_ne _ _ hi, u1 i hin]; exact hk0, ht⟩
      · rcases hcases j b C ej with ⟨rfl, ej2⟩ | ⟨_, _, ej⟩
        · exact hbco b C i ej2 e
        · exact o4 j C ej
  · intro c i k1 hk1 hk2 hc
    have hin : ¬ Moved β ids c := by
      intro hmc; have hi := (hmv c hmc).2.2.2 i hc; obtain ⟨k0, h0, _, hu⟩ := u2 i hi; rw [setm_ne _ _ (fun e => hid (by rw [← e]; exact hi)), hu] at hk1; rw [hk2] at h0; obtain rfl := Option.some.inj h0; have := congrArg Blk.ep (Option.some.inj hk1)
      simp only [Blk.ep] at this
      omega
    exact ⟨by rw [Bind.take_own_ne hin]; exact hc, hheapO c (.inr ⟨i, hc⟩)⟩
  · intro i k' hk'; by_cases hi : i = id
    · subst hi; rw [setm_same] at hk'; obtain rfl := Option.some.inj hk'; exact .inr (hblk fun b hb => hheapO b (hb.imp id fun h => ⟨_, h⟩))
    · rw [setm_ne _ _ hi] at hk'; by_cases hj : i ∈ ids
      · obtain ⟨k0, hk0, _, hu⟩ := u2 i hj; rw [hu] at hk'; obtain rfl := Option.some.inj hk'; exact .inr (Bind.take_in hi hj)
      · rw [u1 i hj] at hk'; refine .inl ⟨hk', Bind.take_ne hi hj, fun b C e => hheap b (h.dom i b C e).2.1 fun C' e' => ?_⟩; obtain ⟨D, _, hD⟩ := hbcid b C' e' (h.dom i b C e).2.1; exact hi (h.inj i id b C D e hD)
  · intro i c hc; by_cases hi : i = id
    · subst hi; rw [setm_same] at hc; obtain rfl := Option.some.inj hc; cases hk
    · rw [setm_ne _ _ hi] at hc; by_cases hj : i ∈ ids
      · obtain ⟨k0, _, _, hu⟩ := u2 i hj; rw [hu] at hc; cases hc
      · rw [u1 i hj] at hc; exact ⟨c, hc, Bind.take_ne hi hj⟩

end
end Go.Am
