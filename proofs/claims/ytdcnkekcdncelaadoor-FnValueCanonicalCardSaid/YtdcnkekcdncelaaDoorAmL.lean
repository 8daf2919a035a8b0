/-
  Am, part L: addresses, slices, parts, small operations.
-/
import Derived.Test.YtdcnkekcdncelaaDoorAmK
set_option linter.all false
namespace Go.Am
open List
variable [U : Univ]

theorem offset_le (n f : Nat) {t : Ty} (h : (U.tys n)[f]? = some t) : offsetOf n f + t.size ≤ U.sz n := by
  have key : ∀ (l : List Ty) (f : Nat) {t : Ty}, l[f]? = some t → ((l.take f).map Ty.size).sum + t.size ≤ (l.map Ty.size).sum := by
    intro l
    induction l with
    | nil => intro f t h; simp at h
    | cons u l ih =>
      intro f t h
      cases f with
      | zero =>
        simp only [getElem?_cons_zero, Option.some.injEq] at h; subst h; simp
      | succ f =>
        simp only [getElem?_cons_succ] at h; have := ih f h; simp only [take_succ_cons, map_cons, sum_cons]; omega
  rw [U.sz_eq]; exact key _ f h

theorem pathOff_snoc (p : List Nat) : ∀ {t : Ty} {q n f : Nat} {u : Ty}, pathOff t p = some (q, .named n) → (U.tys n)[f]? = some u → pathOff t (p ++ [f]) = some (q + offsetOf n f, u) := by
  induction p with
  | nil =>
    intro t q n f u h hf; simp only [pathOff, Option.some.injEq, Prod.mk.injEq] at h; obtain ⟨rfl, rfl⟩ := h; simp [pathOff, hf]
  | cons g p ih =>
    intro t q n f u h hf
    cases t with
    | named m =>
      simp only [pathOff, cons_append] at h ⊢; split at h
      · rename_i t' ht'; split at h
        · rename_i o v hov; simp only [Option.some.injEq, Prod.mk.injEq] at h; obtain ⟨rfl, rfl⟩ := h; simp only [ih hov hf]; rw [Nat.add_assoc]
        · simp at h
      · simp at h
    | _ => simp [pathOff] at h

section
variable {E : Ent} {N : Nat} {env : Nat → SV} {mem : Nat → Option Blk} {a : Act} {w : World} {β : Bind} {P : Program} {C : Ctx}

theorem fieldAddr_sound (h : SimB E N env mem a w β) (hty : CtxTy P C) {T n f : Nat} (hT : C.ty T = some (.named n)) {t : Ty} (hf : (U.tys n)[f]? = some t) {sv r : SV} {x : Value}
    (hx : RepSV (allow E w β) w β mem sv x) (hs : (fieldAddrSV n f sv).eval mem = some r) :
    ∃ y, (Instr.fieldAt T x f).run P w = .ok y w ∧ RepSV (allow E w β) w β mem r y := by
  obtain ⟨fs, hu, _, hfs⟩ := (hty T _ hT).und; obtain ⟨fd, hfd, hft, hoff⟩ := hfs f t hf; have hsz := (hty fd.type t hft).size w; have hp := t.size_pos
  have run : ∀ b o, (Instr.fieldAt T (.pointer (some ⟨b, o, none⟩)) f).run P w = .ok (.pointer (some ⟨b, o + offsetOf n f, none⟩)) w := by
    intro b o; simp only [Instr.fieldAt, Sem.run_bind, run_underlying hu, Result.andThen_ok, hfd, Instr.sureAddr, Sem.run_pure, fieldPlace, hsz, Sem.run_ite]; rw [if_neg (by omega)]; simp only [Result.andThen_ok, Addr.add_lit, hoff]
  cases hx with
  | ref id ep off b hm hv =>
    simp only [fieldAddrSV, Rd.eval, Option.some.injEq] at hs; subst hs; exact ⟨_, run _ _, .ref _ _ _ _ hm hv⟩
  | eref id ep i p b o hm hv =>
    simp only [fieldAddrSV] at hs; replace hs := Rd.mem_some hs
    cases hmi : mem id with
    | none => rw [hmi] at hs; simp [Rd.eval] at hs
    | some k =>
      rw [hmi] at hs
      cases k with
      | box => simp [Rd.eval] at hs
      | tree => simp [Rd.eval] at hs
      | dead => simp [Rd.eval] at hs
      | arr ep' u xs =>
        simp only at hs; split at hs
        · rename_i e; subst e; split at hs
          · rename_i q m hq; split at hs
            · rename_i e; subst e; simp only [Rd.eval, Option.some.injEq] at hs; subst hs; refine ⟨_, run _ _, .eref _ _ _ _ _ _ hm fun t' xs' hm' => ?_⟩; obtain ⟨h1, C, q', u', h2, h3, h4⟩ := hv t' xs' hm'; rw [hmi] at hm'; simp only [Option.some.injEq, Blk.arr.injEq, true_and] at hm'; obtain ⟨rfl, hxs⟩ := hm'; rw [hq] at h3; simp only [Option.some.injEq, Prod.mk.injEq] at h3; obtain ⟨rfl, rfl⟩ := h3; exact ⟨h1, C, _, _, h2, pathOff_snoc p hq hf, by omega⟩
            · simp [Rd.eval] at hs
          · simp [Rd.eval] at hs
        · simp [Rd.eval] at hs
  | tref id ep i p b o hm hv =>
    simp only [fieldAddrSV] at hs; replace hs := Rd.mem_some hs
    cases hmi : mem id with
    | none => rw [hmi] at hs; simp [Rd.eval] at hs
    | some k =>
      rw [hmi] at hs
      cases k with
      | box => simp [Rd.eval] at hs
      | arr => simp [Rd.eval] at hs
      | dead => simp [Rd.eval] at hs
      | tree ep' u xs =>
        simp only at hs; split at hs
        · rename_i e; subst e; split at hs
          · rename_i q m hq; split at hs
            · rename_i e; subst e; simp only [Rd.eval, Option.some.injEq] at hs; subst hs; refine ⟨_, run _ _, .tref _ _ _ _ _ _ hm fun t' xs' hm' => ?_⟩; obtain ⟨h1, C, q', u', h2, h3, h4⟩ := hv t' xs' hm'; rw [hmi] at hm'; simp only [Option.some.injEq, Blk.tree.injEq, true_and] at hm'; obtain ⟨rfl, hxs⟩ := hm'; rw [hq] at h3; simp only [Option.some.injEq, Prod.mk.injEq] at h3; obtain ⟨rfl, rfl⟩ := h3; exact ⟨h1, C, _, _, h2, pathOff_snoc p hq hf, by omega⟩
            · simp [Rd.eval] at hs
          · simp [Rd.eval] at hs
        · simp [Rd.eval] at hs
  | dref u x b off cs hA hc hr =>
    cases u with
    | named m =>
      simp only [fieldAddrSV] at hs; split at hs
      · rename_i e; subst e; split at hs
        · rename_i t' y hy; simp only [Rd.eval, Option.some.injEq] at hs; subst hs; obtain ⟨k1, k2⟩ := hr.field hy; refine ⟨_, run _ _, .dref t' y b _ _ hA (fun j v hj => ?_) k1⟩; rw [getElem?_take, getElem?_drop] at hj; split at hj
          · have := hc _ _ hj
            rw [← Nat.add_assoc] at this
            exact this
          · simp at hj
        · simp [Rd.eval] at hs
      · simp [Rd.eval] at hs
    | _ => simp [fieldAddrSV, Rd.eval] at hs
  | _ => simp [fieldAddrSV, Rd.eval] at hs

theorem index_sound (h : SimB E N env mem a w β) (hty : CtxTy P C) {T : Nat} {t : Ty} (hT : C.ty T = some (.slice t)) {sv r : SV} {x : Value} {k : IntKind} {i : Int} {ob : List Prop}
    (hx : RepSV (allow E w β) w β mem sv x) (hs : (indexSV t i sv).eval mem = some (r, ob)) (hob : ∀ p ∈ ob, p) :
    ∃ y, (Instr.indexAt T x (.int k i)).run P w = .ok y w ∧ RepSV (allow E w β) w β mem r y := by
  obtain ⟨e, hu, he⟩ := (hty T _ hT).und; have hsz := (hty e t he).size
  have run : ∀ (p : Addr) len cap, 0 ≤ i ∧ i < (len : Nat) → (Instr.indexAt T (.slice (some p) len cap) (.int k i)).run P w = .ok (.pointer (some (p.add (i.toNat * t.size)))) w := by
    intro p len cap hi; simp [Instr.indexAt, run_underlying hu, asIntOf, hi, hsz]
  cases hx with
  | data u xs v hv =>
    cases u with
    | slice u =>
      obtain ⟨xs, rfl⟩ : ∃ y : List u.den, y = xs := ⟨xs, rfl⟩; simp only [indexSV] at hs; split at hs
      · rename_i e; subst e; simp only [Rd.eval, Option.some.injEq, Prod.mk.injEq] at hs; obtain ⟨rfl, rfl⟩ := hs; have hi := hob _ (mem_singleton.2 rfl); have hi' : i.toNat < List.length xs := by omega
        cases hv with
        | one _ _ _ _ hc =>
          cases hc with
          | nil => simp at hi'
          | slice _ xs p cap css hlim hcap hA hsp hlen hc hr =>
            (have hne : xs ≠ [] := by intro e; simp [e] at hi'); refine ⟨_, run p _ cap hi, ?_⟩; obtain ⟨b, off, sp⟩ := p; have := hsp hne
            simp only at this; subst this
            rw [Addr.add_lit, show xs.getD i.toNat u.zero = xs[i.toNat] by simp [hi']]; exact .dref u _ b _ (css i.toNat) (hA hne) (fun j v hj => hc _ j v hi' hj) (hr _ hi')
      · simp [Rd.eval] at hs
    | _ => simp [indexSV, Rd.eval] at hs
  | arr id ep v hm h1 hv =>
    simp only [indexSV] at hs; replace hs := Rd.mem_some hs
    cases hmi : mem id with
    | none => rw [hmi] at hs; simp [Rd.eval] at hs
    | some kk =>
      rw [hmi] at hs
      cases kk with
      | box => simp [Rd.eval] at hs
      | tree => simp [Rd.eval] at hs
      | dead => simp [Rd.eval] at hs
      | arr ep' u xs =>
        simp only at hs; split at hs
        · rename_i e; obtain ⟨rfl, rfl⟩ := e; simp only [Rd.eval, Option.some.injEq, Prod.mk.injEq] at hs; obtain ⟨rfl, rfl⟩ := hs; have hi := hob _ (mem_singleton.2 rfl); have hsl := hv _ _ hmi
          cases hb : β id with
          | none =>
            rw [hb] at hsl; obtain ⟨_, h0, _⟩ := hsl; omega
          | some bc =>
            obtain ⟨b, D⟩ := bc; rw [hb] at hsl; obtain ⟨p, rfl, hle, hp⟩ := hsl; obtain rfl := hp (.inl rfl); refine ⟨_, run _ _ _ hi, ?_⟩; rw [Addr.add_lit]; refine .eref _ _ _ _ _ _ hm fun t' xs' hm' => ?_; rw [hmi] at hm'; simp only [Option.some.injEq, Blk.arr.injEq, true_and] at hm'; obtain ⟨rfl, hxs⟩ := hm'; obtain rfl := eq_of_heq hxs; exact ⟨by omega, D, 0, _, hb, rfl, by simp⟩
        · simp [Rd.eval] at hs
  | tr id ep v hm h1 hv =>
    simp only [indexSV] at hs; replace hs := Rd.mem_some hs
    cases hmi : mem id with
    | none => rw [hmi] at hs; simp [Rd.eval] at hs
    | some kk =>
      rw [hmi] at hs
      cases kk with
      | box => simp [Rd.eval] at hs
      | arr => simp [Rd.eval] at hs
      | dead => simp [Rd.eval] at hs
      | tree ep' u xs =>
        simp only at hs; split at hs
        · rename_i e; obtain ⟨rfl, rfl⟩ := e; simp only [Rd.eval, Option.some.injEq, Prod.mk.injEq] at hs; obtain ⟨rfl, rfl⟩ := hs; have hi := hob _ (mem_singleton.2 rfl); have hsl := hv _ _ hmi
          cases hb : β id with
          | none =>
            rw [hb] at hsl; obtain ⟨_, h0, _⟩ := hsl; omega
          | some bc =>
            obtain ⟨b, D⟩ := bc; rw [hb] at hsl; obtain ⟨p, rfl, hle, hp⟩ := hsl; obtain rfl := hp (.inl rfl); refine ⟨_, run _ _ _ hi, ?_⟩; rw [Addr.add_lit]; refine .tref _ _ _ _ _ _ hm fun t' xs' hm' => ?_; rw [hmi] at hm'; simp only [Option.some.injEq, Blk.tree.injEq, true_and] at hm'; obtain ⟨rfl, hxs⟩ := hm'; obtain rfl := eq_of_heq hxs; exact ⟨by omega, D, 0, _, hb, rfl, by simp⟩
        · simp [Rd.eval] at hs
  | sub id ep off len v hm h1 hv =>
    simp only [indexSV] at hs; replace hs := Rd.mem_some hs
    cases hmi : mem id with
    | none => rw [hmi] at hs; simp [Rd.eval] at hs
    | some kk =>
      rw [hmi] at hs
      cases kk with
      | box => simp [Rd.eval] at hs
      | tree => simp [Rd.eval] at hs
      | dead => simp [Rd.eval] at hs
      | arr ep' u xs =>
        simp only at hs; split at hs
        · rename_i e; obtain ⟨rfl, rfl⟩ := e; simp only [Rd.eval, Option.some.injEq, Prod.mk.injEq] at hs; obtain ⟨rfl, rfl⟩ := hs; have hi := hob _ (mem_singleton.2 rfl); obtain ⟨hle0, hsl⟩ := hv _ _ hmi
          cases hb : β id with
          | none =>
            rw [hb] at hsl; obtain ⟨_, h0, _⟩ := hsl; omega
          | some bc =>
            obtain ⟨b, D⟩ := bc; rw [hb] at hsl; obtain ⟨p, rfl, hle, hp⟩ := hsl; obtain rfl := hp (.inr (by omega)); refine ⟨_, run _ _ _ hi, ?_⟩; rw [Addr.add_lit]; refine .eref _ _ _ _ _ _ hm fun t' xs' hm' => ?_; rw [hmi] at hm'; simp only [Option.some.injEq, Blk.arr.injEq, true_and] at hm'; obtain ⟨rfl, hxs⟩ := hm'; obtain rfl := eq_of_heq hxs; exact ⟨by omega, D, 0, _, hb, rfl, by rw [Nat.add_mul]; omega⟩
        · simp [Rd.eval] at hs
  | _ => simp [indexSV, Rd.eval] at hs

theorem indexArr_sound (h : SimB E N env mem a w β) {T e n : Nat} {t : Ty} (hte : TyOK P C e t) (ha : ArrAt P C T e n) {sv r : SV} {x : Value} {k : IntKind} {i : Int} {ob : List Prop}
    (hx : RepSV (allow E w β) w β mem sv x) (hs : (indexArr t n i sv).eval mem = some (r, ob)) (hob : ∀ p ∈ ob, p) :
    ∃ y, (Instr.indexAt T x (.int k i)).run P w = .ok y w ∧ RepSV (allow E w β) w β mem r y := by
  have hsz := hte.size
  have run : ∀ (p : Addr), 0 ≤ i ∧ i < (n : Nat) → (Instr.indexAt T (.pointer (some p)) (.int k i)).run P w = .ok (.pointer (some (p.add (i.toNat * t.size)))) w := by
    intro p hi; simp [Instr.indexAt, run_underlying ha.und, asIntOf, hi, hsz, Instr.sureAddr]
  cases hx with
  | eref id ep j p b o hm hv =>
    unfold indexArr at hs; split at hs
    · rename_i id' ep' he; simp only [SV.eref.injEq] at he; obtain ⟨rfl, rfl, rfl, rfl⟩ := he; replace hs := Rd.mem_some hs
      cases hmi : mem id with
      | none => rw [hmi] at hs; simp [Rd.eval] at hs
      | some kk =>
        rw [hmi] at hs
        cases kk with
        | box => simp [Rd.eval] at hs
        | tree => simp [Rd.eval] at hs
        | dead => simp [Rd.eval] at hs
        | arr ep' u xs =>
          simp only at hs; split at hs
          · rename_i e'; obtain ⟨rfl, rfl⟩ := e'; simp only [Rd.eval, Option.some.injEq, Prod.mk.injEq] at hs; obtain ⟨rfl, rfl⟩ := hs; have hi := hob _ (mem_cons_self ..); have hi2 := hob _ (mem_cons_of_mem _ (mem_singleton.2 rfl)); obtain ⟨h1, D, q, u', h2, h3, h4⟩ := hv _ _ hmi; simp only [pathOff, Option.some.injEq, Prod.mk.injEq] at h3; obtain ⟨rfl, rfl⟩ := h3; refine ⟨_, run _ hi, ?_⟩; rw [Addr.add_lit]; refine .eref _ _ _ _ _ _ hm fun t' xs' hm' => ?_; rw [hmi] at hm'; simp only [Option.some.injEq, Blk.arr.injEq, true_and] at hm'; obtain ⟨rfl, hxs⟩ := hm'; obtain rfl := eq_of_heq hxs; exact ⟨by omega, D, 0, _, h2, rfl, by omega⟩
          · simp [Rd.eval] at hs
    · simp [Rd.eval] at hs
  | _ => simp [indexArr, Rd.eval] at hs

def lenFit (u : Ty) : SV → Prop
  | .str _ => u = .str
  | _ => ∃ t, u = .slice t

theorem len_sound (hty : CtxTy P C) {T ty : Nat} {u : Ty} (hT : C.ty T = some u) {sv : SV} {x : Value} {n : Int}
    (hu : lenFit u sv)
    (hx : RepSV (allow E w β) w β mem sv x) (hs : (lenSV sv).eval mem = some n) (h : SimB E N env mem a w β) :
    (Builtin.len_ #[T] ty #[x]).run P w = .ok (.int .i64 n) w ∧ 0 ≤ n ∧ n ≤ lim := by
  have run : ∀ {t : Ty} (p : Option Addr) len cap, u = .slice t → (Builtin.len_ #[T] ty #[.slice p len cap]).run P w = .ok (.int .i64 (len : Nat)) w := by
    rintro t p len cap rfl; obtain ⟨e, hu, _⟩ := (hty T _ hT).und; simp [Builtin.len_, run_underlying hu, goInt]
  cases hx with
  | data t xs v hv =>
    cases t with
    | slice t =>
      obtain ⟨t', hu⟩ := hu; simp only [lenSV, Rd.eval, Option.some.injEq] at hs; subst hs
      cases hv with
      | one _ _ _ _ hc =>
        cases hc with
        | nil => exact ⟨run _ _ _ hu, by simp, by simp [lim]⟩
        | slice _ xs p cap css hlim hcap hA hsp hlen hc hr => exact ⟨run _ _ _ hu, by omega, hlim⟩
    | _ => simp [lenSV, Rd.eval] at hs
  | nilsl =>
    obtain ⟨t', hu⟩ := hu; simp only [lenSV, Rd.eval, Option.some.injEq] at hs; subst hs; exact ⟨run _ _ _ hu, by omega, by simp [lim]⟩
  | str s hs' =>
    simp only [lenFit] at hu; subst hu; simp only [lenSV, Rd.eval, Option.some.injEq] at hs; subst hs; have hu := (hty T _ hT).und; exact ⟨by simp [Builtin.len_, run_underlying hu, goInt], by omega, hs'⟩
  | arr id ep v hm h1 hv =>
    obtain ⟨t', hu⟩ := hu; simp only [lenSV] at hs; replace hs := Rd.mem_some hs
    cases hmi : mem id with
    | none => rw [hmi] at hs; simp [Rd.eval] at hs
    | some kk =>
      rw [hmi] at hs
      cases kk with
      | box => simp [Rd.eval] at hs
      | tree => simp [Rd.eval] at hs
      | dead => simp [Rd.eval] at hs
      | arr ep' v xs =>
        simp only at hs; split at hs
        · rename_i e; subst e; simp only [Rd.eval, Option.some.injEq] at hs; subst hs; have hsl := hv _ _ hmi; have hlim := (h.blk id _ hmi).1
          cases hb : β id with
          | none =>
            rw [hb] at hsl; obtain ⟨_, h0, rfl⟩ := hsl; rw [h0]; exact ⟨run _ _ _ hu, by omega, by simp [lim]⟩
          | some bc =>
            obtain ⟨b, D⟩ := bc; rw [hb] at hsl; obtain ⟨p, rfl, hle, hp⟩ := hsl; exact ⟨run _ _ _ hu, by omega, by unfold lim; omega⟩
        · simp [Rd.eval] at hs
  | tr id ep v hm h1 hv =>
    obtain ⟨t', hu⟩ := hu; simp only [lenSV] at hs; replace hs := Rd.mem_some hs
    cases hmi : mem id with
    | none => rw [hmi] at hs; simp [Rd.eval] at hs
    | some kk =>
      rw [hmi] at hs
      cases kk with
      | box => simp [Rd.eval] at hs
      | arr => simp [Rd.eval] at hs
      | dead => simp [Rd.eval] at hs
      | tree ep' v xs =>
        simp only at hs; split at hs
        · rename_i e; subst e; simp only [Rd.eval, Option.some.injEq] at hs; subst hs; have hsl := hv _ _ hmi; have hlim := (h.blk id _ hmi).1
          cases hb : β id with
          | none =>
            rw [hb] at hsl; obtain ⟨_, h0, rfl⟩ := hsl; rw [h0]; exact ⟨run _ _ _ hu, by omega, by simp [lim]⟩
          | some bc =>
            obtain ⟨b, D⟩ := bc; rw [hb] at hsl; obtain ⟨p, rfl, hle, hp⟩ := hsl; exact ⟨run _ _ _ hu, by omega, by unfold lim; omega⟩
        · simp [Rd.eval] at hs
  | sub id ep off len v hm h1 hv =>
    obtain ⟨t', hu⟩ := hu; simp only [lenSV] at hs; replace hs := Rd.mem_some hs
    cases hmi : mem id with
    | none => rw [hmi] at hs; simp [Rd.eval] at hs
    | some kk =>
      rw [hmi] at hs
      cases kk with
      | box => simp [Rd.eval] at hs
      | tree => simp [Rd.eval] at hs
      | dead => simp [Rd.eval] at hs
      | arr ep' v xs =>
        simp only at hs; split at hs
        · rename_i e; subst e; simp only [Rd.eval, Option.some.injEq] at hs; subst hs; obtain ⟨hle0, hsl⟩ := hv _ _ hmi; have hlim := (h.blk id _ hmi).1
          cases hb : β id with
          | none =>
            rw [hb] at hsl; obtain ⟨_, h0, rfl⟩ := hsl; rw [h0]; exact ⟨run _ _ _ hu, by omega, by simp [lim]⟩
          | some bc =>
            obtain ⟨b, D⟩ := bc; rw [hb] at hsl; obtain ⟨p, rfl, hle, hp⟩ := hsl; exact ⟨run _ _ _ hu, by omega, by unfold lim; omega⟩
        · simp [Rd.eval] at hs
  | _ => simp [lenSV, Rd.eval] at hs

end
end Go.Am
