/-
  Am, part P: what a function's contract says; the arguments of a call.
-/
import Derived.Test.YtjcjpeckfikfkaaAnY
import Derived.Laws.Slices
import Derived.Laws.Strings2
import Derived.Laws.Concat
import Derived.Laws.IdiomStrings
set_option linter.all false
namespace Go.Am
variable [U : Univ]

section
variable {E : Ent} {N : Nat} {env : Nat → SV} {mem : Nat → Option Blk} {a : Act} {w : World} {β : Bind} {P : Program} {C : Ctx}

theorem RepSV.str_inv {A : Nat → Prop} {s : ByteArray} {v : Value} (h : RepSV A w β mem (.str s) v) : v = .string s := by
  cases h; rfl

omit U in
theorem run_equal_nil {T : Nat} {X : Array (String × TypeId)} (hu : P.underlying T = some (.interface X)) : (Op.equal T .nilIface .nilIface).run P w = .ok true w :=
  have key : ∀ d, (Op.equalIn (d + 1) T .nilIface .nilIface).run P w = .ok true w := fun d => by
    simp only [Op.equalIn, Sem.run_bind, run_underlying hu, Result.andThen_ok, Sem.run_pure]
  key 9999

omit U in
theorem run_equal_if {T : Nat} {X : Array (String × TypeId)} (hu : P.underlying T = some (.interface X)) {D : TypeId} {z : Value} : (Op.equal T (.iface D z) .nilIface).run P w = .ok false w :=
  have key : ∀ d, (Op.equalIn (d + 1) T (.iface D z) .nilIface).run P w = .ok false w := fun d => by
    simp only [Op.equalIn, Sem.run_bind, run_underlying hu, Result.andThen_ok, Sem.run_pure]
  key 9999

theorem sat_range (s : ByteArray) (i : Int) : 0 ≤ sat s i ∧ sat s i ≤ 255 := by
  unfold sat; generalize s.data.getD i.toNat 0 = b; have := b.toNat_lt; omega

theorem byte_back {n : Int} (h0 : 0 ≤ n) (h1 : n ≤ 255) : ((UInt8.ofNat n.toNat).toNat : Int) = n := by
  rw [UInt8.toNat_ofNat']; omega

theorem strOf_size (l : List Int) : (strOf l).size = l.length := by
  unfold strOf; simp only [ByteArray.size, List.size_toArray, List.length_map]

theorem strOf_small {l : List Int} (h : (l.length : Int) ≤ 4294967296) : ((strOf l).size : Int) ≤ 4294967296 := by rw [strOf_size]; exact h

theorem bytesStr_sound (h : SimB E N env mem a w β) (hty : CtxTy P C) {S T : Nat} {v : SV} {y : Value} (hr : RepSV (allow E w β) w β mem v y) {ps : List Prop} {r : Res}
    (hs : (bytesStr (C.ty S) (C.ty T) v ps).eval mem = some r) : ∃ s z, r = { val := .str s, ob := ps } ∧ (convert S T y).run P w = .ok z w ∧ RepSV (allow E w β) w β mem (.str s) z := by
  unfold bytesStr at hs; split at hs
  · rename_i id ep hS hT; replace hs := Rd.mem_some hs
    cases hmi : mem id with
    | none => rw [hmi] at hs; simp [Rd.eval] at hs
    | some k =>
      rw [hmi] at hs
      cases k with
      | box => simp [Rd.eval] at hs
      | tree => simp [Rd.eval] at hs
      | dead => simp [Rd.eval] at hs
      | mp => simp [Rd.eval] at hs
      | hole => simp [Rd.eval] at hs
      | arr ep' u xs =>
        simp only at hs; split at hs
        · rename_i e; subst e; split at hs
          · rename_i zs hzs; simp only [Rd.eval, Option.some.injEq] at hs; subst hs; obtain ⟨e, hz⟩ := TV.to_some hzs; cases e; obtain rfl := hz; obtain ⟨B, hu, hB⟩ := (hty S _ hS).und; have hB' := (hty B _ hB).und; have hT' := (hty T _ hT).und; obtain ⟨hl, hblk⟩ := h.blk id _ hmi
            cases hr with
            | arr _ _ v hm h1 hv =>
              have hv := hv _ _ hmi; have hsz : ((strOf zs).size : Int) ≤ 4294967296 := strOf_small hl; refine ⟨strOf zs, .string (strOf zs), rfl, ?_, .str _ (by simp only [lim]; omega)⟩; rcases hblk with ⟨hb, rfl⟩ | ⟨b, D, cs, el, css, hb, hh, hsz, hD, hel⟩
              · rw [hb] at hv; obtain ⟨_, _, rfl⟩ := hv; rw [run_convert_bytes_string w S T B none 0 0 hu hB' hT']; rfl
              · rw [hb] at hv; obtain ⟨ad, rfl, hle, had⟩ := hv; have had := had (.inl rfl); subst had
                have hc := run_convert_bytes_back (P := P) w S T B ⟨b, 0 * (Ty.int .u8).size, none⟩ (D - 0) ((zs : List Int).map fun n => UInt8.ofNat n.toNat) hu hB' hT' (fun j hj => by
                  (have hj' : j < zs.length := by simpa using hj); obtain ⟨c1, c2, c3⟩ := hel j hj'; generalize hcj : css j = cj at c1 c2 c3; generalize hx : zs[j] = x at c3
                  cases c3 with
                  | int k n lo hi =>
                    have := c2 0 _ rfl; rw [List.getElem_map]; have hx' : (zs : List Int)[j] = x := hx; rw [hx', byte_back (Int.le_trans (by decide) lo) (Int.le_trans hi (by decide))]; (have e : Addr.add ⟨b, 0 * (Ty.int .u8).size, none⟩ j = ⟨b, j, none⟩ := by unfold Addr.add; split <;> simp_all); rw [e]; simp only [World.cell?, hh]
                    simpa [Ty.size] using this)
                simp only [List.length_map] at hc; exact hc
          · simp [Rd.eval] at hs
        · simp [Rd.eval] at hs
  · simp [Rd.eval] at hs

theorem bytesStr_ob {sT tT : Option Ty} {v : SV} {ps : List Prop} {r : Res} (hs : (bytesStr sT tT v ps).eval mem = some r) : r.ob = ps := by
  unfold bytesStr at hs; split at hs
  · replace hs := Rd.mem_some hs; split at hs
    · split at hs
      · split at hs
        · simp only [Rd.eval, Option.some.injEq] at hs; subst hs; rfl
        · simp [Rd.eval] at hs
      · simp [Rd.eval] at hs
    · simp [Rd.eval] at hs
  · simp [Rd.eval] at hs

theorem cutStr_ob {v : SV} {l hh : Option Int} {ps : List Prop} {r : Res} (hs : (cutStr v l hh ps).eval mem = some r) : ∃ q, r.ob = ps ++ [q] := by
  unfold cutStr at hs; split at hs
  · simp only [Rd.eval, Option.some.injEq] at hs; subst hs; exact ⟨_, rfl⟩
  · simp [Rd.eval] at hs

theorem cutStr_sound {A : Nat → Prop} {T : Nat} (hT : P.underlying T = some .string) {v : SV} {y : Value} (hr : RepSV A w β mem v y) {l hh : Option (IntKind × Int)} {ps : List Prop} {r : Res}
    (hs : (cutStr v (l.map (·.2)) (hh.map (·.2)) ps).eval mem = some r) (hob : ∀ p ∈ r.ob, p) :
    r.memw = [] ∧ ∃ z, (Instr.sliceAt T y (l.map fun z => .int z.1 z.2) (hh.map fun z => .int z.1 z.2) none).run P w = .ok z w ∧ RepSV A w β mem r.val z := by
  unfold cutStr at hs; split at hs
  · rename_i s; simp only [Rd.eval, Option.some.injEq] at hs; subst hs; obtain ⟨h0, h1, h2⟩ := hob _ (List.mem_append_right _ (List.mem_singleton.2 rfl)); rw [hr.str_inv]; refine ⟨rfl, _, ?_, .str _ ?_⟩
    · rw [run_sliceAt_string w T _ _ _ _ hT]
      cases l with
      | none =>
        cases hh with
        | none => simpa using run_slice_string_all w T s hT
        | some z => simpa using run_slice_string_h w T s hT z.1 z.2 (by simpa using h1) (by simpa using h2)
      | some x =>
        cases hh with
        | none => simpa using run_slice_string_l w T s hT x.1 x.2 (by simpa using h0) (by simpa using h1)
        | some z => simpa using run_slice_string w T s x.1 z.1 x.2 z.2 hT (by simpa using h0) (by simpa using h1) (by simpa using h2)
    · (have hl : (s.size : Int) ≤ lim := by cases hr; assumption); rw [ByteArray.size_extract]; omega
  · simp [Rd.eval] at hs

def StepGives (P : Program) (E : Ent) (N : Nat) (env : Nat → SV) (mem : Nat → Option Blk) (a : Act) (x : Sem Next) (w : World) (r : Res) : Prop :=
  ∃ (x' : Next) (v : Value) (w' : World) (β' : Bind), x.run P w = .ok x' w' ∧ (x' = .value v ∨ (x' = .skip ∧ v = undef)) ∧
    SimB E N env (updm mem r.memw) a w' β' ∧ RepSV (allow E w' β') w' β' (updm mem r.memw) r.val v

theorem StepGives.pure (h : SimB E N env mem a w β) {s : Sem Value} {sv : SV} {ob : List Prop} (hy : ∃ y, s.run P w = .ok y w ∧ RepSV (allow E w β) w β mem sv y) :
    StepGives P E N env mem a (do Pure.pure (.value (← s))) w { val := sv, ob := ob } := by
  obtain ⟨y, hy, hr⟩ := hy; exact ⟨.value y, y, w, β, by simp [hy], .inl rfl, h, hr⟩

theorem StepGives.gives {s : Sem Value} {sv : SV} {m : List (Nat × Blk)} {ob : List Prop} (h : Gives P E N env (updm mem m) a s w sv) :
    StepGives P E N env mem a (do Pure.pure (.value (← s))) w { val := sv, memw := m, ob := ob } := by
  obtain ⟨v, w', β', hr, hs, hv⟩ := h; exact ⟨.value v, v, w', β', by simp [hr], .inl rfl, hs, hv⟩

theorem RepSV.int_inv {A : Nat → Prop} {k : IntKind} {n : Int} {v : Value} (h : RepSV A w β mem (.int k n) v) : v = .int k n ∧ inR k n := by
  cases h; exact ⟨rfl, by assumption, by assumption⟩

theorem RepSV.bool_inv {A : Nat → Prop} {b : Bool} {v : Value} (h : RepSV A w β mem (.bool b) v) : v = .bool b := by
  cases h; rfl

omit U in
theorem run_getMap {b : Nat} {es : Array MapEntry} {clk : Nat} (hb : w.heap[b]? = some (.map es clk)) : (getObj b).run P w = .ok (.map es clk) w := by
  simp [getObj, Sem.run, hb]

omit U in
theorem run_setMap {b : Nat} {es : Array MapEntry} {clk : Nat} (o : Obj) (hb : w.heap[b]? = some (.map es clk)) : (setObj b o).run P w = .ok () { w with heap := w.heap.setIfInBounds b o } := by
  simp [setObj, Sem.run, hb]

omit U in
theorem run_checkInt {T : Nat} (hu : P.underlying T = some (.int .i64)) (e : Bool) (n : Nat) (k : Int) : (Instr.checkKey e (n + 1) T (.int .i64 k)).run P w = .ok () w := by
  unfold Instr.checkKey; simp only [Sem.run_bind, run_underlying hu, Result.andThen_ok, Sem.run_pure]

def entryOf (e : MapEntry) : Value × Value := (e.key, e.val)
def pairOf (p : Int × Int) : Value × Value := (.int .i64 p.1, .int .i64 p.2)

omit U in
theorem findNow_rep (k : Int) : ∀ (es : List MapEntry) (l : List (Int × Int)) (i : Nat), es.map entryOf = l.map pairOf →
    (∃ j, ∃ h : j < l.length, l[j].1 = k ∧ Instr.findNow (.int .i64) (.int .i64 k) es i = some (some (i + j, .int .i64 (mget l k))) ∧ (mget l k = l[j].2) ∧ ∀ x, mput l k x = l.set j (k, x)) ∨
    (Instr.findNow (.int .i64) (.int .i64 k) es i = some none ∧ mget l k = 0 ∧ ∀ x, mput l k x = l ++ [(k, x)]) := by
  intro es
  induction es with
  | nil =>
    intro l i h
    cases l with
    | nil => exact .inr ⟨rfl, rfl, fun _ => rfl⟩
    | cons => cases h
  | cons e es ih =>
    intro l i h
    cases l with
    | nil => cases h
    | cons p l =>
      obtain ⟨a, b⟩ := p; simp only [List.map_cons, List.cons.injEq] at h; obtain ⟨h1, h2⟩ := h; simp only [entryOf, pairOf, Prod.mk.injEq] at h1; obtain ⟨hk, hv⟩ := h1; (have hs : Instr.sameNow (.int .i64) (.int .i64 k) e.key = some (k == a) := by rw [hk]; simp [Instr.sameNow]); unfold Instr.findNow; rw [hs]; by_cases hak : a = k
      · subst hak; refine .inl ⟨0, by simp, rfl, ?_, by simp [mget], fun x => by simp [mput]⟩; simp [mget, hv]
      · (have hf : (k == a) = false := by rw [beq_eq_false_iff_ne]; exact fun e => hak e.symm); rw [hf]; simp only [mget, mput, if_neg hak]; rcases ih l (i + 1) h2 with ⟨j, hj, e1, e2, e3, e4⟩ | ⟨e1, e2, e3⟩
        · refine .inl ⟨j + 1, by simpa using hj, by simpa using e1, ?_, by simpa using e3, fun x => by rw [e4]; rfl⟩; rw [e2, show i + 1 + j = i + (j + 1) by omega]
        · exact .inr ⟨e1, e2, fun x => by rw [e3]; rfl⟩

theorem isMap_ty (hty : CtxTy P C) {T : Nat} (h : isMap C T = true) : ∃ T', P.underlying T = some (.map T' T') ∧ P.underlying T' = some (.int .i64) ∧ ∀ w, (zeroValue T').run P w = .ok (.int .i64 0) w := by
  unfold isMap at h; split at h
  · rename_i T' hf; (have hT : C.ty T' = some (.int .i64) := by simpa using h); refine ⟨T', (hty T' _ hT).maps T hf, (hty T' _ hT).und, fun w => ?_⟩; obtain ⟨z, hz, hr⟩ := (hty T' _ hT).zero w; have := hr (fun _ => True) w
    cases this with
    | one _ _ _ _ hc => cases hc; exact hz
  · cases h

theorem mapGet_ob {v : SV} {k : Int} {ps : List Prop} {r : Res} (hs : (mapGet v k ps).eval mem = some r) : r.ob = ps := by
  unfold mapGet at hs; split at hs
  · replace hs := Rd.mem_some hs; split at hs
    · split at hs
      · simp only [Rd.eval, Option.some.injEq] at hs; subst hs; rfl
      · simp [Rd.eval] at hs
    · simp [Rd.eval] at hs
  · simp [Rd.eval] at hs

theorem mapPut_ob {v : SV} {k x : Int} {ps : List Prop} {r : Res} (hs : (mapPut v k x ps).eval mem = some r) : r.ob = ps := by
  unfold mapPut at hs; split at hs
  · replace hs := Rd.mem_some hs; split at hs
    · split at hs
      · simp only [Rd.eval, Option.some.injEq] at hs; subst hs; rfl
      · simp [Rd.eval] at hs
    · simp [Rd.eval] at hs
  · simp [Rd.eval] at hs

theorem mapGet_sound (h : SimB E N env mem a w β) (hty : CtxTy P C) {T : Nat} (hT : isMap C T = true) {v : SV} {y : Value} (hr : RepSV (allow E w β) w β mem v y) {k : Int} {ps : List Prop} {r : Res}
    (hs : (mapGet v k ps).eval mem = some r) : r.ob = ps ∧ r.memw = [] ∧ ∃ z, (Instr.lookup T y (.int .i64 k) false).run P w = .ok z w ∧ RepSV (allow E w β) w β mem r.val z := by
  unfold mapGet at hs; split at hs
  · rename_i id ep; replace hs := Rd.mem_some hs; split at hs
    · rename_i ep' l hm; split at hs
      · rename_i e; subst e; simp only [Rd.eval, Option.some.injEq] at hs; subst hs; obtain ⟨T', hu, hk, hz⟩ := isMap_ty hty hT; obtain ⟨b, D, es, clk, hb, hh, hes, hin⟩ := h.blk id _ hm
        cases hr with
        | mp _ _ b' _ hv =>
          obtain ⟨D', hb'⟩ := hv l hm; rw [hb] at hb'; (obtain ⟨rfl, rfl⟩ : b = b' ∧ D = D' := by simpa using hb'); have hck : (Instr.checkKey es.isEmpty 10000 T' (.int .i64 k)).run P w = .ok () w := run_checkInt hk _ 9999 k; refine ⟨rfl, rfl, .int .i64 (mget l k), ?_, ?_⟩
          · unfold Instr.lookup; simp only [Sem.run_bind, run_underlying hu, Result.andThen_ok, run_getMap hh, Sem.run_pure, hck, Instr.findKey, run_underlying hk]; rcases findNow_rep k es.toList l 0 hes with ⟨j, hj, _, e2, _, _⟩ | ⟨e1, e2, _⟩
            · rw [e2]; simp
            · rw [e1, e2]; simp [hz]
          · rcases findNow_rep k es.toList l 0 hes with ⟨j, hj, _, _, e3, _⟩ | ⟨_, e2, _⟩
            · have := (hin _ (List.getElem_mem hj)).2; rw [e3]; exact .int _ _ this.1 this.2
            · rw [e2]; exact .int _ _ (by decide) (by decide)
      · simp [Rd.eval] at hs
    · simp [Rd.eval] at hs
  · simp [Rd.eval] at hs

theorem mapPut_sound (h : SimB E N env mem a w β) (hty : CtxTy P C) {T : Nat} (hT : isMap C T = true) {v : SV} {y : Value} (hr : RepSV (allow E w β) w β mem v y) {k x : Int} (hk1 : inR .i64 k) (hx1 : inR .i64 x) {ps : List Prop} {r : Res}
    (hs : (mapPut v k x ps).eval mem = some r) : r.ob = ps ∧ r.val = .top ∧ ∃ w', (Instr.mapUpdate T y (.int .i64 k) (.int .i64 x)).run P w = .ok () w' ∧ SimB E N env (updm mem r.memw) a w' β := by
  unfold mapPut at hs; split at hs
  · rename_i id ep; replace hs := Rd.mem_some hs; split at hs
    · rename_i ep' l hm; split at hs
      · rename_i e; subst e; simp only [Rd.eval, Option.some.injEq] at hs; subst hs; obtain ⟨T', hu, hk, _⟩ := isMap_ty hty hT; obtain ⟨b, D, es, clk, hb, hh, hes, hin⟩ := h.blk id _ hm
        cases hr with
        | mp _ _ b' _ hv =>
          obtain ⟨D', hb'⟩ := hv l hm; rw [hb] at hb'; (obtain ⟨rfl, rfl⟩ : b = b' ∧ D = D' := by simpa using hb'); have hlt : b < w.heap.size := (Array.getElem?_eq_some_iff.1 hh).1
          have key : ∀ (o : Obj) (es' : Array MapEntry) (clk' : Nat), o = .map es' clk' → es'.toList.map entryOf = (mput l k x).map pairOf → (∀ p ∈ mput l k x, inR .i64 p.1 ∧ inR .i64 p.2) →
              SimB E N env (updm mem [(id, .mp ep' (mput l k x))]) a { w with heap := w.heap.setIfInBounds b o } β := by
            rintro o es' clk' rfl h1 h2; refine h.write (w' := { w with heap := w.heap.setIfInBounds b (.map es' clk') }) (id := id) (k := .mp ep' (mput l k x)) hm hb (Nat.le_refl _) (fun _ => trivial) rfl rfl rfl ⟨rfl, Nat.le_refl _⟩ (by simp) (fun c hc => ?_) ?_
            · show (w.heap.setIfInBounds b _)[c]? = _; rw [Array.getElem?_setIfInBounds_ne (fun e => hc e.symm)]
            · refine ⟨b, D, es', clk', hb, ?_, h1, h2⟩; show (w.heap.setIfInBounds b _)[b]? = _; rw [Array.getElem?_setIfInBounds_self_of_lt hlt]
          have hck : (Instr.checkKey false 10000 T' (.int .i64 k)).run P w = .ok () w := run_checkInt hk _ 9999 k; refine ⟨rfl, rfl, ?_⟩; unfold Instr.mapUpdate; simp only [Sem.run_bind, run_underlying hu, Result.andThen_ok, run_getMap hh, hck, Instr.findKey, run_underlying hk]; rcases findNow_rep k es.toList l 0 hes with ⟨j, hj, e1, e2, _, e4⟩ | ⟨e1, _, e3⟩
          · rw [e2]
            have hje : j < es.size := by
              have := congrArg List.length hes
              simp at this
              omega
            have hkey : es[j].key = .int .i64 k := by
              have := congrArg (fun q => q[j]?) hes
              simp [entryOf, pairOf, hj, hje] at this
              rw [this.1, e1]
            have hst : (Instr.keyThatStays ((es[0 + j]?.map (·.key)).getD (.int .i64 k)) (.int .i64 k)).run P w = .ok (.int .i64 k) w := by
              rw [Nat.zero_add, Array.getElem?_eq_getElem hje]; simp [hkey, Instr.keyThatStays, Instr.sameBits]
            simp only [Sem.run_pure, Result.andThen_ok, Sem.run_bind, hst, run_setMap _ hh]; refine ⟨_, rfl, key _ _ _ rfl ?_ ?_⟩
            · have hes' : es.toList.map entryOf = l.map pairOf := hes; rw [e4, Nat.zero_add, List.map_set, ← hes']; apply List.ext_getElem?; intro q; by_cases hq : q = j
              · subst hq; simp [hje, entryOf, pairOf]
              · simp [Array.getElem?_modify, Ne.symm hq]
            · rw [e4]; intro p hp; rcases List.mem_or_eq_of_mem_set hp with hp | rfl
              · exact hin p hp
              · exact ⟨hk1, hx1⟩
          · rw [e1]; simp only [Sem.run_pure, Result.andThen_ok, run_setMap _ hh]; refine ⟨_, rfl, key _ _ _ rfl ?_ ?_⟩
            · rw [e3]; simp [List.map_append, hes, entryOf, pairOf]; exact hes
            · rw [e3]; intro p hp; rcases List.mem_append.1 hp with hp | hp
              · exact hin p hp
              · obtain rfl := List.mem_singleton.1 hp; exact ⟨hk1, hx1⟩
      · simp [Rd.eval] at hs
    · simp [Rd.eval] at hs
  · simp [Rd.eval] at hs

theorem mapLen_sound (h : SimB E N env mem a w β) (hty : CtxTy P C) {T : Nat} (hT : isMap C T = true) {v : SV} {y : Value} (hr : RepSV (allow E w β) w β mem v y) {r : Res}
    (hs : (mapLen v).eval mem = some r) (hob : ∀ p ∈ r.ob, p) : r.memw = [] ∧ ∃ z, (∀ ty, (Builtin.len_ #[T] ty #[y]).run P w = .ok z w) ∧ RepSV (allow E w β) w β mem r.val z := by
  unfold mapLen at hs; split at hs
  · rename_i id ep; replace hs := Rd.mem_some hs; split at hs
    · rename_i ep' l hm; split at hs
      · rename_i e; subst e; simp only [Rd.eval, Option.some.injEq] at hs; subst hs; obtain ⟨T', hu, _, _⟩ := isMap_ty hty hT; obtain ⟨b, D, es, clk, hb, hh, hes, hin⟩ := h.blk id _ hm
        cases hr with
        | mp _ _ b' _ hv =>
          obtain ⟨D', hb'⟩ := hv l hm; rw [hb] at hb'; obtain ⟨rfl, rfl⟩ : b = b' ∧ D = D' := by simpa using hb'
          have hl : es.size = l.length := by
            have := congrArg List.length hes
            simpa using this
          have hle := hob ((l.length : Int) ≤ lim) (by simp); refine ⟨rfl, .int .i64 (l.length : Int), fun ty => ?_, .int _ _ (Int.le_trans (by decide) (Int.natCast_nonneg _)) hle⟩; simp [Builtin.len_, run_underlying hu, run_getMap hh, hl, goInt]
      · simp [Rd.eval] at hs
    · simp [Rd.eval] at hs
  · simp [Rd.eval] at hs

theorem freshEp_congr {mem mem' : Nat → Option Blk} {id : Nat} (h : mem' id = mem id) : (freshEp id).eval mem' = (freshEp id).eval mem := by
  simp only [freshEp, Rd.eval, h]; cases mem id <;> rfl

omit U in
theorem run_equalIn_bool {T : Nat} (hu : P.underlying T = some .bool) (d : Nat) (b c : Bool) : (Op.equalIn (d + 1) T (.bool b) (.bool c)).run P w = .ok (b == c) w := by
  simp only [Op.equalIn, Sem.run_bind, run_underlying hu, Result.andThen_ok, Sem.run_pure]

omit U in
theorem run_equal_bool {T : Nat} (hu : P.underlying T = some .bool) (b c : Bool) : (Op.equal T (.bool b) (.bool c)).run P w = .ok (b == c) w :=
  run_equalIn_bool hu 9999 b c

theorem force_eq {α : Type} (v : SV) (k : SV → α) : v.force k = k v := by cases v <;> rfl

theorem minSV_rep {A : Nat → Prop} {mx : Bool} {u v r : SV} {x y : Value} (hu : RepSV A w β mem u x) (hv : RepSV A w β mem v y) (h : minSV mx u v = some r) :
    ∃ z, (if mx then Builtin.max2 x y else Builtin.min2 x y).run P w = .ok z w ∧ RepSV A w β mem r z := by
  (cases hu <;> cases hv <;> simp only [minSV] at h <;> try (simp at h; done)); rename_i k n lo hi k' n' lo' hi'; split at h
  · rename_i e; subst e; obtain rfl := Option.some.inj h
    cases mx with
    | true =>
      refine ⟨_, by simp [Builtin.max2]; rfl, ?_⟩; simp only [if_true]; split
      · exact .int _ _ lo' hi'
      · exact .int _ _ lo hi
    | false =>
      refine ⟨_, by simp [Builtin.min2]; rfl, ?_⟩; simp only [Bool.false_eq_true, if_false]; split
      · exact .int _ _ lo' hi'
      · exact .int _ _ lo hi
  · simp at h

theorem minsSV_rep {A : Nat → Prop} {mx : Bool} : ∀ {l : List SV} {vs : List Value} {u r : SV} {x : Value}, l.length = vs.length → (∀ (i : Nat) (sv : SV) (v : Value), l[i]? = some sv → vs[i]? = some v → RepSV A w β mem sv v) →
    RepSV A w β mem u x → minsSV mx u l = some r → ∃ z, (vs.foldlM (if mx then Builtin.max2 else Builtin.min2) x).run P w = .ok z w ∧ RepSV A w β mem r z := by
  intro l
  induction l with
  | nil =>
    intro vs u r x hl _ hu h
    cases vs with
    | nil =>
      obtain rfl := Option.some.inj h; exact ⟨x, rfl, hu⟩
    | cons => simp at hl
  | cons v l ih =>
    intro vs u r x hl hr hu h
    cases vs with
    | nil => simp at hl
    | cons y vs =>
      simp only [minsSV] at h; split at h
      · rename_i z hz; obtain ⟨z', hz', hr'⟩ := minSV_rep (P := P) hu (hr 0 v y rfl rfl) hz; obtain ⟨q, hq, hqr⟩ := ih (by simpa using hl) (fun i sv v hi hj => hr (i + 1) sv v (by simpa using hi) (by simpa using hj)) hr' h; refine ⟨q, ?_, hqr⟩; (have : (if mx then Builtin.max2 else Builtin.min2) x y = (if mx then Builtin.max2 x y else Builtin.min2 x y) := by split <;> rfl); simp only [List.foldlM_cons, Sem.run_bind, this, hz', Result.andThen_ok, hq]
      · simp at h

theorem opvs_rep (h : SimB E N env mem a w β) : ∀ (l : List Operand) {vs : List SV} {ob : List Prop}, opvs env l = (vs, ob) → (∀ p ∈ ob, p) →
    vs.length = (l.map a.eval).length ∧ ∀ (i : Nat) (sv : SV) (v : Value), vs[i]? = some sv → (l.map a.eval)[i]? = some v → RepSV (allow E w β) w β mem sv v := by
  intro l
  induction l with
  | nil =>
    intro vs ob hp _; simp only [opvs, Prod.mk.injEq] at hp; obtain ⟨rfl, rfl⟩ := hp; exact ⟨rfl, fun i sv v hi _ => by simp at hi⟩
  | cons x l ih =>
    intro vs ob hp hob; simp only [opvs] at hp; generalize hv : opv env x = vp at hp; obtain ⟨v, p⟩ := vp; generalize hr : opvs env l = rp at hp; obtain ⟨r, rob⟩ := rp; simp only [Prod.mk.injEq] at hp; obtain ⟨rfl, rfl⟩ := hp; obtain ⟨k1, k2⟩ := ih hr (fun p hp => hob p (by simp [hp])); refine ⟨by simp [k1], fun i sv u hi hj => ?_⟩
    cases i with
    | zero =>
      simp only [List.getElem?_cons_zero, Option.some.injEq, List.map_cons] at hi hj; subst hi hj; exact opv_rep h hv (fun p hp => hob p (by simp [hp]))
    | succ i => exact k2 i sv u (by simpa using hi) (by simpa using hj)

theorem optInt_rep (h : SimB E N env mem a w β) {x : Option Operand} {l : Option Int} {ob : List Prop} (hx : optInt env x = some (l, ob)) (hob : ∀ p ∈ ob, p) :
    ∃ y : Option (IntKind × Int), x.map a.eval = y.map (fun z => .int z.1 z.2) ∧ l = y.map (·.2) := by
  cases x with
  | none =>
    simp only [optInt, Option.some.injEq, Prod.mk.injEq] at hx; obtain ⟨rfl, rfl⟩ := hx; exact ⟨none, rfl, rfl⟩
  | some x =>
    simp only [optInt] at hx; split at hx
    · rename_i k n ps hv; simp only [Option.some.injEq, Prod.mk.injEq] at hx; obtain ⟨rfl, rfl⟩ := hx; obtain ⟨hx, _⟩ := (opv_rep h hv hob).int_inv; exact ⟨some (k, n), by simp [hx], rfl⟩
    · simp at hx

theorem buildFields_sound (h : SimB E N env mem a w β) {ps : List (Nat × SV)} {l : List (Nat × Value)} (hr : ∀ (i : Nat), match findPart i ps, findPart i l with
      | some sv, some v => RepSV (allow E w β) w β mem sv v
      | none, none => True
      | _, _ => False) : ∀ (ts : List Ty) (i : Nat) {tvs : List TV}, (buildFields ps i ts).eval mem = some tvs →
    tvs.map Sigma.fst = ts ∧ ∀ (f : Nat) (t : Ty) (x : t.den), tvs[f]? = some ⟨t, x⟩ → match findPart (i + f) l with
      | some v => RepV (allow E w β) w t x v
      | none => x = t.zero := by
  intro ts
  induction ts with
  | nil =>
    intro i tvs hb; simp only [buildFields, Rd.eval, Option.some.injEq] at hb; subst hb; exact ⟨rfl, by simp⟩
  | cons t ts ih =>
    intro i tvs hb; simp only [buildFields] at hb; obtain ⟨tv, htv, hb⟩ := Rd.bind_some hb; obtain ⟨r, hr', hb⟩ := Rd.bind_some hb; simp only [Rd.eval, Option.some.injEq] at hb; subst hb; obtain ⟨k1, k2⟩ := ih (i + 1) hr'; have hri := hr i
    have first : ∃ x, tv = ⟨t, x⟩ ∧ match findPart i l with
        | some v => RepV (allow E w β) w t x v
        | none => x = t.zero := by
      cases hps : findPart i ps with
      | some sv =>
        rw [hps] at hri htv; simp only at htv; obtain ⟨x, hx, h2⟩ := Rd.bind_some htv; obtain rfl := Option.some.inj h2
        cases hl : findPart i l with
        | some v =>
          rw [hl] at hri; exact ⟨x, rfl, toD_sound h (fun _ hb => hb) fuel (by simp) hri hx⟩
        | none => rw [hl] at hri; exact hri.elim
      | none =>
        rw [hps] at hri htv; simp only [Rd.eval, Option.some.injEq] at htv
        cases hl : findPart i l with
        | some v => rw [hl] at hri; exact hri.elim
        | none => exact ⟨t.zero, htv.symm, rfl⟩
    (obtain ⟨x, rfl, hx⟩ := first); refine ⟨by simp [k1], fun f u y hf => ?_⟩
    cases f with
    | zero =>
      simp only [List.getElem?_cons_zero, Option.some.injEq] at hf; obtain rfl : t = u := congrArg Sigma.fst hf; (obtain rfl : x = y := by simpa using hf); simpa using hx
    | succ f =>
      have := k2 f u y (by simpa using hf)
      rwa [show i + 1 + f = i + (f + 1) by omega] at this

theorem buildCells_sound {ps : List (Nat × SV)} : ∀ (ts : List Ty) (i : Nat) {cs : List SV}, buildCells ps i ts = some cs →
    cs.length = (ts.map Ty.size).sum ∧ ∀ (f : Nat) (t : Ty), ts[f]? = some t → ∃ vs, partCells ps (i + f) t = some vs ∧ vs.length = t.size ∧ (cs.drop (((ts.take f).map Ty.size).sum)).take t.size = vs := by
  intro ts
  induction ts with
  | nil =>
    intro i cs hb; simp only [buildCells, Option.some.injEq] at hb; subst hb; exact ⟨rfl, by simp⟩
  | cons t ts ih =>
    intro i cs hb; simp only [buildCells] at hb; split at hb
    · rename_i vs hvs; split at hb
      · rename_i hl; split at hb
        · rename_i r hr; obtain rfl := Option.some.inj hb; obtain ⟨k1, k2⟩ := ih (i + 1) hr; refine ⟨by simp [k1, hl], fun f u hf => ?_⟩
          cases f with
          | zero =>
            simp only [List.getElem?_cons_zero, Option.some.injEq] at hf; subst hf; refine ⟨vs, by simpa using hvs, hl, ?_⟩; simp only [List.take_zero, List.map_nil, List.sum_nil, List.drop_zero]; rw [← hl, List.take_left]
          | succ f =>
            obtain ⟨us, h1, h2, h3⟩ := k2 f u (by simpa using hf); refine ⟨us, by rwa [show i + (f + 1) = i + 1 + f by omega], h2, ?_⟩; simp only [List.take_succ_cons, List.map_cons, List.sum_cons]; rw [← hl, ← List.drop_drop, List.drop_left]; exact h3
        · simp at hb
      · simp at hb
    · simp at hb

theorem zeroCells_le : ∀ (f : Nat) (t : Ty), (zeroCells f t).length ≤ t.size := by
  intro f
  induction f with
  | zero => intro t; cases t <;> simp [zeroCells, Ty.size]
  | succ f ih =>
    intro t
    cases t with
    | named n =>
      simp only [zeroCells]; show _ ≤ U.sz n; rw [U.sz_eq n]; generalize U.tys n = l
      induction l with
      | nil => simp
      | cons u l ihl =>
        simp only [List.flatMap_cons, List.length_append, List.map_cons, List.sum_cons]; have := ih u; omega
    | _ => simp [zeroCells, Ty.size]

theorem zeroCells_seg (l : List Ty) (z : Ty → List Value) (hle : ∀ u, (z u).length ≤ u.size) (hs : (l.flatMap z).length = (l.map Ty.size).sum) :
    ∀ (f : Nat) (t : Ty), l[f]? = some t → ((l.flatMap z).drop (((l.take f).map Ty.size).sum)).take t.size = z t := by
  induction l with
  | nil => simp
  | cons u l ih =>
    have hl : (l.flatMap z).length ≤ (l.map Ty.size).sum := by
      clear ih hs
      induction l with
      | nil => simp
      | cons v l ih => simp only [List.flatMap_cons, List.length_append, List.map_cons, List.sum_cons]; have := hle v; omega
    simp only [List.flatMap_cons, List.length_append, List.map_cons, List.sum_cons] at hs; have hu := hle u; (have e1 : (z u).length = u.size := by omega); intro f t hf
    cases f with
    | zero =>
      simp only [List.getElem?_cons_zero, Option.some.injEq] at hf; subst hf; simp only [List.take_zero, List.map_nil, List.sum_nil, List.drop_zero, List.flatMap_cons]; rw [← e1, List.take_left]
    | succ f =>
      simp only [List.take_succ_cons, List.map_cons, List.sum_cons, List.flatMap_cons]; rw [← e1, ← List.drop_drop, List.drop_left]; exact ih (by omega) f t (by simpa using hf)

theorem build_sound (h : SimB E N env mem a w β) (hty : CtxTy P C) {T n : Nat} (hT : C.ty T = some (.named n)) {ps : List (Nat × SV)} {ob : List Prop} {parts : Array (Nat × Value)}
    (hin : inOrder (U.tys n).length 0 (ps.map (·.1)) = true) (hmap : parts.toList.map (·.1) = ps.map (·.1))
    (hr : ∀ (i : Nat), match findPart i ps, findPart i parts.toList with
      | some sv, some v => RepSV (allow E w β) w β mem sv v
      | none, none => True
      | _, _ => False) {r : Res}
    {b : Bool} (hs : (if b then (buildFields ps 0 (U.tys n)).bind fun tvs => Rd.ret { val := .data (.named n) (U.bld n tvs), ob := ob : Res }
       else (match buildCells ps 0 (U.tys n) with
         | some cs => .ret { val := .agg cs, ob := ob }
         | none => .fail)).eval mem = some r) (_hob : ∀ p ∈ r.ob, p) :
    StepGives P E N env mem a (do pure (.value (← Instr.build T parts))) w r := by
  -- what a part's value is
  have mem_find : ∀ (l : List (Nat × Value)) (i0 : Nat), inOrder (U.tys n).length i0 (l.map (·.1)) = true → ∀ p ∈ l, findPart p.1 l = some p.2 := by
    intro l
    induction l with
    | nil => intro _ _ p hp; cases hp
    | cons q l ih =>
      intro i0 hin p hp; simp only [List.map_cons, inOrder, Bool.and_eq_true, decide_eq_true_eq] at hin; rcases List.mem_cons.1 hp with rfl | hp
      · simp [findPart]
      · have hlt : ∀ (l : List (Nat × Value)) (i1 : Nat), inOrder (U.tys n).length i1 (l.map (·.1)) = true → ∀ p ∈ l, i1 ≤ p.1 := by
          intro l
          induction l with
          | nil => intro _ _ p hp; cases hp
          | cons q l ih =>
            intro i1 hin p hp; simp only [List.map_cons, inOrder, Bool.and_eq_true, decide_eq_true_eq] at hin; rcases List.mem_cons.1 hp with rfl | hp
            · exact hin.1.1
            · have := ih _ hin.2 p hp; omega
        have := hlt l (q.1 + 1) hin.2 p hp; simp only [findPart]; rw [if_neg (by omega)]; exact ih _ hin.2 p hp
  (have hin' : inOrder (U.tys n).length 0 (parts.toList.map (·.1)) = true := by rw [hmap]; exact hin); split at hs
  · obtain ⟨tvs, htvs, hs⟩ := Rd.bind_some hs; simp only [Rd.eval, Option.some.injEq] at hs; subst hs; obtain ⟨k1, k2⟩ := buildFields_sound h hr (U.tys n) 0 htvs
    obtain ⟨cs, zs, hrun, hcl, hz, _, _, hcs⟩ := run_build_fields h hty hT hin' (fun p hp t ht => by
      have hf := mem_find _ 0 hin' p hp
      have hlt : p.1 < tvs.length := by
        have : p.1 < (U.tys n).length := (List.getElem?_eq_some_iff.1 ht).1
        rw [← k1, List.length_map] at this
        exact this
      have htt : tvs[p.1].1 = t := by
        have : (tvs.map Sigma.fst)[p.1]? = some t := by rw [k1]; exact ht
        rw [List.getElem?_map, List.getElem?_eq_getElem hlt] at this
        simpa using this
      have := k2 p.1 tvs[p.1].1 tvs[p.1].2 (by rw [List.getElem?_eq_getElem hlt])
      rw [Nat.zero_add, hf] at this
      rw [← htt]
      exact this.cells.2)
    refine StepGives.pure h ⟨_, hrun, .data _ _ _ (.agg n _ cs (.named n _ cs ?_))⟩; rw [U.get_bld n tvs k1]; refine RepL.of_parts tvs cs (by rw [k1, hcl]; exact U.sz_eq n) fun f t x hf => ?_; (have ht : (U.tys n)[f]? = some t := by rw [← k1, List.getElem?_map, hf]; rfl); rw [k1]; have hcf := hcs f t ht; change (cs.drop (((U.tys n).take f).map Ty.size).sum).take t.size = _ at hcf; rw [hcf]; have := k2 f t x hf
    rw [Nat.zero_add] at this
    cases hfp : findPart f parts.toList with
    | some v =>
      rw [hfp] at this
      exact this.cells.1
    | none =>
      rw [hfp] at this
      simp only at this
      subst this
      (have hzf : (U.get n (U.dfl n))[f]? = some ⟨t, t.zero⟩ := by rw [U.get_dfl, List.getElem?_map, ht]; rfl); exact (hz.field hzf).1
  · split at hs
    · rename_i cs hcs; simp only [Rd.eval, Option.some.injEq] at hs; subst hs; obtain ⟨k1, k2⟩ := buildCells_sound (U.tys n) 0 hcs
      have part : ∀ f t v, (U.tys n)[f]? = some t → findPart f parts.toList = some v → ∃ sv, findPart f ps = some sv ∧ RepSV (allow E w β) w β mem sv v ∧ ∃ vs, sv.cells = some vs ∧ vs.length = t.size ∧ (cs.drop (offsetOf n f)).take t.size = vs := by
        intro f t v ht hv; have h1 := hr f; rw [hv] at h1
        cases hps : findPart f ps with
        | none => rw [hps] at h1; exact h1.elim
        | some sv =>
          rw [hps] at h1; obtain ⟨vs, e1, e2, e3⟩ := k2 f t ht; simp only [Nat.zero_add, partCells, hps] at e1; exact ⟨sv, rfl, h1, vs, e1, e2, e3⟩
      obtain ⟨cv, zs, hrun, hcl, hz, hzs, _, hcv⟩ := run_build_fields h hty hT hin' (fun p hp t ht => by
        obtain ⟨sv, _, hrep, vs, e1, e2, _⟩ := part p.1 t p.2 ht (mem_find _ 0 hin' p hp)
        rw [← (hrep.cells_rep e1).1, e2])
      -- every cell, by its field
      have seg : ∀ f t, (U.tys n)[f]? = some t → (∀ v ∈ (cv.drop (offsetOf n f)).take t.size, v.oneCell' = true) ∧
          ∀ (j : Nat) (sv : SV) (v : Value), ((cs.drop (offsetOf n f)).take t.size)[j]? = some sv → ((cv.drop (offsetOf n f)).take t.size)[j]? = some v → RepSV (allow E w β) w β mem sv v := by
        intro f t ht; rw [hcv f t ht]
        cases hfp : findPart f parts.toList with
        | some v =>
          obtain ⟨sv, _, hrep, vs, e1, e2, e3⟩ := part f t v ht hfp; obtain ⟨c1, c2, c3⟩ := hrep.cells_rep e1; rw [e3]; exact ⟨c2, c3⟩
        | none =>
          have hz7 : (zs.drop (offsetOf n f)).take t.size = zeroCells 7 t := by
            have hl := hz.length; rw [hzs] at hl ⊢; (have hl : ((U.tys n).flatMap (zeroCells 7)).length = ((U.tys n).map Ty.size).sum := by rw [← U.sz_eq n]; simpa [zeroCells, fuel, Ty.size] using hl); exact zeroCells_seg (U.tys n) (zeroCells 7) (zeroCells_le 7) hl f t ht
          obtain ⟨vs, e1, e2, e3⟩ := k2 f t ht
          have hps : findPart f ps = none := by
            have h1 := hr f; rw [hfp] at h1
            cases hps : findPart f ps with
            | none => rfl
            | some sv => rw [hps] at h1; exact h1.elim
          simp only [Nat.zero_add, partCells, hps] at e1; obtain rfl := Option.some.inj e1; obtain ⟨c0, c1, c2⟩ := (zcells_rep (A := allow E w β) (w := w) (β := β) (mem := mem) 7 t).get; change (cs.drop (offsetOf n f)).take t.size = _ at e3; rw [e3]; simp only [hz7]; exact ⟨c1, c2⟩
      (have hcsl : cs.length = U.sz n := by rw [k1]; exact (U.sz_eq n).symm); refine StepGives.pure h ⟨_, hrun, .agg cs cv (by omega) ?_ ?_⟩
      · intro v hv; obtain ⟨k, hk, rfl⟩ := List.mem_iff_getElem.1 hv; obtain ⟨f, t, ht, p1, p2⟩ := place_of (n := n) (k := k) (by omega); refine (seg f t ht).1 _ ?_
        have : ((cv.drop (offsetOf n f)).take t.size)[k - offsetOf n f]? = some cv[k] := by
          rw [List.getElem?_take, if_pos (by omega), List.getElem?_drop, show offsetOf n f + (k - offsetOf n f) = k by omega, List.getElem?_eq_getElem hk]
        exact List.mem_of_getElem? this
      · intro k sv v hk hv; have hkl : k < cs.length := (List.getElem?_eq_some_iff.1 hk).1; obtain ⟨f, t, ht, p1, p2⟩ := place_of (n := n) (k := k) (by omega); refine (seg f t ht).2 (k - offsetOf n f) sv v ?_ ?_
        · rw [List.getElem?_take, if_pos (by omega), List.getElem?_drop, show offsetOf n f + (k - offsetOf n f) = k by omega]; exact hk
        · rw [List.getElem?_take, if_pos (by omega), List.getElem?_drop, show offsetOf n f + (k - offsetOf n f) = k by omega]; exact hv
    · simp [Rd.eval] at hs

theorem elem_ty {T : Nat} {t : Ty} (hT : C.elem T = some t) : C.ty T = some (.slice t) := by
  simp only [Ctx.elem] at hT; split at hT
  · rename_i u hu; obtain rfl := Option.some.inj hT; exact hu
  · simp at hT

theorem builtin_sound (h : SimB E N env mem a w β) (hty : CtxTy P C) {b : Builtin} {ats : List Nat} {type d : Nat} {vs : List SV} {xs : List Value} (hl : vs.length = xs.length)
    (hr : ∀ (i : Nat) (sv : SV) (v : Value), vs[i]? = some sv → xs[i]? = some v → RepSV (allow E w β) w β mem sv v) {r : Res} (hs : (stepBuiltin C d b ats vs).eval mem = some r) (hob : ∀ p ∈ r.ob, p) (cst : Array Bool) :
    ∃ y w' β', (builtin b ats.toArray type cst xs.toArray).run P w = .ok (.value y) w' ∧ SimB E N env (updm mem r.memw) a w' β' ∧ RepSV (allow E w' β') w' β' (updm mem r.memw) r.val y := by
  unfold stepBuiltin at hs; split at hs
  ·
    rename_i T v
    match xs, hl with
    | [x], _ =>
      split at hs
      · rename_i hlt; obtain ⟨n, hn, hs⟩ := Rd.bind_some hs; simp only [Rd.eval, Option.some.injEq] at hs; subst hs; have hx := hr 0 v x rfl rfl
        obtain ⟨u, hu, hm⟩ : ∃ u, C.ty T = some u ∧ lenFit u v := by
          cases v with
          | str s =>
            simp only [lenTy, beq_iff_eq] at hlt; exact ⟨.str, hlt, rfl⟩
          | _ =>
            simp only [lenTy] at hlt; obtain ⟨t, ht⟩ := Option.isSome_iff_exists.1 hlt; exact ⟨_, elem_ty ht, t, rfl⟩
        obtain ⟨e1, e2, e3⟩ := len_sound (P := P) (ty := type) hty hu hm hx hn h; refine ⟨_, w, β, ?_, h, .int _ _ ?_ ?_⟩
        · simp only [builtin, Sem.run_bind, e1, Result.andThen_ok, Sem.run_pure]
        · (have : IntKind.i64.min = -9223372036854775808 := by decide); omega
        · (have : IntKind.i64.max = 9223372036854775807 := by decide); unfold lim at e3; omega
      · split at hs
        · rename_i hmp; obtain ⟨e1, z, e2, e3⟩ := mapLen_sound (P := P) h hty hmp (hr 0 v x rfl rfl) hs hob; obtain ⟨rv, rm, ro⟩ := r; simp only at e1; subst e1; refine ⟨z, w, β, ?_, h, e3⟩; simp only [builtin, Sem.run_bind, e2, Result.andThen_ok, Sem.run_pure]
        · simp [Rd.eval] at hs
  ·
    rename_i T T' v y
    match xs, hl with
    | [x, z], _ =>
      split at hs
      · rename_i t hT; split at hs
        · rename_i hT'; split at hs
          · obtain ⟨q, w', β', e1, e2, e3⟩ := appendTr_gives (ty := type) h hty (elem_ty hT) hT' (hr 0 v x rfl rfl) (hr 1 y z rfl rfl) hs hob; exact ⟨q, w', β', by simp only [builtin, Sem.run_bind, e1, Result.andThen_ok, Sem.run_pure], e2, e3⟩
          obtain ⟨ys, hys, hs⟩ := Rd.bind_some hs; obtain ⟨q, w', β', e1, e2, e3⟩ := append_gives (ty := type) h hty (elem_ty hT) hT' (hr 0 v x rfl rfl) (hr 1 y z rfl rfl) hys hs hob; exact ⟨q, w', β', by simp only [builtin, Sem.run_bind, e1, Result.andThen_ok, Sem.run_pure], e2, e3⟩
        · obtain ⟨q, w', β', e1, e2, e3⟩ := appendZ_gives (ty := type) h hty (elem_ty hT) (hr 0 v x rfl rfl) (hr 1 y z rfl rfl) hs hob; exact ⟨q, w', β', by simp only [builtin, Sem.run_bind, e1, Result.andThen_ok, Sem.run_pure], e2, e3⟩
      · simp [Rd.eval] at hs
  ·
    rename_i T T' v y
    match xs, hl with
    | [x, z], _ =>
      split at hs
      · rename_i t hT; split at hs
        · obtain ⟨ys, hys, hs⟩ := Rd.bind_some hs; obtain ⟨q, w', β', e1, e2, e3⟩ := copy_gives (T' := T') (ty := type) h hty (elem_ty hT) (hr 0 v x rfl rfl) (hr 1 y z rfl rfl) hys hs hob; exact ⟨q, w', β', by simp only [builtin, Sem.run_bind, e1, Result.andThen_ok, Sem.run_pure], e2, e3⟩
        · simp [Rd.eval] at hs
      · simp [Rd.eval] at hs
  ·
    rename_i T
    match xs, hl with
    | [x], _ =>
      split at hs
      · rename_i ht; obtain ⟨t, ht⟩ := Option.isSome_iff_exists.1 ht; obtain ⟨e, hu, he⟩ := (hty T _ (elem_ty ht)).und; simp only [Rd.eval, Option.some.injEq] at hs; subst hs; have hx := hr 0 .nilsl x rfl rfl; cases hx; refine ⟨.int .i64 0, w, β, ?_, h, .int _ _ (by decide) (by decide)⟩; simp [builtin, Sem.run_bind, Builtin.cap_, run_underlying hu, goInt]
      · simp [Rd.eval] at hs
  ·
    rename_i v vs
    match xs, hl with
    | x :: xs, hl =>
      split at hs
      · rename_i q hq; simp only [Rd.eval, Option.some.injEq] at hs; subst hs; obtain ⟨z, hz, hzr⟩ := minsSV_rep (P := P) (mx := false) (by simpa using hl) (fun i sv v hi hj => hr (i + 1) sv v (by simpa using hi) (by simpa using hj)) (hr 0 v x rfl rfl) hq; refine ⟨z, w, β, ?_, h, hzr⟩; simp only [builtin, Sem.run_bind, Builtin.min_]; simp only [Bool.false_eq_true, if_false] at hz; rw [hz]; rfl
      · simp [Rd.eval] at hs
  ·
    rename_i v vs
    match xs, hl with
    | x :: xs, hl =>
      split at hs
      · rename_i q hq; simp only [Rd.eval, Option.some.injEq] at hs; subst hs; obtain ⟨z, hz, hzr⟩ := minsSV_rep (P := P) (mx := true) (by simpa using hl) (fun i sv v hi hj => hr (i + 1) sv v (by simpa using hi) (by simpa using hj)) (hr 0 v x rfl rfl) hq; refine ⟨z, w, β, ?_, h, hzr⟩; simp only [builtin, Sem.run_bind, Builtin.max_]; simp only [if_true] at hz; rw [hz]; rfl
      · simp [Rd.eval] at hs
  · simp [Rd.eval] at hs

theorem aggCells_rep {A : Nat → Prop} {sv : SV} {v : Value} {l : List SV} (hr : RepSV A w β mem sv v) (h : sv.aggCells = some l) :
    ∃ xs : Array Value, v = .agg xs ∧ ∀ (i : Nat) (sv : SV), l[i]? = some sv → ∃ u, xs[i]? = some u ∧ RepSV A w β mem sv u := by
  have fin : ∀ (xs : Array Value), v = .agg xs → l.length = v.cells.size → (∀ (i : Nat) (sv : SV) (u : Value), l[i]? = some sv → v.cells.toList[i]? = some u → RepSV A w β mem sv u) →
      ∃ xs : Array Value, v = .agg xs ∧ ∀ (i : Nat) (sv : SV), l[i]? = some sv → ∃ u, xs[i]? = some u ∧ RepSV A w β mem sv u := by
    rintro xs rfl h1 h2; refine ⟨xs, rfl, fun i sv hi => ?_⟩
    have hil : i < xs.size := by
      have := (List.getElem?_eq_some_iff.1 hi).1; simp only [Value.cells] at h1; omega
    exact ⟨xs[i], by simp [hil], h2 i sv _ hi (by simp [Value.cells, hil])⟩
  cases hr with
  | agg l' vs hl h1 h2 =>
    simp only [SV.aggCells, Option.some.injEq] at h; subst h; exact fin _ rfl (by simpa [Value.cells] using hl) (fun i sv u hi hj => h2 i sv u hi (by simpa [Value.cells] using hj))
  | data t x v hv =>
    cases t with
    | named n =>
      have hc := (RepSV.data (A := A) (w := w) (β := β) (mem := mem) (.named n) x v hv).cells_rep (l := l) (by simpa [SV.cells, SV.aggCells] using h)
      cases hv with
      | agg _ _ cs hcs => exact fin _ rfl hc.1 hc.2.2
      | one _ _ _ ht _ => exact absurd rfl (ht n)
    | _ => simp [SV.aggCells] at h
  | _ => simp [SV.aggCells] at h

theorem eqFields_run {A : Nat → Prop} (hty : CtxTy P C) {xs ys : Array Value} {d : Nat} : ∀ (ts : List Ty) (fs : List Field) (k : Nat) (l l' : List SV) (b : Bool), eqCells ts l l' = some b → fs.length = ts.length →
    (∀ (j : Nat) (t : Ty), ts[j]? = some t → ∃ fd, fs[j]? = some fd ∧ C.ty fd.type = some t ∧ fd.offset = k + j) → (fs.all fun f => f.name != "_") = true →
    (∀ (i : Nat) (sv : SV), l[i]? = some sv → ∃ u, xs[k + i]? = some u ∧ RepSV A w β mem sv u) → (∀ (i : Nat) (sv : SV), l'[i]? = some sv → ∃ u, ys[k + i]? = some u ∧ RepSV A w β mem sv u) →
    (Op.eqFields (d + 1) xs ys fs).run P w = .ok b w := by
  intro ts
  induction ts with
  | nil =>
    intro fs k l l' b he hl _ _ _ _
    cases fs with
    | nil =>
      cases l with
      | nil =>
        cases l' with
        | nil =>
          simp only [eqCells, Option.some.injEq] at he; subst he; rfl
        | cons => simp [eqCells] at he
      | cons => simp [eqCells] at he
    | cons => simp at hl
  | cons t ts ih =>
    intro fs k l l' b he hl hf hn hx hy
    cases fs with
    | nil => simp at hl
    | cons f fs =>
      obtain ⟨fd, e1, e2, e3⟩ := hf 0 t rfl; (obtain rfl : f = fd := by simpa using e1); simp only [List.all_cons, Bool.and_eq_true] at hn; (have hname : f.name ≠ "_" := by simpa using hn.1); have hT := hty f.type t e2
      have step : ∀ {u v : Value} {r : Bool} {l1 l2 : List SV}, xs[k]? = some u → ys[k]? = some v → t.isNamed = false → (Op.equalIn (d + 1) f.type u v).run P w = .ok r w →
          eqCells ts l1 l2 = some b ∨ r = false → (∀ (i : Nat) (sv : SV), l1[i]? = some sv → ∃ u, xs[k + 1 + i]? = some u ∧ RepSV A w β mem sv u) → (∀ (i : Nat) (sv : SV), l2[i]? = some sv → ∃ u, ys[k + 1 + i]? = some u ∧ RepSV A w β mem sv u) →
          (r = false → b = false) → (Op.eqFields (d + 1) xs ys (f :: fs)).run P w = .ok b w := by
        intro u v r l1 l2 hu hv hnm hr hrest h1 h2 hb
        have hp : ∀ (cs : Array Value) (u : Value), cs[k]? = some u → (part f.type cs f.offset).run P w = .ok u w := by
          intro cs u hu; rw [e3, Nat.add_zero]; simp only [part, Sem.run_bind, hT.isAgg, hnm, Result.andThen_ok, Bool.false_eq_true, if_false, hu, Sem.run_pure]
        simp only [Op.eqFields, if_pos hname, Sem.run_bind, hp xs u hu, hp ys v hv, Result.andThen_ok, hr]
        cases r with
        | false =>
          rw [hb rfl]; rfl
        | true =>
          simp only [Bool.not_true, Bool.false_eq_true, if_false]; have hrest : eqCells ts l1 l2 = some b := hrest.resolve_right (by simp)
          exact ih fs (k + 1) l1 l2 b hrest (by simpa using hl) (fun j u hj => by
            obtain ⟨fd, a1, a2, a3⟩ := hf (j + 1) u (by simpa using hj)
            exact ⟨fd, by simpa using a1, a2, by omega⟩) hn.2 h1 h2
      have shift : ∀ {zs : Array Value} {s : SV} {r : List SV}, (∀ (i : Nat) (sv : SV), (s :: r)[i]? = some sv → ∃ u, zs[k + i]? = some u ∧ RepSV A w β mem sv u) →
          ∀ (i : Nat) (sv : SV), r[i]? = some sv → ∃ u, zs[k + 1 + i]? = some u ∧ RepSV A w β mem sv u := by
        intro zs s r h i sv hi; have := h (i + 1) sv (by simpa using hi)
        rwa [show k + (i + 1) = k + 1 + i by omega] at this
      cases t with
      | int K =>
        match l, l', he, hx, hy with
        | .int k1 a :: r1, .int k2 c :: r2, he, hx, hy =>
          simp only [eqCells] at he; split at he
          · rename_i r hr; split at he
            rotate_left
            · simp at he
            rename_i hkk; subst hkk; obtain ⟨u, hu, hur⟩ := hx 0 _ rfl; obtain ⟨v, hv, hvr⟩ := hy 0 _ rfl; obtain ⟨rfl, _⟩ := hur.int_inv; obtain ⟨rfl, _⟩ := hvr.int_inv; obtain rfl := Option.some.inj he; refine step hu hv rfl (run_equalIn_int w d f.type _ K a c hT.und) ?_ (shift hx) (shift hy) (fun h => by rw [h]; rfl)
            cases hac : (a == c) with
            | true => exact .inl hr
            | false => exact .inr rfl
          · simp at he
        | [], _, he, _, _ => simp [eqCells] at he
      | bool =>
        match l, l', he, hx, hy with
        | .bool a :: r1, .bool c :: r2, he, hx, hy =>
          simp only [eqCells] at he; split at he
          · rename_i r hr; obtain ⟨u, hu, hur⟩ := hx 0 _ rfl; obtain ⟨v, hv, hvr⟩ := hy 0 _ rfl; obtain rfl := hur.bool_inv; obtain rfl := hvr.bool_inv; obtain rfl := Option.some.inj he; refine step hu hv rfl (run_equalIn_bool' w d f.type a c hT.und) ?_ (shift hx) (shift hy) (fun h => by rw [h]; rfl)
            cases hac : (a == c) with
            | true => exact .inl hr
            | false => exact .inr rfl
          · simp at he
        | [], _, he, _, _ => simp [eqCells] at he
      | _ => simp [eqCells] at he

theorem eqCells_sizes : ∀ {ts : List Ty} {l l' : List SV} {b : Bool}, eqCells ts l l' = some b → ∀ t ∈ ts, t.size = 1 := by
  intro ts
  induction ts with
  | nil => intro l l' b _ t ht; cases ht
  | cons u ts ih =>
    intro l l' b h t ht
    cases u with
    | int K =>
      match l, l', h with
      | .int k1 a :: r1, .int k2 c :: r2, h =>
        simp only [eqCells] at h; split at h
        · rename_i r hr; rcases List.mem_cons.1 ht with rfl | ht
          · rfl
          · exact ih hr t ht
        · simp at h
      | [], _, h => simp [eqCells] at h
    | bool =>
      match l, l', h with
      | .bool a :: r1, .bool c :: r2, h =>
        simp only [eqCells] at h; split at h
        · rename_i r hr; rcases List.mem_cons.1 ht with rfl | ht
          · rfl
          · exact ih hr t ht
        · simp at h
      | [], _, h => simp [eqCells] at h
    | _ => simp [eqCells] at h

theorem equal_struct {A : Nat → Prop} (hty : CtxTy P C) {T n : Nat} (hT : C.ty T = some (.named n)) (hc : U.cmp n = true) {xs ys : Array Value} {l l' : List SV} {b : Bool} (he : eqCells (U.tys n) l l' = some b)
    (hx : ∀ (i : Nat) (sv : SV), l[i]? = some sv → ∃ u, xs[i]? = some u ∧ RepSV A w β mem sv u) (hy : ∀ (i : Nat) (sv : SV), l'[i]? = some sv → ∃ u, ys[i]? = some u ∧ RepSV A w β mem sv u) :
    (Op.equalIn 10000 T (.agg xs) (.agg ys)).run P w = .ok b w ∧ P.eqGuardType P.depth T = false := by
  have hte := hty T _ hT; obtain ⟨fs, hu, hfl, hfs⟩ := hte.und; obtain ⟨h1, h2, h3⟩ := hte.eqs hc; (have hfo : P.fieldsOf T = fs := by simp [Program.fieldsOf, hu]); rw [hfo] at h3; refine ⟨?_, h2⟩; rw [run_equalIn_struct w 9999 T xs ys (by rw [hfo]; exact hu) h1, hfo]; have hsz := eqCells_sizes he; refine eqFields_run hty (d := 9998) (U.tys n) fs.toList 0 l l' b he (by simpa using hfl) (fun j t hj => ?_) h3 (fun i sv hi => by rw [Nat.zero_add]; exact hx i sv hi) (fun i sv hi => by rw [Nat.zero_add]; exact hy i sv hi); obtain ⟨fd, a1, a2, a3⟩ := hfs j t hj; refine ⟨fd, by simpa using a1, a2, ?_⟩; rw [a3, Nat.zero_add, offsetOf]; have hjl : j < (U.tys n).length := (List.getElem?_eq_some_iff.1 hj).1
  have : ∀ (ts : List Ty), (∀ t ∈ ts, t.size = 1) → (ts.map Ty.size).sum = ts.length := by
    intro ts
    induction ts with
    | nil => intro _; rfl
    | cons u ts ih =>
      intro h; simp only [List.map_cons, List.sum_cons, List.length_cons, h u (by simp), ih fun t ht => h t (by simp [ht])]; omega
  rw [this _ fun t ht => hsz t (List.mem_of_mem_take ht), List.length_take]; omega

def isCall : Op → Bool
  | .call { callee := .value _, .. } => true
  | .call { callee := .invoke _ _, .. } => true
  | _ => false

set_option maxHeartbeats 1000000 in
theorem stepOp_sound (h : SimB E N env mem a w β) (hty : CtxTy P C) {wr : Bool} {d : Nat} {o : Oper} {r : Res} (hs : (stepOp C wr env d o.op).eval mem = some r) (hob : ∀ p ∈ r.ob, p) (hnc : isCall o.op = false) :
    StepGives P E N env mem a (execOp a.eval o) w r := by
  obtain ⟨dst, op, type, pos, after, guard⟩ := o; simp only at hs hnc
  have mv : ∀ (x : Operand), (let (v, ps) := opv env x; v.force fun v => Rd.ret { val := v, ob := ps : Res }).eval mem = some r → StepGives P E N env mem a (pure (.value (a.eval x))) w r := by
    intro x hs; generalize hx : opv env x = vx at hs; obtain ⟨v, ps⟩ := vx; simp only [force_eq, Rd.eval, Option.some.injEq] at hs; subst hs; exact ⟨_, _, w, β, rfl, .inl rfl, h, opv_rep h hx hob⟩
  cases op with
  | move x => exact mv x hs
  | assign x => exact mv x hs
  | pick c x y =>
    simp only [stepOp] at hs; generalize hc : opv env c = vc at hs; generalize hx : opv env x = vx at hs; generalize hy : opv env y = vy at hs; obtain ⟨c', ps⟩ := vc; obtain ⟨x', qs⟩ := vx; obtain ⟨y', rs⟩ := vy
    cases c' with
    | bool b =>
      have fin : ∀ {v : Value} {z : Bool} {ob : List Prop}, (execOp a.eval ⟨dst, .pick c x y, type, pos, after, guard⟩).run P w = .ok (.value v) w → v = .bool z →
          StepGives P E N env mem a (execOp a.eval ⟨dst, .pick c x y, type, pos, after, guard⟩) w { val := .bool z, ob := ob } := by
        rintro v z ob hv rfl; exact ⟨_, _, w, β, hv, .inl rfl, h, .bool _⟩
      have left : ∀ {bx : Bool}, x' = .bool bx → (∀ p ∈ ps, p) → (∀ p ∈ qs, p) → b = true → (execOp a.eval ⟨dst, .pick c x y, type, pos, after, guard⟩).run P w = .ok (.value (.bool bx)) w := by
        rintro bx rfl h1 h2 rfl; have hcv := (opv_rep h hc h1).bool_inv; have hxv := (opv_rep h hx h2).bool_inv; simp [execOp, hcv, asBool, hxv]
      have right : ∀ {bY : Bool}, y' = .bool bY → (∀ p ∈ ps, p) → (∀ p ∈ rs, p) → b = false → (execOp a.eval ⟨dst, .pick c x y, type, pos, after, guard⟩).run P w = .ok (.value (.bool bY)) w := by
        rintro bY rfl h1 h2 rfl; have hcv := (opv_rep h hc h1).bool_inv; have hyv := (opv_rep h hy h2).bool_inv; simp [execOp, hcv, asBool, hyv]
      have one : ∀ {bx : Bool}, x' = .bool bx → some r = some { val := .bool bx, ob := ps ++ [b = true] ++ qs } → StepGives P E N env mem a (execOp a.eval ⟨dst, .pick c x y, type, pos, after, guard⟩) w r := by
        intro bx e1 e2; cases e2; exact fin (left e1 (fun p hp => hob p (by simp [hp])) (fun p hp => hob p (by simp [hp])) (hob _ (by simp))) rfl
      have two : ∀ {bY : Bool}, y' = .bool bY → some r = some { val := .bool bY, ob := ps ++ [b = false] ++ rs } → StepGives P E N env mem a (execOp a.eval ⟨dst, .pick c x y, type, pos, after, guard⟩) w r := by
        intro bY e1 e2; cases e2; exact fin (right e1 (fun p hp => hob p (by simp [hp])) (fun p hp => hob p (by simp [hp])) (hob _ (by simp))) rfl
      cases x' with
      | bool bx =>
        cases y' with
        | bool bY =>
          simp only [Rd.eval, Option.some.injEq] at hs; subst hs
          cases b with
          | true =>
            exact fin (left rfl (fun p hp => hob p (by simp [hp])) (fun p hp => by
              have := hob (true = true → p) (by simp only [List.mem_append, List.mem_map]; exact .inl (.inr ⟨p, hp, rfl⟩))
              exact this rfl) rfl) rfl
          | false =>
            exact fin (right rfl (fun p hp => hob p (by simp [hp])) (fun p hp => by
              have := hob (false = false → p) (by simp only [List.mem_append, List.mem_map]; exact .inr ⟨p, hp, rfl⟩)
              exact this rfl) rfl) rfl
        | _ => exact one rfl (by simpa [Rd.eval, eq_comm] using hs)
      | _ =>
        cases y' with
        | bool bY => exact two rfl (by simpa [Rd.eval, eq_comm] using hs)
        | _ => simp [Rd.eval] at hs
    | _ => simp [Rd.eval] at hs
  | alloc T =>
    simp only [stepOp] at hs; split at hs
    · rename_i t ht; obtain ⟨ep, hep, hs⟩ := Rd.bind_some hs; simp only [Rd.eval, Option.some.injEq] at hs; subst hs; exact StepGives.gives (alloc_gives h (hty T t ht) hep)
    · split at hs
      · rename_i e n hf; split at hs
        · rename_i t ht; obtain ⟨ep, hep, hs⟩ := Rd.bind_some hs; simp only [Rd.eval, Option.some.injEq] at hs; subst hs; exact StepGives.gives (allocArr_gives h ht (hty e t ht) ((hty e t ht).arrs T n hf) hep)
        · simp [Rd.eval] at hs
      · simp [Rd.eval] at hs
  | box T x =>
    simp only [stepOp] at hs; generalize hx : opv env x = vx at hs; obtain ⟨v, ps⟩ := vx
    cases ht : C.ty T with
    | none =>
      rw [ht] at hs; simp only at hs; split at hs
      · rename_i c hcs; split at hs
        · obtain ⟨ep, hep, hs⟩ := Rd.bind_some hs; simp only [Rd.eval, Option.some.injEq] at hs; subst hs; exact StepGives.gives (box_gives h (opv_rep h hx hob) hcs hep)
        · simp [Rd.eval] at hs
      · simp [Rd.eval] at hs
    | some t =>
      rw [ht] at hs; simp only at hs; split at hs
      · rename_i cs hcs; split at hs
        · obtain ⟨ep, hep, hs⟩ := Rd.bind_some hs; simp only [Rd.eval, Option.some.injEq] at hs; subst hs; exact StepGives.gives (box_gives h (opv_rep h hx hob) hcs hep)
        · simp [Rd.eval] at hs
      · simp [Rd.eval] at hs
  | build T parts =>
    simp only [stepOp] at hs; split at hs
    · rename_i n hT; split at hs
      · rename_i hemp; simp only [Bool.and_eq_true, List.isEmpty_iff] at hemp; simp only [Rd.eval, Option.some.injEq] at hs; subst hs; (have hnil : (parts.map fun p => (p.1, a.eval p.2)).toList = [] := by simp [hemp.1]); obtain ⟨cv, zs, hrun, hcl, hz, _, hzero, _⟩ := run_build_fields h hty hT (parts := parts.map fun p => (p.1, a.eval p.2)) (by rw [hnil]; rfl) (by rw [hnil]; simp); obtain ⟨k1, k0, k2⟩ := (zcells_rep (A := allow E w β) (w := w) (β := β) (mem := mem) fuel (.named n)).get; rw [← hzero hnil] at k1 k0 k2; exact StepGives.pure h ⟨_, hrun, .agg _ cv k1 k0 k2⟩
      generalize hp : partsOf env parts.toList = pp at hs; obtain ⟨ps, ob⟩ := pp; simp only at hs; split at hs
      · simp [Rd.eval] at hs
      · rename_i hin; have hin : inOrder (U.tys n).length 0 (ps.map (·.1)) = true := by simpa using hin
        have hob' : ∀ p ∈ ob, p := by
          split at hs
          · obtain ⟨tvs, _, hs⟩ := Rd.bind_some hs; simp only [Rd.eval, Option.some.injEq] at hs; subst hs; exact hob
          · split at hs
            · simp only [Rd.eval, Option.some.injEq] at hs; subst hs; exact hob
            · simp [Rd.eval] at hs
        obtain ⟨k1, k2⟩ := partsOf_rep h parts.toList hp hob'; (have hpt : (parts.map fun p => (p.1, a.eval p.2)).toList = parts.toList.map fun p => (p.1, a.eval p.2) := by simp); (have hmap : ((parts.map fun p => (p.1, a.eval p.2)).toList.map (·.1)) = ps.map (·.1) := by rw [hpt, k1]; simp); exact build_sound h hty hT hin hmap (by rw [hpt]; exact k2) hs hob
    · simp [Rd.eval] at hs
  | buildSlice T len parts =>
    simp only [stepOp] at hs; split at hs
    · rename_i t hT
      have hT' : C.ty T = some (.slice t) := by
        simp only [Ctx.elem] at hT; split at hT
        · rename_i u hu; obtain rfl := Option.some.inj hT; exact hu
        · simp at hT
      generalize hp : partsOf env parts.toList = pp at hs; obtain ⟨ps, ob⟩ := pp; simp only at hs; split at hs
      · rename_i id i cs j ds hel; obtain rfl := elPair_some hel; exact StepGives.gives (m := r.memw) (ob := r.ob) (takePair_gives h hty hT' hp hs hob)
      split at hs
      · rename_i hl; split at hs
        · rename_i hcond; obtain ⟨c1, c2, c3⟩ := hcond; obtain ⟨ep, hep, hs⟩ := Rd.bind_some hs; simp only [Rd.eval, Option.some.injEq] at hs; subst hs; simp only [Bool.and_eq_true] at hl; obtain ⟨vs, e1, e2, e3⟩ := oneAll_sound h parts.toList 0 hp hob hl.2; refine StepGives.gives (m := [(d * 4, .box ep (ps.map (·.2)))]) ?_; exact buildSliceB_gives (P := P) h hty hT' c3 e1 (by rw [e2, List.length_map]) e3 (by omega) c2 hep
        · simp [Rd.eval] at hs
      split at hs
      · split at hs
        · rename_i hcond; obtain ⟨c1, c2, c3, c4⟩ := hcond; (have c4 : d * 4 ∉ ps.flatMap fun p => lentIds fuel p.2 := by simpa using c4); obtain ⟨xs, hxs, hs⟩ := Rd.bind_some hs; obtain ⟨ks, hks, hs⟩ := Rd.bind_some hs; obtain ⟨ep, hep, hs⟩ := Rd.bind_some hs; simp only [Rd.eval, Option.some.injEq] at hs; subst hs; obtain ⟨vs, T', e1, e2, e3, e4, e5, e6⟩ := buildOwned_sound h parts.toList 0 hp hob (nodupN_nodup c3) hxs; refine StepGives.gives (m := ks ++ [(d * 4, .tree ep t xs)]) ?_; exact buildSliceT_gives (P := P) h hty hT' e1 e2 e4 e5 c3 hks c4 e6 (by omega) c2 hep
        · simp [Rd.eval] at hs
      split at hs
      · rename_i hcond; obtain ⟨c1, c2, c3, c4⟩ := hcond; (have c4 : d * 4 ∉ ps.flatMap fun p => lentIds fuel p.2 := by simpa using c4); obtain ⟨xs, hxs, hs⟩ := Rd.bind_some hs; obtain ⟨ks, hks, hs⟩ := Rd.bind_some hs; obtain ⟨ep, hep, hs⟩ := Rd.bind_some hs; simp only [Rd.eval, Option.some.injEq] at hs; subst hs; obtain ⟨β2, h2, hA2, hid2, hsame, _⟩ := h.kill _ c3 hks; obtain ⟨vs, e1, e2, e3, e4⟩ := buildElems_sound h hA2 parts.toList 0 hp hob (fun p hp id hid b hb => hid2 id (by simp only [List.mem_flatMap]; exact ⟨p, hp, hid⟩) b hb) hxs
        have hep2 : (freshEp (d * 4)).eval (updm mem ks) = some ep := by
          exact (freshEp_congr (hsame _ c4).2).trans hep
        have := buildSlice_gives (P := P) h2 hty hT' e1 e2 e4 (by omega) c2 hep2; refine StepGives.gives (m := ks ++ [(d * 4, .arr ep t xs)]) ?_; rw [updm_append]
        exact this
      · simp [Rd.eval] at hs
    · simp [Rd.eval] at hs
  | load T x =>
    simp only [stepOp] at hs; generalize hx : opv env x = vx at hs; obtain ⟨v, ps⟩ := vx
    cases ht : C.ty T with
    | none =>
      rw [ht] at hs; simp only at hs; split at hs
      · rename_i T' hf; split at hs
        · rename_i t' ht'; obtain ⟨y, hy, hs⟩ := Rd.bind_some hs; simp only [force_eq, Rd.eval, Option.some.injEq] at hs; subst hs; obtain ⟨X, hu⟩ := (hty T' t' ht').ptrs T hf; exact StepGives.pure h (load_sound (t := .bool) h (loadVar_ptr hu) (opv_rep h hx hob) hy)
        · simp [Rd.eval] at hs
      · simp [Rd.eval] at hs
    | some t =>
      rw [ht] at hs; simp only at hs; have ho := loadRes_ob hs; exact StepGives.gives (m := r.memw) (ob := r.ob) (loadRes_gives h (hty T t ht).loadVar (opv_rep h hx (by rw [ho] at hob; exact hob)) hs)
  | store T x y =>
    simp only [stepOp] at hs; generalize hx : opv env x = vx at hs; generalize hy : opv env y = vy at hs; obtain ⟨v, ps⟩ := vx; obtain ⟨u, qs⟩ := vy
    cases ht : C.ty T with
    | none => rw [ht] at hs; simp [Rd.eval] at hs
    | some t =>
      rw [ht] at hs; simp only at hs; obtain ⟨m, hm, hs⟩ := Rd.bind_some hs; simp only [Rd.eval, Option.some.injEq] at hs; subst hs; obtain ⟨w', β', hr, hs⟩ := store_gives h (hty T t ht) (opv_rep h hx (fun p hp => hob p (by simp [hp]))) (opv_rep h hy (fun p hp => hob p (by simp [hp]))) hm; exact ⟨.skip, undef, w', β', by simp [execOp, hr], .inr ⟨rfl, rfl⟩, hs, .top _⟩
  | nilCheck x =>
    simp only [stepOp] at hs; generalize hx : opv env x = vx at hs; obtain ⟨v, ps⟩ := vx
    cases v with
    | ref i e o =>
      simp only [Rd.eval, Option.some.injEq] at hs; subst hs; have hr := opv_rep h hx hob; refine ⟨.value (a.eval x), a.eval x, w, β, ?_, .inl rfl, h, hr⟩; simp only [execOp]; generalize a.eval x = v at hr; cases hr; rfl
    | eref i e o q =>
      simp only [Rd.eval, Option.some.injEq] at hs; subst hs; have hr := opv_rep h hx hob; refine ⟨.value (a.eval x), a.eval x, w, β, ?_, .inl rfl, h, hr⟩; simp only [execOp]; generalize a.eval x = v at hr; cases hr; rfl
    | tref i e o q =>
      simp only [Rd.eval, Option.some.injEq] at hs; subst hs; have hr := opv_rep h hx hob; refine ⟨.value (a.eval x), a.eval x, w, β, ?_, .inl rfl, h, hr⟩; simp only [execOp]; generalize a.eval x = v at hr; cases hr; rfl
    | dref t y =>
      simp only [Rd.eval, Option.some.injEq] at hs; subst hs; have hr := opv_rep h hx hob; refine ⟨.value (a.eval x), a.eval x, w, β, ?_, .inl rfl, h, hr⟩; simp only [execOp]; generalize a.eval x = v at hr; cases hr; rfl
    | clo f l =>
      simp only [Rd.eval, Option.some.injEq] at hs; subst hs; have hr := opv_rep h hx hob; refine ⟨.value (a.eval x), a.eval x, w, β, ?_, .inl rfl, h, hr⟩; simp only [execOp]; generalize a.eval x = v at hr; cases hr; rfl
    | _ => simp [Rd.eval] at hs
  | binOp op T x y T' =>
    simp only [stepOp] at hs; generalize hx : opv env x = vx at hs; generalize hy : opv env y = vy at hs; obtain ⟨v, ps⟩ := vx; obtain ⟨u, qs⟩ := vy; simp only at hs; split at hs
    · rename_i q ob hb; simp only [Rd.eval, Option.some.injEq] at hs; subst hs; have hxr := opv_rep h hx (fun p hp => hob p (by simp [hp])); have hyr := opv_rep h hy (fun p hp => hob p (by simp [hp]))
      cases v with
      | int k n =>
        cases u with
        | int k' n' =>
          obtain ⟨ex, hin⟩ := hxr.int_inv; obtain ⟨ey, _⟩ := hyr.int_inv; obtain ⟨z, hz, hzr⟩ := intBin_rep (P := P) (w := w) (A := allow E w β) (β := β) (mem := mem) T hb (fun p hp => hob p (by simp [hp])) hin.1 hin.2; refine StepGives.pure h (s := do eqGuard op T x y (a.eval x) (a.eval y); binOp op T (a.eval x) (a.eval y)) ⟨z, ?_, hzr⟩; rw [ex, ey, eqGuard_at_int]; simpa using hz
        | _ => simp [binSV] at hb
      | str s =>
        cases u with
        | str s' =>
          have ex := hxr.str_inv; have ey := hyr.str_inv; rw [binSV] at hb; refine StepGives.pure h (s := do eqGuard op T x y (a.eval x) (a.eval y); binOp op T (a.eval x) (a.eval y)) ?_; rw [ex, ey, eqGuard_at_string]; cases op <;> simp only [strBin, Option.some.injEq, Prod.mk.injEq, reduceCtorEq] at hb
          · obtain ⟨rfl, rfl⟩ := hb; have hl := hob (((s.size + s'.size : Nat) : Int) ≤ lim) (by simp); (have hl' : s.size + s'.size ≤ 9223372036854775807 := by simp only [lim] at hl; omega); refine ⟨.string (s ++ s'), ?_, .str _ (by rw [ByteArray.size_append]; exact hl)⟩; rw [binOp_string_add]; simpa using run_string_add_sum (P := P) w s s' hl'
          · obtain ⟨rfl, rfl⟩ := hb; exact ⟨.bool (seq s s'), by rw [binOp_string_eql]; simp [seq], .bool _⟩
          · obtain ⟨rfl, rfl⟩ := hb; exact ⟨.bool (!(seq s s')), by rw [binOp_string_neq]; simp [seq], .bool _⟩
        | _ => simp [binSV] at hb
      | _ => simp [binSV] at hb
    · rename_i hbn
      have key : ∀ {t : Ty} {neg : Bool} {q : SV}, C.ty T = some t → eqSV t neg v u = some q → (op = if neg then .neq else .eql) → r = { val := q, ob := ps ++ qs } →
          StepGives P E N env mem a (execOp a.eval ⟨dst, .binOp op T x y T', type, pos, after, guard⟩) w r := by
        rintro t neg q hT hq hop rfl; have hxr := opv_rep h hx (fun p hp => hob p (by simp [hp])); have hyr := opv_rep h hy (fun p hp => hob p (by simp [hp]))
        cases t with
        | bool =>
          cases v with
          | bool b =>
            cases u with
            | bool b' =>
              simp only [eqSV, Option.some.injEq] at hq; subst hq; have hu := (hty T _ hT).und; refine StepGives.pure h (s := do eqGuard op T x y (a.eval x) (a.eval y); binOp op T (a.eval x) (a.eval y)) ⟨.bool (bif neg then b != b' else b == b'), ?_, .bool _⟩; rw [hxr.bool_inv, hyr.bool_inv, eqGuard_at_bool, hop]
              cases neg with
              | true =>
                have e : binOp .neq T (.bool b) (.bool b') = (do pure (.bool (!(← Op.equal T (.bool b) (.bool b'))))) := rfl; simp only [if_true, e, Sem.run_bind, run_equal_bool hu, Result.andThen_ok, Sem.run_pure, cond_true, bne]
              | false =>
                have e : binOp .eql T (.bool b) (.bool b') = (do pure (.bool (← Op.equal T (.bool b) (.bool b')))) := rfl; simp only [Bool.false_eq_true, if_false, e, Sem.run_bind, run_equal_bool hu, Result.andThen_ok, Sem.run_pure, cond_false]
            | _ => simp [eqSV] at hq
          | _ => simp [eqSV] at hq
        | named n =>
          simp only [eqSV] at hq; split at hq
          · rename_i l l' hl hl'
            cases hc : U.cmp n with
            | false => rw [hc] at hq; simp at hq
            | true =>
              rw [hc, cond_true] at hq; split at hq
              · rename_i b hb; obtain rfl := Option.some.inj hq; obtain ⟨xs, ex, hxs⟩ := aggCells_rep hxr hl; obtain ⟨ys, ey, hys⟩ := aggCells_rep hyr hl'; obtain ⟨hrun, hg⟩ := equal_struct hty hT hc hb hxs hys; refine StepGives.pure h (s := do eqGuard op T x y (a.eval x) (a.eval y); binOp op T (a.eval x) (a.eval y)) ⟨.bool (bif neg then !b else b), ?_, .bool _⟩; rw [ex, ey]; simp only [Sem.run_bind, run_eqGuard_agg w op T x y xs ys hg, Result.andThen_ok]
                cases neg with
                | true => rw [hop, if_pos rfl, run_neq_struct, hrun]; rfl
                | false => rw [hop, if_neg (by simp), run_eql_struct, hrun]; rfl
              · simp at hq
          · simp at hq
        | _ => simp [eqSV] at hq
      split at hs
      · rename_i t hT; split at hs
        · rename_i q hq; simp only [Rd.eval, Option.some.injEq] at hs; exact key hT hq rfl hs.symm
        · simp [Rd.eval] at hs
      · rename_i t hT; split at hs
        · rename_i q hq; simp only [Rd.eval, Option.some.injEq] at hs; exact key hT hq rfl hs.symm
        · simp [Rd.eval] at hs
      · unfold errNeq at hs; split at hs
        · rename_i _ _ T' b hf; split at hs
          · rename_i t' ht'; simp only [Rd.eval, Option.some.injEq] at hs; subst hs; obtain ⟨X, hu⟩ := (hty T' t' ht').ifcs T hf; have hxr := opv_rep h hx (fun p hp => hob p (by simp [hp])); refine StepGives.pure h (s := do eqGuard .neq T x (.const .nilIface) (a.eval x) (a.eval (.const .nilIface)); binOp .neq T (a.eval x) (a.eval (.const .nilIface))) ?_; generalize a.eval x = vx at hxr
            cases hxr with
            | err0 =>
              refine ⟨.bool false, ?_, .bool _⟩; show Sem.run P (do eqGuard .neq T x (.const .nilIface) .nilIface .nilIface; binOp .neq T .nilIface .nilIface) w = _; rw [eqGuard_nil_constR]; have e : binOp .neq T .nilIface .nilIface = (do pure (.bool (!(← Op.equal T .nilIface .nilIface)))) := rfl; rw [e]; simp only [Sem.run_bind, Sem.run_pure, Result.andThen_ok, run_equal_nil hu, Bool.not_true]
            | err1 D z =>
              refine ⟨.bool true, ?_, .bool _⟩; show Sem.run P (do eqGuard .neq T x (.const .nilIface) (.iface D z) .nilIface; binOp .neq T (.iface D z) .nilIface) w = _; rw [eqGuard_at_iface]; have e : binOp .neq T (.iface D z) .nilIface = (do pure (.bool (!(← Op.equal T (.iface D z) .nilIface)))) := rfl; rw [e]; simp only [Sem.run_bind, Sem.run_pure, Result.andThen_ok, run_equal_if hu, Bool.not_false]
          · simp [Rd.eval] at hs
        · simp [Rd.eval] at hs
      · simp [Rd.eval] at hs
  | unOp op T x =>
    simp only [stepOp] at hs; generalize hx : opv env x = vx at hs; obtain ⟨v, ps⟩ := vx; simp only [Rd.withOb] at hs; obtain ⟨r', hr', hs⟩ := Rd.bind_some hs; simp only [Rd.eval, Option.some.injEq] at hs; subst hs
    cases hu : unSV wr op v with
    | none => rw [hu] at hr'; simp [ofOpt, Rd.eval] at hr'
    | some q =>
      obtain ⟨q, ob⟩ := q; rw [hu] at hr'; simp only [ofOpt, Rd.eval, Option.some.injEq] at hr'; subst hr'; have hxr := opv_rep h hx (fun p hp => hob p (by simp [hp])); refine StepGives.pure h (s := Op.unary op (a.eval x)) ?_
      cases v with
      | bool b =>
        (cases op <;> simp only [unSV] at hu <;> try (simp at hu; done)); simp only [Option.some.injEq, Prod.mk.injEq] at hu; obtain ⟨rfl, rfl⟩ := hu; exact ⟨_, by rw [hxr.bool_inv]; rfl, .bool _⟩
      | int k n =>
        (cases op <;> simp only [unSV] at hu <;> try (simp at hu; done)); split at hu
        · simp only [Option.some.injEq, Prod.mk.injEq] at hu; obtain ⟨rfl, rfl⟩ := hu; exact ⟨_, by rw [hxr.int_inv.1]; rfl, .int _ _ (wrap_range _ _).1 (wrap_range _ _).2⟩
        · simp only [Option.some.injEq, Prod.mk.injEq] at hu; obtain ⟨rfl, rfl⟩ := hu; have hin := hob (inR k (-n)) (by simp); refine ⟨_, ?_, .int _ _ hin.1 hin.2⟩; rw [hxr.int_inv.1]; simp only [Op.unary, Op.intArith, Sem.run_pure, Int.zero_sub, wrap_in hin]
      | _ => simp [unSV] at hu
  | convert S T x =>
    simp only [stepOp] at hs; split at hs
    · rename_i s k j n ps hS hT hx; simp only [Rd.eval, Option.some.injEq] at hs; subst hs; have hxr := opv_rep h hx (fun p hp => hob p (by simp [hp])); have hin := hob (inR k n) (by simp); have hu := (hty T _ hT).und
      have hus : (P.underlying S).isSome = true := by
        have := (hty S _ hS).und
        cases s with
        | int => simp [this]
        | bool => simp [this]
        | str => simp [this]
        | named => obtain ⟨_, this, _⟩ := this; simp [this]
        | slice => obtain ⟨_, this, _⟩ := this; simp [this]
      refine StepGives.pure h (s := convert S T (a.eval x)) ⟨_, ?_, .int k n hin.1 hin.2⟩; rw [hxr.int_inv.1]; (have hik : P.intKind T = k := by simp [Program.intKind, hu]); rw [run_convert_int w S T j n hus (by rw [hik]; exact hu), hik, wrap_in hin]
    · rename_i v ps hx _; have e := bytesStr_ob hs; obtain ⟨s, z, rfl, hrun, hz⟩ := bytesStr_sound h hty (opv_rep h hx (fun p hp => hob p (by rw [e]; exact hp))) hs; exact StepGives.pure h (s := convert S T (a.eval x)) ⟨_, hrun, hz⟩
  | index T x i =>
    simp only [stepOp] at hs; split at hs
    · rename_i s ps k n qs hT hx hi; simp only [Rd.eval, Option.some.injEq] at hs; subst hs; have hxr := (opv_rep h hx (fun p hp => hob p (by simp [hp]))).str_inv; have hir := (opv_rep h hi (fun p hp => hob p (by simp [hp]))).int_inv.1; have hin := hob (0 ≤ n ∧ n < (s.size : Nat)) (by simp); have hr := sat_range s n; refine StepGives.pure h (s := Instr.index T (a.eval x) (a.eval i)) ⟨_, ?_, .int .u8 (sat s n) (Int.le_trans (by decide) hr.1) (Int.le_trans hr.2 (by decide))⟩; rw [hxr, hir, run_index_string w T s k n (hty T _ hT).und, dif_pos hin]; have hlt : n.toNat < s.data.size := by have : s.size = s.data.size := rfl; omega
      have : sat s n = ((s[n.toNat]'(by have : s.size = s.data.size := rfl; omega)).toNat : Nat) := by
        unfold sat; rw [Array.getD_eq_getD_getElem?, Array.getElem?_eq_getElem hlt]; rfl
      rw [this]
    · simp [Rd.eval] at hs
  | makeMap T rsv =>
    cases rsv with
    | some _ => simp [stepOp, Rd.eval] at hs
    | none =>
      simp only [stepOp] at hs; split at hs
      · obtain ⟨ep, hep, hs⟩ := Rd.bind_some hs; simp only [Rd.eval, Option.some.injEq] at hs; subst hs
        have hheap : ∀ b, b < w.heap.size → (w.alloc (.map #[] 0)).heap[b]? = w.heap[b]? := fun b hb => by
          show (w.heap.push _)[b]? = _; rw [Array.getElem?_push, if_neg (by omega)]
        have hnew : (w.alloc (.map #[] 0)).heap[w.heap.size]? = some (.map #[] 0) := by
          show (w.heap.push _)[w.heap.size]? = _; simp
        have hf := h.fresh (w' := w.alloc (.map #[] 0)) (id := d * 4) (k := .mp ep []) (some (w.heap.size, 0)) (freshEp_some hep) rfl rfl ⟨rfl, Nat.le_refl _⟩ (by simp) hheap (fun b C e => by
          obtain ⟨rfl, rfl⟩ : w.heap.size = b ∧ 0 = C := by simpa using e
          simp) ⟨w.heap.size, 0, #[], 0, Bind.set_same _ _ _, hnew, rfl, by simp⟩
        exact ⟨.value (.map (some w.heap.size)), .map (some w.heap.size), _, _, rfl, .inl rfl, hf, .mp _ _ _ ⟨_, setm_same _ _ _, Nat.le_refl _⟩ fun l _ => ⟨0, Bind.set_same _ _ _⟩⟩
      · simp [Rd.eval] at hs
  | lookup T m k ok =>
    cases ok with
    | true => simp [stepOp, Rd.eval] at hs
    | false =>
      simp only [stepOp] at hs; split at hs
      · rename_i v ps n qs hm hk; split at hs
        · rename_i hT; have e := mapGet_ob hs; have hmr := opv_rep h hm (fun p hp => hob p (by rw [e]; simp [hp])); have hkr := (opv_rep h hk (fun p hp => hob p (by rw [e]; simp [hp]))).int_inv.1; obtain ⟨_, e1, z, hrun, hz⟩ := mapGet_sound (P := P) h hty hT hmr hs; obtain ⟨rv, rm, ro⟩ := r; simp only at e1; subst e1; refine StepGives.pure h (s := Instr.lookup T (a.eval m) (a.eval k) false) ⟨z, ?_, hz⟩; rw [hkr]; exact hrun
        · simp [Rd.eval] at hs
      · simp [Rd.eval] at hs
  | mapUpdate T m k x =>
    simp only [stepOp] at hs; split at hs
    · rename_i v ps n qs y rs hm hk hx; split at hs
      · rename_i hT; have e := mapPut_ob hs; have hmr := opv_rep h hm (fun p hp => hob p (by rw [e]; simp [hp])); obtain ⟨hkr, hk1⟩ := (opv_rep h hk (fun p hp => hob p (by rw [e]; simp [hp]))).int_inv; obtain ⟨hxr, hx1⟩ := (opv_rep h hx (fun p hp => hob p (by rw [e]; simp [hp]))).int_inv; obtain ⟨_, e1, w', hrun, hsim⟩ := mapPut_sound (P := P) h hty hT hmr hk1 hx1 hs; refine ⟨.skip, undef, w', β, ?_, .inr ⟨rfl, rfl⟩, hsim, by rw [e1]; exact .top _⟩; simp only [execOp, hkr, hxr]; simp [hrun]
      · simp [Rd.eval] at hs
    · simp [Rd.eval] at hs
  | makeSlice T l c =>
    simp only [stepOp] at hs
    cases hT : C.elem T with
    | none => rw [hT] at hs; simp [Rd.eval] at hs
    | some t =>
      cases hl : opv env l with
      | mk v ps =>
        cases hc : opv env c with
        | mk u qs =>
          rw [hT, hl, hc] at hs
          cases v with
          | int k n =>
            cases u with
            | int k' m =>
              simp only at hs; obtain ⟨ep, hep, hs⟩ := Rd.bind_some hs; split at hs
              · simp only [Rd.eval, Option.some.injEq] at hs; subst hs; have e1 := (opv_rep h hl (fun p hp => hob p (by simp [hp]))).int_inv.1; have e2 := (opv_rep h hc (fun p hp => hob p (by simp [hp]))).int_inv.1; have hnm := hob (0 ≤ n ∧ n ≤ m ∧ m ≤ 4294967296) (by simp); refine StepGives.gives (s := Instr.makeSlice T (a.eval l) (a.eval c)) ?_; rw [e1, e2]; exact makeSliceT_gives h hty (elem_ty hT) hnm hep
              simp only [Rd.eval, Option.some.injEq] at hs; subst hs; have e1 := (opv_rep h hl (fun p hp => hob p (by simp [hp]))).int_inv.1; have e2 := (opv_rep h hc (fun p hp => hob p (by simp [hp]))).int_inv.1; have hnm := hob (0 ≤ n ∧ n ≤ m ∧ m ≤ 4294967296) (by simp); refine StepGives.gives (s := Instr.makeSlice T (a.eval l) (a.eval c)) ?_; rw [e1, e2]; exact makeSlice_gives h hty (elem_ty hT) hnm hep
            | _ => simp [Rd.eval] at hs
          | _ => simp [Rd.eval] at hs
  | slice T x lo hi mx =>
    cases mx with
    | some _ => simp [stepOp, Rd.eval] at hs
    | none =>
      simp only [stepOp] at hs
      cases hT : C.elem T with
      | none =>
        cases hx : opv env x with
        | mk v ps =>
          cases hlo : optInt env lo with
          | none => rw [hT, hx, hlo] at hs; simp [Rd.eval] at hs
          | some lq =>
            cases hhi : optInt env hi with
            | none => rw [hT, hx, hlo, hhi] at hs; simp [Rd.eval] at hs
            | some hq =>
              obtain ⟨l, qs⟩ := lq; obtain ⟨hh, rs⟩ := hq; rw [hT, hx, hlo, hhi] at hs; simp only at hs; split at hs
              · rename_i hTs; obtain ⟨q, e⟩ := cutStr_ob hs; obtain ⟨y1, f1, f2⟩ := optInt_rep h hlo (fun p hp => hob p (by rw [e]; simp [hp])); obtain ⟨y2, g1, g2⟩ := optInt_rep h hhi (fun p hp => hob p (by rw [e]; simp [hp])); subst f2 g2; have hxr := opv_rep h hx (fun p hp => hob p (by rw [e]; simp [hp])); obtain ⟨hm, z, hrun, hz⟩ := cutStr_sound (P := P) (hty T _ hTs).und hxr hs hob; obtain ⟨rv, rm, ro⟩ := r; simp only at hm; subst hm; refine StepGives.pure h (s := Instr.sliceAt T (a.eval x) (lo.map a.eval) (hi.map a.eval) none) ⟨z, ?_, hz⟩; rw [f1, g1]; exact hrun
              · simp [Rd.eval] at hs
      | some t =>
        cases hx : opv env x with
        | mk v ps =>
          cases hlo : optInt env lo with
          | none => rw [hT, hx, hlo] at hs; simp [Rd.eval] at hs
          | some lq =>
            cases hhi : optInt env hi with
            | none => rw [hT, hx, hlo, hhi] at hs; simp [Rd.eval] at hs
            | some hq =>
              obtain ⟨l, qs⟩ := lq; obtain ⟨hh, rs⟩ := hq; rw [hT, hx, hlo, hhi] at hs; simp only at hs; obtain ⟨_, hty2, hs⟩ := Rd.bind_some hs; obtain ⟨⟨r', ob⟩, hr', hs⟩ := Rd.bind_some hs; simp only [Rd.eval, Option.some.injEq] at hs; subst hs; obtain ⟨y1, f1, f2⟩ := optInt_rep h hlo (fun p hp => hob p (by simp [hp])); obtain ⟨y2, g1, g2⟩ := optInt_rep h hhi (fun p hp => hob p (by simp [hp])); subst f2 g2; have hxr := opv_rep h hx (fun p hp => hob p (by simp [hp]))
              have := slice_sound (P := P) h hty (elem_ty hT) hxr hr' (fun p hp => hob p (by simp [hp]))
                (fun u xs e => by
                  subst e; simp only [sliceTy] at hty2; split at hty2
                  · assumption
                  · simp [Rd.eval] at hty2)
                (fun id ep u xs e hm => by
                  subst e; simp only [sliceTy] at hty2; replace hty2 := Rd.mem_some hty2; rw [hm] at hty2; simp only at hty2; split at hty2
                  · assumption
                  · simp [Rd.eval] at hty2)
              refine StepGives.pure h (s := Instr.sliceAt T (a.eval x) (lo.map a.eval) (hi.map a.eval) none) ?_; rw [f1, g1]
              exact this
  | fieldAddr T x f =>
    simp only [stepOp] at hs
    cases hT : C.ty T with
    | none => rw [hT] at hs; simp [Rd.eval] at hs
    | some t =>
      cases hx : opv env x with
      | mk v ps =>
        rw [hT, hx] at hs
        cases t with
        | named n =>
          simp only at hs; split at hs
          · rename_i hlt; obtain ⟨q, hq, hs⟩ := Rd.bind_some hs; simp only [Rd.eval, Option.some.injEq] at hs; subst hs; exact StepGives.pure h (s := Instr.fieldAt T (a.eval x) f) (fieldAddr_sound h hty hT (List.getElem?_eq_getElem hlt) (opv_rep h hx hob) hq)
          · simp [Rd.eval] at hs
        | _ => simp [Rd.eval] at hs
  | field T x f =>
    simp only [stepOp] at hs
    cases hT : C.ty T with
    | none => rw [hT] at hs; simp [Rd.eval] at hs
    | some t =>
      cases hx : opv env x with
      | mk v ps =>
        rw [hT, hx] at hs
        cases t with
        | named n =>
          simp only at hs; split at hs
          · rename_i ft hft; split at hs
            · rename_i q hq; simp only [Rd.eval, Option.some.injEq] at hs; subst hs; exact StepGives.pure h (s := Instr.field T (a.eval x) f) (field_sound hty hT hft (opv_rep h hx hob) hq)
            · simp [Rd.eval] at hs
          · simp [Rd.eval] at hs
        | _ => simp [Rd.eval] at hs
  | indexAddr T x i =>
    simp only [stepOp] at hs
    cases hT : C.elem T with
    | none =>
      cases hx : opv env x with
      | mk v ps =>
        cases hi : opv env i with
        | mk u qs =>
          rw [hT, hx, hi] at hs
          cases u with
          | int k n =>
            simp only at hs; split at hs
            · rename_i e len hf; split at hs
              · rename_i t ht; obtain ⟨⟨q, ob⟩, hq, hs⟩ := Rd.bind_some hs; simp only [Rd.eval, Option.some.injEq] at hs; subst hs; have hir := (opv_rep h hi (fun p hp => hob p (by simp [hp]))).int_inv.1; refine StepGives.pure h (s := Instr.indexAt T (a.eval x) (a.eval i)) ?_; rw [hir]; exact indexArr_sound h (hty e t ht) ((hty e t ht).arrs T len hf) (opv_rep h hx (fun p hp => hob p (by simp [hp]))) hq (fun p hp => hob p (by simp [hp]))
              · simp [Rd.eval] at hs
            · simp [Rd.eval] at hs
          | _ => simp [Rd.eval] at hs
    | some t =>
      cases hx : opv env x with
      | mk v ps =>
        cases hi : opv env i with
        | mk u qs =>
          rw [hT, hx, hi] at hs
          cases u with
          | int k n =>
            simp only at hs; obtain ⟨⟨q, ob⟩, hq, hs⟩ := Rd.bind_some hs; simp only [Rd.eval, Option.some.injEq] at hs; subst hs; have hir := (opv_rep h hi (fun p hp => hob p (by simp [hp]))).int_inv.1; refine StepGives.pure h (s := Instr.indexAt T (a.eval x) (a.eval i)) ?_; rw [hir]; exact index_sound h hty (elem_ty hT) (opv_rep h hx (fun p hp => hob p (by simp [hp]))) hq (fun p hp => hob p (by simp [hp]))
          | _ => simp [Rd.eval] at hs
  | extract x i =>
    simp only [stepOp] at hs; generalize hx : opv env x = vx at hs; obtain ⟨v, ps⟩ := vx
    cases v with
    | tup l =>
      simp only at hs; split at hs
      · rename_i q hq; simp only [force_eq, Rd.eval, Option.some.injEq] at hs; subst hs; have hxr := opv_rep h hx hob; generalize hv : a.eval x = v at hxr
        cases hxr with
        | tup l vs hl hr =>
          (have hlt : i < vs.length := by rw [← hl]; exact (List.getElem?_eq_some_iff.1 hq).1); refine StepGives.pure h (s := Instr.extract (a.eval x) i) ⟨vs[i], ?_, hr i _ _ hq (List.getElem?_eq_getElem hlt)⟩; rw [hv]; simp [Instr.extract, hlt]
      · simp [Rd.eval] at hs
    | _ => simp [Rd.eval] at hs
  | makeFunc fn first captured =>
    cases fn with
    | func f =>
      simp only [stepOp] at hs; split at hs
      · rename_i h0; generalize hv : opvs env captured.toList = vv at hs; obtain ⟨vs, ps⟩ := vv; simp only [Rd.eval, Option.some.injEq] at hs; subst hs; obtain ⟨k1, k2⟩ := opvs_rep h captured.toList hv hob; (have e : first = #[] := Array.size_eq_zero_iff.1 h0); subst e; refine StepGives.pure h (s := Instr.makeFunc (.func f) ((#[] : Array Operand).map a.eval) (captured.map a.eval)) ⟨_, rfl, ?_⟩; (have hmap : captured.map a.eval = (captured.toList.map a.eval).toArray := by apply Array.ext'; simp); (have h0 : (#[] : Array Operand).map a.eval = #[] := by simp); rw [hmap, h0]; exact .clo f vs (captured.toList.map a.eval) k1 k2
      · simp [Rd.eval] at hs
    | _ => simp [stepOp, Rd.eval] at hs
  | call c =>
    obtain ⟨callee, args, ats⟩ := c
    cases callee with
    | value f => simp [isCall] at hnc
    | invoke f m => simp [isCall] at hnc
    | builtin b =>
      simp only [stepOp] at hs; generalize hv : opvs env args.toList = vv at hs; obtain ⟨vs, ps⟩ := vv; simp only [Rd.withOb] at hs; obtain ⟨r', hr', hs⟩ := Rd.bind_some hs; simp only [Rd.eval, Option.some.injEq] at hs; subst hs; obtain ⟨k1, k2⟩ := opvs_rep h args.toList hv (fun p hp => hob p (by simp [hp])); (have hmapA : args.map a.eval = (args.toList.map a.eval).toArray := by apply Array.ext'; simp); have this := builtin_sound (P := P) h hty (b := b) (ats := ats.toList) (type := type) k1 k2 hr' (fun p hp => hob p (by simp [hp]))
      have key : ∀ cst : Array Bool, ∃ (x' : Next) (v : Value) (w' : World) (β' : Bind), (builtin b ats type cst (args.map a.eval)).run P w = .ok x' w' ∧ (x' = .value v ∨ (x' = .skip ∧ v = undef)) ∧
          SimB E N env (updm mem r'.memw) a w' β' ∧ RepSV (allow E w' β') w' β' (updm mem r'.memw) r'.val v := by
        intro cst; obtain ⟨y, w', β', e1, e2, e3⟩ := this cst; refine ⟨.value y, y, w', β', ?_, .inl rfl, e2, e3⟩; rw [hmapA]; exact e1
      unfold StepGives; simp only [execOp, resolve, Sem.run_bind, Sem.run_pure, Result.andThen_ok, invoke]; exact key _
  | _ => simp [stepOp, Rd.eval] at hs

end
end Go.Am


namespace Go.Am
open List
variable [U : Univ]

inductive RepArgs (A : Nat → Prop) (w : World) : List PK → List Value → List TV → List Nat → Prop
  | nil : RepArgs A w [] [] [] []
  | val (t : Ty) (x : t.den) (v : Value) (ps : List PK) (vs : List Value) (tvs : List TV) (bs : List Nat) (h : RepV A w t x v) (k : RepArgs A w ps vs tvs bs) :
      RepArgs A w (.val t :: ps) (v :: vs) (⟨t, x⟩ :: tvs) bs
  | rd (t : Ty) (x : t.den) (b off : Nat) (cs : List Value) (ps : List PK) (vs : List Value) (tvs : List TV) (bs : List Nat) (hA : A b)
      (hc : ∀ (j : Nat) (v : Value), cs[j]? = some v → w.cell? ⟨b, off + j, none⟩ = some v) (h : RepC A w t x cs) (k : RepArgs A w ps vs tvs bs) :
      RepArgs A w (.rd t :: ps) (.pointer (some ⟨b, off, none⟩) :: vs) (⟨t, x⟩ :: tvs) bs
  | clo (f : Nat) (t : Ty) (x : t.den) (b off : Nat) (cs : List Value) (ps : List PK) (vs : List Value) (tvs : List TV) (bs : List Nat) (hA : A b)
      (hc : ∀ (j : Nat) (v : Value), cs[j]? = some v → w.cell? ⟨b, off + j, none⟩ = some v) (h : RepC A w t x cs) (k : RepArgs A w ps vs tvs bs) :
      RepArgs A w (.clo f t :: ps) (.func (.func f) #[] #[.pointer (some ⟨b, off, none⟩)] :: vs) (⟨t, x⟩ :: tvs) bs
  | box (n : Nat) (x : U.R n) (b : Nat) (cs : Array Value) (el : Nat) (ps : List PK) (vs : List Value) (tvs : List TV) (bs : List Nat) (hh : w.heap[b]? = some (.cells cs el (0, 0)))
      (h : RepC A w (.named n) x cs.toList) (k : RepArgs A w ps vs tvs bs) :
      RepArgs A w (.box n :: ps) (.pointer (some ⟨b, 0, none⟩) :: vs) (⟨.named n, x⟩ :: tvs) (b :: bs)

inductive RepRess (A : Nat → Prop) (w : World) : List RK → List TV → List Value → List Nat → Prop
  | nil : RepRess A w [] [] [] []
  | val (t : Ty) (x : t.den) (v : Value) (rs : List RK) (tvs : List TV) (vs : List Value) (nb : List Nat) (h : RepV A w t x v) (k : RepRess A w rs tvs vs nb) :
      RepRess A w (.val t :: rs) (⟨t, x⟩ :: tvs) (v :: vs) nb
  | err0 (rs : List RK) (tvs : List TV) (vs : List Value) (nb : List Nat) (k : RepRess A w rs tvs vs nb) : RepRess A w (.err :: rs) (⟨.bool, false⟩ :: tvs) (.nilIface :: vs) nb
  | err1 (T : TypeId) (v : Value) (rs : List RK) (tvs : List TV) (vs : List Value) (nb : List Nat) (k : RepRess A w rs tvs vs nb) : RepRess A w (.err :: rs) (⟨.bool, true⟩ :: tvs) (.iface T v :: vs) nb
  | ownNil (t : Ty) (rs : List RK) (tvs : List TV) (vs : List Value) (nb : List Nat) (k : RepRess A w rs tvs vs nb) :
      RepRess A w (.own t :: rs) (⟨.slice t, ([] : List t.den)⟩ :: tvs) (.slice none 0 0 :: vs) nb
  | own (t : Ty) (xs : List t.den) (b D : Nat) (cs : Array Value) (el : Nat) (css : Nat → List Value) (rs : List RK) (tvs : List TV) (vs : List Value) (nb : List Nat)
      (hl : (xs.length : Int) ≤ 4294967296) (hh : w.heap[b]? = some (.cells cs el (0, 0))) (hs : cs.size = D * t.size) (hD : xs.length ≤ D)
      (h : ∀ k (hk : k < xs.length), (css k).length = t.size ∧ (∀ (j : Nat) (v : Value), (css k)[j]? = some v → cs[k * t.size + j]? = some v) ∧ RepC A w t xs[k] (css k))
      (k : RepRess A w rs tvs vs nb) : RepRess A w (.own t :: rs) (⟨.slice t, xs⟩ :: tvs) (.slice (some ⟨b, 0, none⟩) xs.length D :: vs) (b :: nb)
  | ptr (n : Nat) (x : U.R n) (b : Nat) (cs : Array Value) (el : Nat) (rs : List RK) (tvs : List TV) (vs : List Value) (nb : List Nat) (hh : w.heap[b]? = some (.cells cs el (0, 0)))
      (h : RepC A w (.named n) x cs.toList) (k : RepRess A w rs tvs vs nb) : RepRess A w (.ptr n :: rs) (⟨.named n, x⟩ :: tvs) (.pointer (some ⟨b, 0, none⟩) :: vs) (b :: nb)
  | clo (f : Nat) (t : Ty) (x : t.den) (b off : Nat) (rs : List RK) (tvs : List TV) (vs : List Value) (nb : List Nat) (h : RepC A w (.slice t) ([x] : List t.den) [.slice (some ⟨b, off, none⟩) 1 1]) (k : RepRess A w rs tvs vs nb) :
      RepRess A w (.clo f t :: rs) (⟨t, x⟩ :: tvs) (.func (.func f) #[] #[.pointer (some ⟨b, off, none⟩)] :: vs) nb
  | deep (t : Ty) (x : t.den) (v : Value) (bs : List Nat) (rs : List RK) (tvs : List TV) (vs : List Value) (nb : List Nat) (h : RepVO w t x v (fun b => b ∈ bs)) (k : RepRess A w rs tvs vs nb) :
      RepRess A w (.deep t :: rs) (⟨t, x⟩ :: tvs) (v :: vs) (bs ++ nb)

def boxNs : List PK → List Nat
  | [] => []
  | .box n :: r => n :: boxNs r
  | _ :: r => boxNs r

inductive RepBoxes (A : Nat → Prop) (w : World) : List Nat → List TV → List Nat → Prop
  | nil : RepBoxes A w [] [] []
  | cons (n : Nat) (x : U.R n) (b : Nat) (cs : Array Value) (el : Nat) (ns : List Nat) (tvs : List TV) (bs : List Nat) (hh : w.heap[b]? = some (.cells cs el (0, 0)))
      (h : RepC A w (.named n) x cs.toList) (k : RepBoxes A w ns tvs bs) : RepBoxes A w (n :: ns) (⟨.named n, x⟩ :: tvs) (b :: bs)

def packV : List Value → Value
  | [v] => v
  | vs => .tuple vs.toArray

structure Post (A : Nat → Prop) (w : World) (bs : List Nat) (sp : FnSpec) (tvs : List TV) (e : Ending) (w' : World) (rvs : List Value) (nb : List Nat) (A' : Nat → Prop) : Prop where
  ret : e = .returned (packV rvs)
  os : w'.os = w.os
  tape : w'.tape = w.tape
  output : w'.output = w.output ∧ U.dr w.drawn ≤ U.dr w'.drawn
  grow : w.heap.size ≤ w'.heap.size
  old : ∀ b, b < w.heap.size → b ∉ bs → w'.heap[b]? = w.heap[b]?
  allowed : ∀ b, A' b → b < w'.heap.size ∧ (A b ∨ w.heap.size ≤ b) ∧ b ∉ nb
  nodup : nb.Nodup
  new : ∀ b, b ∈ nb → w.heap.size ≤ b ∧ b < w'.heap.size
  ress : RepRess A' w' sp.rs (sp.fn tvs) rvs nb
  boxes : RepBoxes A' w' (boxNs sp.ps) (sp.bx tvs) bs

def FnOK (P : Program) (f : FuncId) (sp : FnSpec) : Prop :=
  (∃ fn, P.funcs[f]? = some fn ∧ (fn.name == "runtime.NumGoroutine") = false ∧ fn.body.isNone = false) ∧
  ∀ (A : Nat → Prop) (w : World) (vs : List Value) (tvs : List TV) (bs : List Nat), (∀ b, A b → b < w.heap.size ∧ b ∉ bs) → (∀ b, b ∈ bs → b < w.heap.size) → bs.Nodup →
    RepArgs A w sp.ps vs tvs bs → sp.pre tvs → Laid w bs →
    Calls P f vs.toArray w fun e w' => ∃ rvs nb A', Post A w bs sp tvs e w' rvs nb A'

structure CtxOK (P : Program) (C : Ctx) : Prop where
  ty : CtxTy P C
  fn : ∀ f sp, C.sp f = some sp → FnOK P f sp

section
variable {E : Ent} {N : Nat} {env : Nat → SV} {mem : Nat → Option Blk} {a : Act} {w : World} {β : Bind} {P : Program} {C : Ctx}

theorem argOf0_sound (h : SimB E N env mem a w β) {B : Nat → Prop} (hB : ∀ b, allow E w β b → B b) {p : PK} {sv : SV} {v : Value} {tv : TV} {lent bs : List Nat}
    (hr : RepSV (allow E w β) w β mem sv v) (hs : (argOf0 p sv).eval mem = some (tv, lent, bs)) (hl : ∀ id ∈ lent, ∀ b, Held β id b → B b) :
    (∀ id ∈ bs, ∃ ep cells, mem id = some (.box ep cells)) ∧ ∃ bs', bs.length = bs'.length ∧ (∀ i (h : i < bs.length) (h' : i < bs'.length), ∃ D, β bs[i] = some (bs'[i], D)) ∧
      ∀ {ps vs tvs bs2}, RepArgs B w ps vs tvs bs2 → RepArgs B w (p :: ps) (v :: vs) (tv :: tvs) (bs' ++ bs2) := by
  cases p with
  | val t =>
    simp only [argOf0] at hs; obtain ⟨x, hx, hs⟩ := Rd.bind_some hs; simp only [Rd.eval, Option.some.injEq, Prod.mk.injEq] at hs; obtain ⟨rfl, rfl, rfl⟩ := hs; obtain ⟨y, hy, hx⟩ := Rd.bind_some hx; obtain rfl := Option.some.inj hx; have := toD_sound h hB fuel (fun _ id hi b hb => hl id hi b hb) hr hy; exact ⟨by simp, [], rfl, by simp, fun k => .val t y v _ _ _ _ this k⟩
  | rd t =>
    cases hr with
    | dref u x b off cs hA hc hr =>
      simp only [argOf0] at hs; obtain ⟨y, hy, hs⟩ := Rd.bind_some hs; simp only [Rd.eval, Option.some.injEq, Prod.mk.injEq] at hs; obtain ⟨rfl, rfl, rfl⟩ := hs; obtain ⟨e, rfl⟩ := TV.to_some (Rd.opt_some hy); subst e; exact ⟨by simp, [], rfl, by simp, fun k => .rd u x b off cs _ _ _ _ (hB b hA) hc (hr.mono fun b hb => ⟨hB b hb, rfl⟩) k⟩
    | ref id ep off b hm hv =>
      simp only [argOf0] at hs; replace hs := Rd.mem_some hs
      cases hmi : mem id with
      | none => rw [hmi] at hs; simp [Rd.eval] at hs
      | some k =>
        rw [hmi] at hs
        cases k with
        | arr => simp [Rd.eval] at hs
        | tree => simp [Rd.eval] at hs
        | dead => simp [Rd.eval] at hs
        | mp => simp [Rd.eval] at hs
        | hole => simp [Rd.eval] at hs
        | box ep' cells =>
          simp only at hs; split at hs
          · rename_i e; subst e; obtain ⟨D, hb⟩ := hv cells hmi; obtain ⟨b', D', cs, el, hb', hh, hsz, hcell⟩ := h.blk id _ hmi; rw [hb] at hb'; (obtain ⟨rfl, rfl⟩ : b = b' ∧ D = D' := by simpa using hb'); (have hcl : ∀ (j : Nat) (v : Value), cs[j]? = some v → w.cell? ⟨b, j, none⟩ = some v := fun j v hj => by simp [World.cell?, hh, hj]); by_cases hn : ∃ n, t = .named n
            · obtain ⟨n, rfl⟩ := hn; simp only at hs; obtain ⟨x, hx, hs⟩ := Rd.bind_some hs; simp only [Rd.eval, Option.some.injEq, Prod.mk.injEq] at hs; obtain ⟨rfl, rfl, rfl⟩ := hs
              have hagg : RepSV (allow E w β) w β mem (.agg ((cells.drop off).take (U.sz n))) (.agg ((cs.toList.drop off).take (U.sz n)).toArray) := by
                refine .agg _ _ (by simp only [length_take, length_drop, Array.length_toList]; omega) ?_ ?_
                · intro v hv; have hv := mem_of_mem_drop (mem_of_mem_take hv); obtain ⟨j, hj, rfl⟩ := mem_iff_getElem.1 hv; (have hj' : j < cells.length := by simpa [hsz] using hj); obtain ⟨v, hv, h1, _⟩ := hcell j cells[j] (by simp [hj'])
                  have : cs.toList[j] = v := by
                    have : cs.toList[j]? = some v := by simpa using hv
                    rw [getElem?_eq_getElem hj] at this
                    simpa using this
                  rw [this]; exact h1
                · intro i sv v hi hj; rw [getElem?_take, getElem?_drop] at hi hj; split at hi
                  · rename_i hlt; rw [if_pos hlt] at hj; obtain ⟨v', hv', _, hr⟩ := hcell _ _ hi; have : cs[off + i]? = some v := by simpa using hj
                    rw [hv'] at this
                    obtain rfl := Option.some.inj this
                    exact hr
                  · simp at hi
              obtain ⟨y, hx1, hx2⟩ := Rd.bind_some hx; obtain rfl := Option.some.inj hx2; have hy := toD_sound h hB fuel (fun _ id hi b hb => hl id (mem_cons_of_mem _ hi) b hb) hagg hx1; have hyc := hy.cells.1; simp only [Value.cells, toList_toArray] at hyc; refine ⟨by simp, [], rfl, by simp, fun k => .rd (.named n) y b off _ _ _ _ _ (hl id (by simp) b (.inl ⟨D, hb⟩)) (fun j v hj => ?_) hyc k⟩; rw [getElem?_take, getElem?_drop] at hj; split at hj
              · exact hcl _ _ (by simpa using hj)
              · simp at hj
            · have key : ∀ sv, cells[off]? = some sv → ∀ x, (toTV true t sv).eval mem = some x → x = tv → lent = id :: lentIds fuel sv → bs = [] →
                  (∀ id ∈ bs, ∃ ep cells, mem id = some (.box ep cells)) ∧ ∃ bs', bs.length = bs'.length ∧ (∀ i (h : i < bs.length) (h' : i < bs'.length), ∃ D, β bs[i] = some (bs'[i], D)) ∧
                    ∀ {ps vs tvs bs2}, RepArgs B w ps vs tvs bs2 → RepArgs B w (.rd t :: ps) (.pointer (some ⟨b, off, none⟩) :: vs) (tv :: tvs) (bs' ++ bs2) := by
                rintro sv hsv x hx rfl rfl rfl; obtain ⟨v, hv, h1, hr⟩ := hcell _ _ hsv; obtain ⟨y, hx1, hx2⟩ := Rd.bind_some hx; obtain rfl := Option.some.inj hx2; have hy := toD_sound h hB fuel (fun _ id hi b hb => hl id (mem_cons_of_mem _ hi) b hb) hr hx1
                cases hy with
                | agg n x cs hc => exact absurd ⟨_, rfl⟩ hn
                | one t y v ht hc =>
                  refine ⟨by simp, [], rfl, by simp, fun k => .rd t y b off [v] _ _ _ _ (hl id (by simp) b (.inl ⟨D, hb⟩)) (fun j u hj => ?_) hc k⟩
                  match j, hj with
                  | 0, hj => simp at hj; subst hj; exact hcl _ _ hv
              cases t with
              | named n => exact absurd ⟨n, rfl⟩ hn
              | _ =>
                simp only at hs; split at hs
                · rename_i sv hsv; obtain ⟨x, hx, hs⟩ := Rd.bind_some hs; simp only [Rd.eval, Option.some.injEq, Prod.mk.injEq] at hs; obtain ⟨h1, h2, h3⟩ := hs; exact key sv hsv x hx h1 h2.symm h3.symm
                · simp [Rd.eval] at hs
          · simp [Rd.eval] at hs
    | eref id ep i p b ov hm hv =>
      simp only [argOf0] at hs; replace hs := Rd.mem_some hs
      cases hmi : mem id with
      | none => rw [hmi] at hs; simp [Rd.eval] at hs
      | some k =>
        rw [hmi] at hs
        cases k with
        | box => simp [Rd.eval] at hs
        | tree => simp [Rd.eval] at hs
        | dead => simp [Rd.eval] at hs
        | mp => simp [Rd.eval] at hs
        | hole => simp [Rd.eval] at hs
        | arr ep' u xs =>
          simp only at hs; split at hs
          · rename_i e; subst e; obtain ⟨hlt, D, o, u', hb, hpo, rfl⟩ := hv u xs hmi; obtain ⟨_, ⟨hb', _⟩ | ⟨b', D', cs, el, css, hb', hh, hsz, hD, hel⟩⟩ := h.blk id _ hmi
            · rw [hb] at hb'; simp at hb'
            rw [hb] at hb'; (obtain ⟨rfl, rfl⟩ : b = b' ∧ D = D' := by simpa using hb'); obtain ⟨hcl, hcc, hrep⟩ := hel i hlt; rw [show xs.getD i u.zero = xs[i] by simp [hlt]] at hs; split at hs
            · rename_i tv' hfo; obtain ⟨y, hy, hs⟩ := Rd.bind_some hs; simp only [Rd.eval, Option.some.injEq, Prod.mk.injEq] at hs; obtain ⟨rfl, rfl, rfl⟩ := hs; obtain ⟨v', z⟩ := tv'; obtain ⟨e, rfl⟩ := TV.to_some (Rd.opt_some hy); subst e; obtain ⟨o', ho', hr, hle⟩ := follow_rep p hrep hfo; rw [ho'] at hpo; (obtain ⟨rfl, rfl⟩ : o' = o ∧ v' = u' := by simpa using hpo); refine ⟨by simp, [], rfl, by simp, fun k => .rd v' z b _ _ _ _ _ _ (hl id (by simp) b (.inl ⟨D, hb⟩)) (fun j v hj => ?_) (hr.mono fun b hb => ⟨hB b hb, rfl⟩) k⟩; rw [getElem?_take, getElem?_drop] at hj; split at hj
              · have := hcc _ _ hj; simp [World.cell?, hh]; rw [show i * u.size + o' + j = i * u.size + (o' + j) by omega]
                exact this
              · simp at hj
            · simp [Rd.eval] at hs
          · simp [Rd.eval] at hs
    | _ => simp [argOf0, Rd.eval] at hs
  | box n =>
    cases hr with
    | ref id ep off b hm hv =>
      simp only [argOf0] at hs; replace hs := Rd.mem_some hs
      cases hmi : mem id with
      | none => rw [hmi] at hs; simp [Rd.eval] at hs
      | some k =>
        rw [hmi] at hs
        cases k with
        | arr => simp [Rd.eval] at hs
        | tree => simp [Rd.eval] at hs
        | dead => simp [Rd.eval] at hs
        | mp => simp [Rd.eval] at hs
        | hole => simp [Rd.eval] at hs
        | box ep' cells =>
          simp only at hs; split at hs
          · rename_i e; obtain ⟨rfl, rfl⟩ := e; obtain ⟨D, hb⟩ := hv cells hmi; obtain ⟨b', D', cs, el, hb', hh, hsz, hcell⟩ := h.blk id _ hmi; rw [hb] at hb'; (obtain ⟨rfl, rfl⟩ : b = b' ∧ D = D' := by simpa using hb'); obtain ⟨x, hx, hs⟩ := Rd.bind_some hs; simp only [Rd.eval, Option.some.injEq, Prod.mk.injEq] at hs; obtain ⟨rfl, rfl, rfl⟩ := hs
            have hagg : RepSV (allow E w β) w β mem (.agg cells) (.agg cs.toList.toArray) := by
              refine .agg _ _ (by simp [hsz]) ?_ ?_
              · intro v hv; obtain ⟨j, hj, rfl⟩ := mem_iff_getElem.1 hv; (have hj' : j < cells.length := by simpa [hsz] using hj); obtain ⟨v, hv, h1, _⟩ := hcell j cells[j] (by simp [hj'])
                have : cs.toList[j] = v := by
                  have : cs.toList[j]? = some v := by simpa using hv
                  rw [getElem?_eq_getElem hj] at this
                  simpa using this
                rw [this]; exact h1
              · intro i sv v hi hj; obtain ⟨v', hv', _, hr⟩ := hcell _ _ hi; have : cs[i]? = some v := by simpa using hj
                rw [hv'] at this
                obtain rfl := Option.some.inj this
                exact hr
            obtain ⟨y, rfl, hy⟩ := toTV_sound h hagg hx; have hyc := hy.cells.1; simp only [Value.cells, toList_toArray] at hyc; refine ⟨fun id' hid => by simp at hid; subst hid; exact ⟨_, _, hmi⟩, [b], rfl, fun i h1 h2 => ?_, fun k => .box n y b cs el _ _ _ _ hh (hyc.mono fun b hb => ⟨hB b hb, rfl⟩) k⟩; have : i = 0 := by simp at h1; omega
            subst this
            exact ⟨D, hb⟩
          · simp [Rd.eval] at hs
    | _ => simp [argOf0, Rd.eval] at hs
  | clo f t => simp [argOf0, Rd.eval] at hs

theorem elemsD_sound (h : SimB E N env mem a w β) {B : Nat → Prop} (hB : ∀ b, allow E w β b → B b) {u : Ty} (hu : u.size = 1) : ∀ {svs : List SV} {vs : List Value} {xs : List u.den},
    (∀ sv ∈ svs, ∀ id ∈ lentIds 7 sv, ∀ b, Held β id b → B b) → svs.length = vs.length → (∀ (i : Nat) (sv : SV) (v : Value), svs[i]? = some sv → vs[i]? = some v → v.oneCell' = true ∧ RepSV (allow E w β) w β mem sv v) →
    (elemsD u svs).eval mem = some xs → xs.length = vs.length ∧ ∀ i (h1 : i < xs.length) (h2 : i < vs.length), RepC B w u xs[i] [vs[i]] := by
  intro svs
  induction svs with
  | nil =>
    intro vs xs _ hl _ hx; obtain rfl := Option.some.inj hx; obtain rfl := length_eq_zero_iff.1 hl.symm; exact ⟨rfl, fun i h1 => absurd h1 (Nat.not_lt_zero _)⟩
  | cons sv svs ih =>
    intro vs xs hlent hl hr hx
    cases vs with
    | nil => simp at hl
    | cons v vs =>
      simp only [elemsD] at hx; obtain ⟨y, hy, hx⟩ := Rd.bind_some hx; obtain ⟨ys, hys, hx⟩ := Rd.bind_some hx; obtain rfl := Option.some.inj hx; obtain ⟨h1, hrv⟩ := hr 0 sv v rfl rfl; obtain ⟨e1, e2⟩ := ih (fun sv hs => hlent sv (mem_cons_of_mem _ hs)) (by simpa using hl) (fun i sv v hi hj => hr (i + 1) sv v (by simpa using hi) (by simpa using hj)) hys; refine ⟨by simp [e1], fun i h1 h2 => ?_⟩
      match i, h1, h2 with
      | 0, _, _ =>
        have hd := toD_sound h hB 7 (fun _ id hi b hb => hlent sv (mem_cons_self ..) id hi b hb) hrv hy
        cases hd with
        | agg n x cs hc => cases h1
        | one t x v ht hc => exact hc
      | i + 1, h1, h2 => exact e2 i (by simpa using h1) (by simpa using h2)

theorem vecArg_sound (h : SimB E N env mem a w β) {B : Nat → Prop} (hB : ∀ b, allow E w β b → B b) {t : Ty} {id ep off len : Nat} {v : Value} {tv : TV} {lent bs : List Nat}
    (hr : RepSV (allow E w β) w β mem (.bsl id ep off len) v) (hs : (vecArg t id ep off len).eval mem = some (tv, lent, bs)) (hl : ∀ id ∈ lent, ∀ b, Held β id b → B b) :
    bs = [] ∧ ∃ x : t.den, tv = ⟨t, x⟩ ∧ RepV B w t x v := by
  cases t with
  | slice u =>
    simp only [vecArg] at hs; replace hs := Rd.mem_some hs
    cases hmi : mem id with
    | none => rw [hmi] at hs; simp [Rd.eval] at hs
    | some k =>
      rw [hmi] at hs
      cases k with
      | arr => simp [Rd.eval] at hs
      | tree => simp [Rd.eval] at hs
      | dead => simp [Rd.eval] at hs
      | mp => simp [Rd.eval] at hs
      | hole => simp [Rd.eval] at hs
      | box ep' cells =>
        simp only at hs; split at hs
        · rename_i e; obtain ⟨rfl, hoff, hlen, hu⟩ := e; obtain ⟨xs, hxs, hs⟩ := Rd.bind_some hs; simp only [Rd.eval, Option.some.injEq, Prod.mk.injEq] at hs; obtain ⟨rfl, rfl, rfl⟩ := hs
          cases hr with
          | bsl _ _ _ _ b cap hle hm hv =>
            obtain ⟨D, hb⟩ := hv cells hmi; obtain ⟨b', D', cs, el, hb', hh, hsz, hcell⟩ := h.blk id _ hmi; rw [hb] at hb'; (obtain ⟨rfl, rfl⟩ : b = b' ∧ D = D' := by simpa using hb'); (have hsl : (((cells.drop off).take len)).length = len := by rw [length_take, length_drop]; omega); have hvl : (((cs.toList.drop off).take len)).length = len := by rw [length_take, length_drop, Array.length_toList]; omega
            obtain ⟨e1, e2⟩ := elemsD_sound h hB hu (vs := (cs.toList.drop off).take len) (fun sv hsv id' hid' b hb => hl id' (mem_cons_of_mem _ (mem_flatMap.2 ⟨sv, hsv, hid'⟩)) b hb) (by rw [hsl, hvl])
              (fun i sv v hi hj => by
                rw [getElem?_take, getElem?_drop] at hi hj; split at hi
                · rename_i hlt; rw [if_pos hlt] at hj; obtain ⟨v', hv', h1, hr⟩ := hcell _ _ hi; have : cs[off + i]? = some v := by simpa using hj
                  rw [hv'] at this
                  obtain rfl := Option.some.inj this
                  exact ⟨h1, hr⟩
                · simp at hi) hxs
            (have hxl : xs.length = len := by rw [e1, hvl]); refine ⟨rfl, xs, rfl, .one _ _ _ (fun n e => by cases e) ?_⟩; rw [← hxl]; refine .slice u xs ⟨b, off, none⟩ cap (fun i => [((cs.toList.drop off).take len).getD i undef]) (by unfold lim; omega) (by omega) (fun _ => hl id (mem_cons_self ..) b (.inl ⟨D, hb⟩)) (fun _ => rfl) (fun i hi => by rw [hu]; rfl) (fun i j v hi hj => ?_) (fun i hi => ?_)
            · match j, hj with
              | 0, hj =>
                simp only [getElem?_cons_zero, Option.some.injEq] at hj; subst hj; (have hi2 : i < ((cs.toList.drop off).take len).length := by omega); have h3 : off + i < cs.size := by omega
                have hg : ((cs.toList.drop off).take len).getD i undef = cs[off + i] := by
                  rw [getD_eq_getElem?_getD, getElem?_take, if_pos (by omega), getElem?_drop, Array.getElem?_toList, Array.getElem?_eq_getElem h3]; rfl
                rw [hg]; show w.cell? ⟨b, off + i * u.size + 0, none⟩ = _; unfold World.cell?; rw [hh]; show cs[off + i * u.size + 0]? = _; rw [hu, Nat.mul_one, Nat.add_zero, Array.getElem?_eq_getElem h3]
              | j + 1, hj => simp at hj
            · (have hi2 : i < ((cs.toList.drop off).take len).length := by omega); have := e2 i hi hi2; rw [getD_eq_getElem?_getD, getElem?_eq_getElem hi2]
              exact this
        · simp [Rd.eval] at hs
  | _ => simp [vecArg, Rd.eval] at hs

theorem argOf_sound (h : SimB E N env mem a w β) {B : Nat → Prop} (hB : ∀ b, allow E w β b → B b) {p : PK} {sv : SV} {v : Value} {tv : TV} {lent bs : List Nat}
    (hr : RepSV (allow E w β) w β mem sv v) (hs : (argOf p sv).eval mem = some (tv, lent, bs)) (hl : ∀ id ∈ lent, ∀ b, Held β id b → B b) :
    (∀ id ∈ bs, ∃ ep cells, mem id = some (.box ep cells)) ∧ ∃ bs', bs.length = bs'.length ∧ (∀ i (h : i < bs.length) (h' : i < bs'.length), ∃ D, β bs[i] = some (bs'[i], D)) ∧
      ∀ {ps vs tvs bs2}, RepArgs B w ps vs tvs bs2 → RepArgs B w (p :: ps) (v :: vs) (tv :: tvs) (bs' ++ bs2) := by
  cases p with
  | val t =>
    cases sv with
    | bsl id ep off len =>
      obtain ⟨rfl, x, rfl, hx⟩ := vecArg_sound h hB hr hs hl; exact ⟨by simp, [], rfl, by simp, fun k => .val t x v _ _ _ _ hx k⟩
    | _ => exact argOf0_sound h hB hr hs hl
  | rd t => exact argOf0_sound h hB hr hs hl
  | box n => exact argOf0_sound h hB hr hs hl
  | clo f t =>
    cases hr with
    | clo g l vs hlen hr =>
      match l, hlen with
      | [], _ => simp [argOf, Rd.eval] at hs
      | _ :: _ :: _, _ => simp [argOf, Rd.eval] at hs
      | [sv], hlen =>
        obtain ⟨v, rfl⟩ : ∃ v, vs = [v] := length_eq_one_iff.1 hlen.symm; simp only [argOf] at hs; split at hs
        · rename_i e; subst e; obtain ⟨h1, bs', h2, h3, h4⟩ := argOf0_sound h hB (hr 0 sv v rfl rfl) hs hl; refine ⟨h1, bs', h2, h3, fun k => ?_⟩; have := h4 k
          cases this with
          | rd _ x b off cs _ _ _ _ hA hc h k => exact .clo _ _ x b off cs _ _ _ _ hA hc h k
        · simp [Rd.eval] at hs
    | _ => simp [argOf, Rd.eval] at hs

theorem argsOf_sound (h : SimB E N env mem a w β) {B : Nat → Prop} (hB : ∀ b, allow E w β b → B b) : ∀ {ps : List PK} {svs : List SV} {vs : List Value} {tvs : List TV} {lent bs : List Nat},
    svs.length = vs.length → (∀ (i : Nat) (sv : SV) (v : Value), svs[i]? = some sv → vs[i]? = some v → RepSV (allow E w β) w β mem sv v) →
    (argsOf ps svs).eval mem = some (tvs, lent, bs) → (∀ id ∈ lent, ∀ b, Held β id b → B b) →
    (∀ id ∈ bs, ∃ ep cells, mem id = some (.box ep cells)) ∧ ∃ bs', bs.length = bs'.length ∧ (∀ i (h : i < bs.length) (h' : i < bs'.length), ∃ D, β bs[i] = some (bs'[i], D)) ∧ RepArgs B w ps vs tvs bs' := by
  intro ps
  induction ps with
  | nil =>
    intro svs vs tvs lent bs hl hr hs _
    cases svs with
    | nil =>
      simp only [argsOf, Rd.eval, Option.some.injEq, Prod.mk.injEq] at hs; obtain ⟨rfl, rfl, rfl⟩ := hs
      cases vs with
      | nil => exact ⟨by simp, [], rfl, by simp, .nil⟩
      | cons => simp at hl
    | cons => simp [argsOf, Rd.eval] at hs
  | cons p ps ih =>
    intro svs vs tvs lent bs hl hr hs hlent
    cases svs with
    | nil => simp [argsOf, Rd.eval] at hs
    | cons sv svs =>
      cases vs with
      | nil => simp at hl
      | cons v vs =>
        simp only [argsOf] at hs; obtain ⟨⟨x, l1, b1⟩, h1, hs⟩ := Rd.bind_some hs; obtain ⟨⟨xs, l2, b2⟩, h2, hs⟩ := Rd.bind_some hs; simp only [Rd.eval, Option.some.injEq, Prod.mk.injEq] at hs; obtain ⟨rfl, rfl, rfl⟩ := hs; obtain ⟨a1, bs1, a2, a3, a4⟩ := argOf_sound h hB (hr 0 sv v rfl rfl) h1 (fun id hi => hlent id (by simp [hi])); obtain ⟨c1, bs2, c2, c3, c4⟩ := ih (by simpa using hl) (fun i sv v hi hj => hr (i + 1) sv v (by simpa using hi) (by simpa using hj)) h2 (fun id hi => hlent id (by simp [hi])); refine ⟨fun id hid => ?_, bs1 ++ bs2, by simp [a2, c2], fun i g1 g2 => ?_, a4 c4⟩
        · rcases mem_append.1 hid with hid | hid
          · exact a1 id hid
          · exact c1 id hid
        · by_cases hlt : i < b1.length
          · rw [getElem_append_left hlt, getElem_append_left (by omega)]; exact a3 i hlt (by omega)
          · (have g1' : i < b1.length + b2.length := by simpa using g1); rw [getElem_append_right (by omega), getElem_append_right (by omega)]; have := c3 (i - b1.length) (by omega) (by omega)
            simpa [a2] using this

end
end Go.Am
