/-
  Am, part R: an operation in its region.
-/
import Derived.Test.YtdcnkekcdncelaaDoorAmQ
set_option linter.all false
namespace Go.Am
open List

theorem SimB.laid [U : Univ] {E : Ent} {N : Nat} {env : Nat → SV} {mem : Nat → Option Blk} {a : Act} {w : World} {β : Bind} (h : SimB E N env mem a w β) {bs' : List Nat} (hb : ∀ b, b ∈ bs' → ∃ i D, β i = some (b, D)) : Laid w bs' := by
  obtain ⟨l1, l2⟩ := E.lay; refine ⟨fun b hg => ⟨Nat.lt_of_lt_of_le (l1 b hg).1 h.grow, fun hm => ?_⟩, U.gst E.w0 w (fun b hg => h.old b (l1 b hg).1 (l1 b hg).2) l2⟩; obtain ⟨i, D, e⟩ := hb b hm; rcases (h.dom i b D e).2.2 with h1 | h1
  · exact (l1 b hg).2 h1
  · have := (l1 b hg).1; omega

variable [U : Univ]

section
variable {E : Ent} {N : Nat} {env : Nat → SV} {mem : Nat → Option Blk} {a : Act} {w : World} {β : Bind} {P : Program} {C : Ctx} {ops : Array Oper} {Q : Exit → Act → World → Prop}

theorem packV_rep {A : Nat → Prop} {svs : List SV} {rvs : List Value} (hl : svs.length = rvs.length) (hr : ∀ (i : Nat) (sv : SV) (v : Value), svs[i]? = some sv → rvs[i]? = some v → RepSV A w β mem sv v) :
    RepSV A w β mem (packSV svs) (packV rvs) := by
  match svs, rvs, hl with
  | [], [], _ => exact .tup [] [] rfl (by simp)
  | [sv], [v], _ => exact hr 0 sv v rfl rfl
  | sv :: sv2 :: svs, v :: v2 :: rvs, hl => exact .tup _ _ hl hr

theorem deepL_congr {mem mem' : Nat → Option Blk} {go : Nat → TV → Rd (List SV × List (Nat × Blk))}
    (hgo : ∀ (id : Nat) (tv : TV) (svs : List SV) (ms : List (Nat × Blk)), (∀ i ∈ ms.map (·.1), mem' i = mem i) → (go id tv).eval mem = some (svs, ms) → (go id tv).eval mem' = some (svs, ms)) :
    ∀ (l : List TV) (id : Nat) (svs : List SV) (ms : List (Nat × Blk)), (∀ i ∈ ms.map (·.1), mem' i = mem i) → (deepL go id l).eval mem = some (svs, ms) → (deepL go id l).eval mem' = some (svs, ms) := by
  intro l
  induction l with
  | nil => intro id svs ms _ h; exact h
  | cons tv r ih =>
    intro id svs ms hc h; simp only [deepL] at h ⊢; obtain ⟨⟨c1, m1⟩, h1, h⟩ := Rd.bind_some h; obtain ⟨⟨c2, m2⟩, h2, h⟩ := Rd.bind_some h; simp only [Rd.eval, Option.some.injEq, Prod.mk.injEq] at h; obtain ⟨rfl, rfl⟩ := h; have e1 := hgo id tv c1 m1 (fun i hi => hc i (by rw [map_append]; exact mem_append_left _ hi)) h1; have e2 := ih _ c2 m2 (fun i hi => hc i (by rw [map_append]; exact mem_append_right _ hi)) h2; rw [Rd.eval_bind, e1]; simp only [Option.bind_some]; rw [Rd.eval_bind, e2]; rfl

theorem deepCells_congr {mem mem' : Nat → Option Blk} : ∀ (f id : Nat) (tv : TV) (svs : List SV) (ms : List (Nat × Blk)), (∀ i ∈ ms.map (·.1), mem' i = mem i) → (deepCells f id tv).eval mem = some (svs, ms) → (deepCells f id tv).eval mem' = some (svs, ms) := by
  have sl : ∀ (id : Nat) (u : Ty) (xs : List u.den) (svs : List SV) (ms : List (Nat × Blk)), (∀ i ∈ ms.map (·.1), mem' i = mem i) →
      ((freshEp id).bind fun ep => if u.flatN fuel then Rd.ret ([SV.arr id ep], [(id, Blk.arr ep u xs)]) else Rd.ret ([SV.tr id ep], [(id, Blk.tree ep u xs)])).eval mem = some (svs, ms) →
      ((freshEp id).bind fun ep => if u.flatN fuel then Rd.ret ([SV.arr id ep], [(id, Blk.arr ep u xs)]) else Rd.ret ([SV.tr id ep], [(id, Blk.tree ep u xs)])).eval mem' = some (svs, ms) := by
    intro id u xs svs ms hc h; obtain ⟨ep, hep, h⟩ := Rd.bind_some h
    have hid : id ∈ ms.map (·.1) := by
      split at h <;> (simp only [Rd.eval, Option.some.injEq, Prod.mk.injEq] at h; obtain ⟨_, rfl⟩ := h; simp)
    rw [Rd.eval_bind, freshEp_congr (hc id hid), hep]; simp only [Option.bind_some]; split
    · rename_i hf; rw [if_pos hf] at h; exact h
    · rename_i hf; rw [if_neg hf] at h; exact h
  intro f
  induction f with
  | zero =>
    rintro id ⟨t, x⟩ svs ms hc h
    cases t with
    | slice u => exact sl id u x svs ms hc h
    | _ => exact h
  | succ f ih =>
    rintro id ⟨t, x⟩ svs ms hc h
    cases t with
    | slice u => exact sl id u x svs ms hc h
    | named n => exact deepL_congr ih _ _ _ _ hc h
    | _ => exact h

theorem ressOf_congr : ∀ {rs : List RK} {id : Nat} {tvs : List TV} {mem mem' : Nat → Option Blk} {rvs : List SV} {ms : List (Nat × Blk)}, (∀ i ∈ ms.map (·.1), mem' i = mem i) → (ressOf id rs tvs).eval mem = some (rvs, ms) → (ressOf id rs tvs).eval mem' = some (rvs, ms) := by
  intro rs
  induction rs with
  | nil =>
    intro id tvs mem mem' rvs ms _ h
    cases tvs with
    | nil => exact h
    | cons => simp [ressOf, Rd.eval] at h
  | cons r rs ih =>
    intro id tvs mem mem' rvs ms hc h
    cases tvs with
    | nil => simp [ressOf, Rd.eval] at h
    | cons tv tvs =>
      simp only [ressOf] at h ⊢; obtain ⟨⟨sv, m1⟩, h1, h⟩ := Rd.bind_some h; obtain ⟨⟨svs, m2⟩, h2, h⟩ := Rd.bind_some h; simp only [Rd.eval, Option.some.injEq, Prod.mk.injEq] at h; obtain ⟨rfl, rfl⟩ := h; have e2 := ih (mem' := mem') (fun i hi => hc i (by simp at hi ⊢; exact .inr hi)) h2
      have e1 : (resOf id r tv).eval mem' = some (sv, m1) := by
        obtain ⟨t, x⟩ := tv
        cases r with
        | err =>
          cases t with
          | bool => exact h1
          | _ => simp [resOf, Rd.eval] at h1
        | val u =>
          simp only [resOf] at h1 ⊢; split at h1
          · rename_i e; rw [if_pos e]; exact h1
          · simp [Rd.eval] at h1
        | clo f u =>
          simp only [resOf] at h1 ⊢; split at h1
          · rename_i e; rw [if_pos e]; exact h1
          · simp [Rd.eval] at h1
        | own u =>
          cases t with
          | slice t =>
            simp only [resOf] at h1 ⊢; split at h1
            · rename_i e; obtain ⟨ep, hep, h1⟩ := Rd.bind_some h1; simp only [Rd.eval, Option.some.injEq, Prod.mk.injEq] at h1; obtain ⟨rfl, rfl⟩ := h1; rw [if_pos e, Rd.eval_bind, freshEp_congr (hc id (by simp)), hep]; rfl
            · simp [Rd.eval] at h1
          | _ => simp [resOf, Rd.eval] at h1
        | ptr n =>
          cases t with
          | named m =>
            simp only [resOf] at h1 ⊢; split at h1
            · rename_i e; obtain ⟨ep, hep, h1⟩ := Rd.bind_some h1; simp only [Rd.eval, Option.some.injEq, Prod.mk.injEq] at h1; obtain ⟨rfl, rfl⟩ := h1; rw [if_pos e, Rd.eval_bind, freshEp_congr (hc id (by simp)), hep]; rfl
            · simp [Rd.eval] at h1
          | _ => simp [resOf, Rd.eval] at h1
        | deep u =>
          simp only [resOf] at h1 ⊢; split at h1
          · rename_i e; rw [if_pos e]; have hc1 : ∀ i ∈ m1.map (·.1), mem' i = mem i := fun i hi => hc i (by rw [map_append]; exact mem_append_left _ hi)
            cases t with
            | named n =>
              simp only [deepSV] at h1 ⊢; obtain ⟨⟨c, m⟩, h3, h1⟩ := Rd.bind_some h1; (have hm : m = m1 := by simp only [Rd.eval, Option.some.injEq, Prod.mk.injEq] at h1; exact h1.2); rw [Rd.eval_bind, deepCells_congr _ _ _ _ _ (by rw [hm]; exact hc1) h3]; exact h1
            | slice v =>
              simp only [deepSV] at h1 ⊢; obtain ⟨⟨c, m⟩, h3, h1⟩ := Rd.bind_some h1
              have hm : m = m1 := by
                match c, h1 with
                | [sv0], h1 => simp only [Rd.eval, Option.some.injEq, Prod.mk.injEq] at h1; exact h1.2
                | [], h1 => simp [Rd.eval] at h1
                | _ :: _ :: _, h1 => simp [Rd.eval] at h1
              rw [Rd.eval_bind, deepCells_congr _ _ _ _ _ (by rw [hm]; exact hc1) h3]
              match c, h1 with
              | [sv0], h1 => exact h1
              | [], h1 => simp [Rd.eval] at h1
              | _ :: _ :: _, h1 => simp [Rd.eval] at h1
            | _ => simp [deepSV, Rd.eval] at h1
          · simp [Rd.eval] at h1
      rw [Rd.eval_bind, e1]; simp only [Option.bind_some]; rw [Rd.eval_bind, e2]; rfl

theorem boxesOf_congr : ∀ {ids : List Nat} {tvs : List TV} {mem mem' : Nat → Option Blk} {bw : List (Nat × Blk)}, (∀ i ∈ ids, mem' i = mem i) → (boxesOf ids tvs).eval mem = some bw → (boxesOf ids tvs).eval mem' = some bw := by
  intro ids
  induction ids with
  | nil =>
    intro tvs mem mem' bw _ h
    cases tvs with
    | nil => exact h
    | cons => simp [boxesOf, Rd.eval] at h
  | cons id ids ih =>
    intro tvs mem mem' bw hc h
    cases tvs with
    | nil => simp [boxesOf, Rd.eval] at h
    | cons tv tvs =>
      obtain ⟨t, x⟩ := tv; simp only [boxesOf, Rd.eval] at h ⊢; rw [hc id (by simp)]
      cases hm : mem id with
      | none => rw [hm] at h; simp [Rd.eval] at h
      | some k =>
        rw [hm] at h; simp only at h ⊢; obtain ⟨r, hr, h⟩ := Rd.bind_some h; rw [Rd.eval_bind, ih (fun i hi => hc i (by simp [hi])) hr]; exact h

theorem callsIn_fence {E : Ent} {n : Nat} {f : FuncId} {args : Array Value} {w : World} {R : Ending → World → Prop} (h : Calls P f args w R) : CallsIn E.fence n P f args w R :=
  (callsIn_wide (n := n)).2 h

theorem oper_sound (hC : CtxOK P C) (h : SimB E N env mem a w β) {d0 : Nat} {wr : Bool} {o : Oper} {r : Res} (hs : (stepOp C wr env d0 o.op).eval mem = some r) (hob : ∀ p ∈ r.ob, p) (hd : ∀ d, o.dst = some d → d < N)
    {K : Act → World → Prop} (hK : ∀ a' w', Sim E N (putE env o.dst r.val) (updm mem r.memw) a' w' → K a' w') : o.wpIn E.fence 0 P a w K Q := by
  cases hnc : isCall o.op with
  | false =>
    obtain ⟨x, v, w', β', hrun, hx, hsim, hv⟩ := stepOp_sound h hC.ty hs hob hnc; refine ⟨fun _ _ => trivial, ?_⟩; rw [Oper.semAt_eq _ _ _ (fun c e => by rw [e] at hs; simp [stepOp, Rd.eval] at hs), hrun]; rcases hx with rfl | ⟨rfl, rfl⟩
    · exact hK _ _ ⟨β', hsim.put hd hv⟩
    · exact hK _ _ ⟨β', hsim.put hd hv⟩
  | true =>
    obtain ⟨dst, op, type, pos, after, guard⟩ := o; simp only at hs hnc hd hK
    cases op with
    | call c =>
      obtain ⟨callee, args, ats⟩ := c
      cases callee with
      | builtin b => simp [isCall] at hnc
      | invoke f m => simp [stepOp, Rd.eval] at hs
      | value f =>
        simp only [stepOp] at hs
        cases hv : opvs env args.toList with
        | mk vs ps =>
          cases hf : opv env f with
          | mk fv qs =>
            rw [hv, hf] at hs; simp only at hs
            cases fv with
            | clo g caps =>
              simp only at hs
              cases hsp : C.sp g with
              | none => rw [hsp] at hs; simp [Rd.eval] at hs
              | some sp =>
                rw [hsp] at hs; simp only [Rd.withOb] at hs; obtain ⟨r', hr', hs⟩ := Rd.bind_some hs; simp only [Rd.eval, Option.some.injEq] at hs; subst hs; simp only at hob hK; obtain ⟨⟨fn, hfn, hname, hbody⟩, hcontract⟩ := hC.fn g sp hsp; obtain ⟨k1, k2⟩ := opvs_rep h args.toList hv (fun p hp => hob p (by simp [hp])); have hfr := opv_rep h hf (fun p hp => hob p (by simp [hp])); generalize hfe : a.eval f = fval at hfr
                cases hfr with
                | clo _ _ cvs hcl hcr =>
                  -- the operation enters the function
                  have hrun : ∀ w, (execOp a.eval ⟨dst, .call ⟨.value f, args, ats⟩, type, pos, after, guard⟩).run P w = .ok (.enter g (args.toList.map a.eval ++ cvs).toArray) w := by
                    intro w; (have e1 : args.map a.eval = (args.toList.map a.eval).toArray := by apply Array.ext'; simp); simp only [execOp, resolve, hfe, Deferred.ofValue, Sem.run_bind, Sem.run_pure, Result.andThen_ok, invoke, callFunc, run_program, hfn, hname, hbody, Bool.false_eq_true, if_false, e1]; simp
                  refine ⟨fun _ _ => trivial, ?_⟩; rw [Oper.semAt_eq _ _ _ (fun c e => by cases e), hrun w]; refine ⟨fun h => (by cases h), callsIn_fence ?_⟩; have hargl : (vs ++ caps).length = (args.toList.map a.eval ++ cvs).length := by simp only [length_append, k1, hcl]
                  have hargr : ∀ (i : Nat) (sv : SV) (v : Value), (vs ++ caps)[i]? = some sv → (args.toList.map a.eval ++ cvs)[i]? = some v → RepSV (allow E w β) w β mem sv v := by
                    intro i sv v hi hj; by_cases hlt : i < vs.length
                    · rw [getElem?_append_left hlt] at hi; rw [getElem?_append_left (by omega)] at hj; exact k2 i sv v hi hj
                    · rw [getElem?_append_right (by omega)] at hi hj; rw [k1] at hi; exact hcr _ sv v hi hj
                  -- what the abstract call did
                  simp only [doCall] at hr'; obtain ⟨⟨tvs, lent, bs⟩, hargs, hr'⟩ := Rd.bind_some hr'; simp only at hr'; split at hr'
                  · simp [Rd.eval] at hr'
                  · rename_i hc1; simp only [Bool.or_eq_true, Bool.not_eq_true', not_or, Bool.not_eq_true, Bool.not_eq_false] at hc1; obtain ⟨hbn, hlb⟩ := hc1; obtain ⟨⟨rvs, ms⟩, hms, hr'⟩ := Rd.bind_some hr'; obtain ⟨bw, hbw, hr'⟩ := Rd.bind_some hr'; simp only at hr'; split at hr'
                    · simp [Rd.eval] at hr'
                    · rename_i hc2
                      have hdl : ∀ id ∈ lent, id ∉ bs := by
                        intro id hid hm; rw [any_eq_false] at hlb; exact hlb id hid (by simpa using hm)
                      have hdm : ∀ i ∈ ms.map (·.1), i ∉ lent ∧ i ∉ bs := by
                        intro i hi; obtain ⟨⟨i', k⟩, hm, rfl⟩ := mem_map.1 hi; rw [Bool.not_eq_true, any_eq_false] at hc2; have := hc2 _ hm
                        simp only [Bool.or_eq_true, not_or] at this
                        exact ⟨by simpa using this.1, by simpa using this.2⟩
                      -- the call, its state before being (mem0, β0)
                      have core : ∀ {mem0 : Nat → Option Blk} {β0 : Bind} {B : Nat → Prop}, SimB E N env mem0 a w β0 → (∀ b, B b → b < w.heap.size) →
                          (∀ id ∈ bs, ∃ ep cells, mem0 id = some (.box ep cells)) → ∀ bs' : List Nat, bs.length = bs'.length → (∀ i (h : i < bs.length) (h' : i < bs'.length), ∃ D, β0 bs[i] = some (bs'[i], D)) →
                          (∀ b, B b → b ∉ bs') → RepArgs B w sp.ps (args.toList.map a.eval ++ cvs) tvs bs' → sp.pre tvs →
                          (ressOf (d0 * 4) sp.rs (sp.fn tvs)).eval mem0 = some (rvs, ms) → (boxesOf bs (sp.bx tvs)).eval mem0 = some bw →
                          ((∀ b, B b → allow E w β0 b) ∨ (sp.rs.all RK.flat = true ∧ sp.ps.all PK.flat = true)) →
                          (∀ a' w', Sim E N (putE env dst (packSV rvs)) (updm mem0 (ms ++ bw)) a' w' → K a' w') →
                          Calls P g (args.toList.map a.eval ++ cvs).toArray w fun
                            | .returned v, w'' => K (a.put dst v) w''
                            | .panicked chain, w'' => Q (.panic chain) a w''
                            | .outgrown, _ => LetsOut Q := by
                        intro mem0 β0 B h0 hBs hbx bs' hbl hbb hBn hra hpre hms0 hbw0 hconv hK0; have hnd := nodupN_nodup hbn
                        have hbs'lt : ∀ b, b ∈ bs' → b < w.heap.size := by
                          intro b hb; obtain ⟨j, hj, rfl⟩ := mem_iff_getElem.1 hb; obtain ⟨D, hD⟩ := hbb j (by omega) hj; exact (h0.dom _ _ _ hD).2.1
                        have hnd' : bs'.Nodup := by
                          rw [nodup_iff_pairwise_ne, pairwise_iff_getElem]; intro i j hi hj hij e; obtain ⟨D, hD⟩ := hbb i (by omega) hi; obtain ⟨D', hD'⟩ := hbb j (by omega) hj; rw [e] at hD; have := h0.inj _ _ _ _ _ hD hD'; exact absurd this ((pairwise_iff_getElem.1 (nodup_iff_pairwise_ne.1 hnd)) i j (by omega) (by omega) hij)
                        refine (hcontract B w _ tvs bs' (fun b hb => ⟨hBs b hb, hBn b hb⟩) hbs'lt hnd' hra hpre (h0.laid fun b hb => by
                          obtain ⟨i, hi, rfl⟩ := mem_iff_getElem.1 hb
                          exact ⟨_, hbb i (by omega) hi⟩)).mono ?_
                        rintro e w' ⟨rvals, nb, A', hp⟩
                        have hallow : ∀ b, allow E w β0 b → b ∉ bs' := by
                          intro b hb hm; obtain ⟨j, hj, rfl⟩ := mem_iff_getElem.1 hm; obtain ⟨D, hD⟩ := hbb j (by omega) hj; exact hb.2.2.1 _ _ hD
                        obtain ⟨β', hs', hl', hr''⟩ := after_call h0 hbx hbl hbb hnd hallow hms0 hbw0 (fun i hi => (hdm i hi).2) hconv hp; rw [hp.ret]; exact hK0 _ _ ⟨β', hs'.put hd (packV_rep hl' hr'')⟩
                      have hbox0 : ∀ (B : Nat → Prop), (∀ b, allow E w β b → B b) → (∀ id ∈ lent, ∀ b, Held β id b → B b) →
                          (∀ id ∈ bs, ∃ ep cells, mem id = some (.box ep cells)) ∧ ∃ bs', bs.length = bs'.length ∧ (∀ i (h : i < bs.length) (h' : i < bs'.length), ∃ D, β bs[i] = some (bs'[i], D)) ∧ RepArgs B w sp.ps (args.toList.map a.eval ++ cvs) tvs bs' :=
                        fun B hB hl => argsOf_sound h hB hargl hargr hargs hl
                      split at hr'
                      · rename_i hiso; simp only [Rd.eval, Option.some.injEq] at hr'; subst hr'; have hpre := hob (sp.pre tvs) (by simp); obtain ⟨hbx, bs', hbl, hbb, hra⟩ := hbox0 (fun b => allow E w β b ∨ ∃ id ∈ lent, Held β id b) (fun b hb => .inl hb) (fun id hid b hb => .inr ⟨id, hid, hb⟩); refine core h ?_ hbx bs' hbl hbb ?_ hra hpre hms hbw ?_ hK
                        · rintro b (hb | ⟨id, hid, ⟨D, hb⟩ | hb⟩)
                          · exact hb.1
                          · exact (h.dom _ _ _ hb).2.1
                          · exact (h.own _ _ hb).2.1
                        · rintro b hb hm; obtain ⟨j, hj, rfl⟩ := mem_iff_getElem.1 hm; obtain ⟨D', hD'⟩ := hbb j (by omega) hj; rcases hb with hb | ⟨id, hid, ⟨D, hb⟩ | hb⟩
                          · exact hb.2.2.1 _ _ hD'
                          · exact hdl id hid (by rw [h.inj _ _ _ _ _ hb hD']; exact getElem_mem _)
                          · exact (h.own _ _ hb).2.2.2 _ _ hD'
                        · simp only [Bool.or_eq_true, Bool.and_eq_true] at hiso; rcases hiso with hiso | hiso
                          · refine .inl ?_; rintro b (hb | ⟨id, hid, hb⟩)
                            · exact hb
                            · (have : lent = [] := by simpa using hiso); rw [this] at hid; cases hid
                          · exact .inr hiso
                      · split at hr'
                        · rename_i hnl; obtain ⟨ks, hks, hr'⟩ := Rd.bind_some hr'; simp only [Rd.eval, Option.some.injEq] at hr'; subst hr'; have hpre := hob (sp.pre tvs) (by simp); obtain ⟨β2, h2, hA2, hid2, hsame, _⟩ := h.kill lent hnl hks; obtain ⟨hbx, bs', hbl, hbb, hra⟩ := hbox0 (allow E w β2) hA2 hid2; have hsb : ∀ id ∈ bs, β2 id = β id ∧ updm mem ks id = mem id := fun id hid => hsame id (fun hm => hdl id hm hid); have hms2 : (ressOf (d0 * 4) sp.rs (sp.fn tvs)).eval (updm mem ks) = some (rvs, ms) := ressOf_congr (fun i hi => (hsame i (hdm i hi).1).2) hms; have hbw2 : (boxesOf bs (sp.bx tvs)).eval (updm mem ks) = some bw := boxesOf_congr (fun i hi => (hsb i hi).2) hbw; refine core h2 (fun b hb => hb.1) (fun id hid => ?_) bs' hbl (fun i h1 h2 => ?_) ?_ hra hpre hms2 hbw2 (.inl fun b hb => hb) (fun a' w' hsim => hK a' w' (by rw [updm_append]; exact hsim))
                          · rw [(hsb id hid).2]; exact hbx id hid
                          · rw [(hsb _ (getElem_mem h1)).1]; exact hbb i h1 h2
                          · rintro b hb hm; obtain ⟨j, hj, rfl⟩ := mem_iff_getElem.1 hm; obtain ⟨D', hD'⟩ := hbb j (by omega) hj; rw [← (hsb _ (getElem_mem _)).1] at hD'; exact hb.2.2.1 _ _ hD'
                        · simp [Rd.eval] at hr'
            | _ => simp [Rd.eval] at hs
    | _ => simp [isCall] at hnc

end
end Go.Am
