/-
  Am, part L: addresses, slices, parts, small operations.
-/
import Derived.Test.YtjcjpeckfikfkaaAmJ
set_option linter.all false
namespace Go.Am
variable [U : Univ]

section
variable {E : Ent} {N : Nat} {env : Nat → SV} {mem : Nat → Option Blk} {a : Act} {w : World} {β : Bind} {P : Program} {C : Ctx}

theorem allow_setRow {id b D : Nat} (hb : β id = some (b, D)) (cs : Array Value) : ∀ c, allow E w β c → allow E (w.setRow b cs) β c ∧ (w.setRow b cs).heap[c]? = w.heap[c]? := by
  rintro c ⟨c1, c2, c3⟩; exact ⟨⟨by simpa using c1, c2, c3⟩, setRow_other _ _ _ _ (by rintro rfl; exact c3.1 id D hb)⟩

theorem store_gives (h : SimB E N env mem a w β) {T : Nat} {t : Ty} (ht : TyOK P C T t) {sa sv : SV} {p v : Value} {m : List (Nat × Blk)}
    (hp : RepSV (allow E w β) w β mem sa p) (hv : RepSV (allow E w β) w β mem sv v) (hs : (storeSV t sv sa).eval mem = some m) :
    ∃ w' β', (Instr.storeAt T p v).run P w = .ok () w' ∧ SimB E N env (updm mem m) a w' β' := by
  cases hp with
  | ref id ep off b hm hv' =>
    simp only [storeSV] at hs; replace hs := Rd.mem_some hs
    cases hmi : mem id with
    | none => rw [hmi] at hs; simp [Rd.eval] at hs
    | some k =>
      rw [hmi] at hs
      cases k with
      | arr => simp [Rd.eval] at hs
      | tree => simp [Rd.eval] at hs
      | dead => simp [Rd.eval] at hs
      | mp => simp [Rd.eval] at hs
      | hole => simp [Rd.eval] at hs
      | box ep' cells =>
        simp only at hs
        cases hcl : sv.cells with
        | none => rw [hcl] at hs; simp [Rd.eval] at hs
        | some vs =>
          rw [hcl] at hs; simp only at hs; split at hs
          · rename_i e; obtain ⟨rfl, hsz, hle⟩ := e; simp only [Rd.eval, Option.some.injEq] at hs; subst hs; obtain ⟨D, hb⟩ := hv' cells hmi; obtain ⟨b', D', cs, el, hb', hh, hcs, hcell⟩ := h.blk id _ hmi; rw [hb] at hb'; (obtain ⟨rfl, rfl⟩ : b = b' ∧ D = D' := by simpa using hb'); obtain ⟨k1, k2, k3⟩ := hv.cells_rep hcl; (have hvl : v.cells.toList.length = vs.length := by simpa using k1.symm); have hst := run_storeCells_at P b off el v.cells.toList 0 cs w hh (by rw [hvl]; omega) k2; simp only [Nat.add_zero] at hst; refine ⟨w.setRow b (cs.toList.take off ++ v.cells.toList ++ cs.toList.drop (off + v.cells.toList.length)).toArray, β, ?_, h.write (w' := w.setRow b (cs.toList.take off ++ v.cells.toList ++ cs.toList.drop (off + v.cells.toList.length)).toArray) (id := id) (k := .box ep' (putCells cells off vs)) hmi hb (Nat.le_refl _) (fun _ => trivial) rfl rfl rfl ⟨rfl, Nat.le_refl _⟩ (setRow_size _ _ _) (fun c hc => setRow_other _ _ _ _ hc) ?_⟩
            · simp only [Instr.storeAt, Instr.sureAddr, Sem.run_bind, Sem.run_pure, Result.andThen_ok, storeVar, ht.size, ← hsz, ← k1, ne_eq, not_true, if_false, Sem.run_ite]; exact hst
            · refine ⟨b, D, _, el, hb, setRow_heap _ _ _ _ _ _ hh, ?_, fun j sv' hj => ?_⟩
              · simp only [putCells, List.size_toArray, List.length_append, List.length_take, List.length_drop, Array.length_toList, hvl] at *; simp only [Array.size_eq_length_toList] at hcs ⊢; omega
              · have key : ∃ u, (cs.toList.take off ++ v.cells.toList ++ cs.toList.drop (off + v.cells.toList.length))[j]? = some u ∧ u.oneCell' = true ∧ RepSV (allow E w β) w β mem sv' u := by
                  simp only [putCells] at hj; (have hl1 : (cells.take off).length = off := by simp; omega); (have hl2 : (cs.toList.take off).length = off := by simp; omega); by_cases hj1 : j < off
                  · rw [List.append_assoc, List.getElem?_append_left (by omega), List.getElem?_take, if_pos hj1] at hj ⊢; simpa using hcell j sv' hj
                  · by_cases hj2 : j < off + vs.length
                    · rw [List.append_assoc, List.getElem?_append_right (by omega), List.getElem?_append_left (by omega)] at hj ⊢; rw [hl1] at hj; rw [hl2]; (have hlt : j - off < v.cells.toList.length := by omega); exact ⟨_, List.getElem?_eq_getElem hlt, k2 _ (List.getElem_mem hlt), k3 _ _ _ hj (List.getElem?_eq_getElem hlt)⟩
                    · rw [List.append_assoc, List.getElem?_append_right (by omega), List.getElem?_append_right (by omega), List.getElem?_drop] at hj ⊢; rw [hl1] at hj; rw [hl2, hvl]; rw [show off + vs.length + (j - off - vs.length) = j by omega] at hj ⊢; simpa using hcell j sv' hj
                obtain ⟨u, hu, hu1, hur⟩ := key; refine ⟨u, by simpa using hu, hu1, ?_⟩; refine hur.mono (allow_setRow hb _) fun i k hk => ?_; by_cases hi : i = id
                · subst hi; rw [hmi] at hk; obtain rfl := Option.some.inj hk; exact ⟨_, setm_same _ _ _, Nat.le_refl _, fun _ => ⟨trivial, rfl⟩⟩
                · exact ⟨k, by rw [setm_ne _ _ hi]; exact hk, Nat.le_refl _, fun _ => ⟨k.alike_refl, rfl⟩⟩
          · simp [Rd.eval] at hs
  | eref id ep i pth b ov hm hv' =>
    simp only [storeSV] at hs; replace hs := Rd.mem_some hs
    cases hmi : mem id with
    | none => rw [hmi] at hs; simp [Rd.eval] at hs
    | some k =>
      rw [hmi] at hs
      cases k with
      | box => simp [Rd.eval] at hs
      | tree => simp [Rd.eval] at hs
      | dead => simp [Rd.eval] at hs
      | mp => simp [Rd.eval] at hs
      | hole => simp [Rd.eval] at hs
      | arr ep' u xs =>
        simp only at hs; split at hs
        · rename_i e; obtain ⟨rfl, hnin, hnd⟩ := e; (have hnin : id ∉ lentIds fuel sv := by simpa using hnin); obtain ⟨tv, htv, hs⟩ := Rd.bind_some hs; obtain ⟨y, hyd, htv⟩ := Rd.bind_some htv; obtain rfl := Option.some.inj htv; split at hs
          · rename_i tv' htv'; split at hs
            · rename_i y' hy'; obtain ⟨ks, hks, hs⟩ := Rd.bind_some hs; simp only [Rd.eval, Option.some.injEq] at hs; subst hs; obtain ⟨hlt, D, o, u', hb, hpo, rfl⟩ := hv' u xs hmi; obtain ⟨β2, h2, hA2, hid2, hsame, _⟩ := h.kill (lentIds fuel sv) hnd hks; have hy : RepV (allow E w β2) w t y v := toD_sound h hA2 fuel (fun _ id hi b hbc => hid2 id hi b hbc) hv hyd; obtain ⟨s1, s2⟩ := hsame id hnin; rw [updm_append, updm_one]; rw [← s1] at hb; rw [← s2] at hmi; clear hv hv' s1 s2 hsame hid2 hA2 hyd hks hm; generalize updm mem ks = mem at h2 hmi ⊢; clear h
              rename SimB E N env _ a w β2 => h
              generalize β2 = β at *; obtain ⟨hlim, ⟨hb', _⟩ | ⟨b', D', cs, el, css, hb', hh, hsz, hD, hel⟩⟩ := h.blk id _ hmi
              · rw [hb] at hb'; simp at hb'
              rw [hb] at hb'; (obtain ⟨rfl, rfl⟩ : b = b' ∧ D = D' := by simpa using hb'); obtain ⟨e1, e2, e3⟩ := hel i hlt; rw [show xs.getD i u.zero = xs[i] by simp [hlt]] at htv'; obtain ⟨hyc, hysz⟩ := hy.cells; obtain ⟨o', x', rfl, ho', hle', hr'⟩ := updAt_rep pth e3 hyc htv'; rw [ho'] at hpo; obtain ⟨rfl, rfl⟩ : o' = o ∧ t = u' := by simpa using hpo
              obtain rfl : y' = x' := by
                simp only [TV.to, dif_pos, Option.some.injEq] at hy'; exact hy'.symm
              have hvl : v.cells.toList.length = t.size := by simpa using hysz
              have hend : i * u.size + u.size ≤ cs.size := by
                rw [hsz]; have : (i + 1) * u.size ≤ D * u.size := Nat.mul_le_mul_right _ (by omega); rw [Nat.add_mul] at this; omega
              have hst := run_storeCells_at P b (i * u.size + o') el v.cells.toList 0 cs w hh (by rw [hvl]; omega) hyc.one; simp only [Nat.add_zero] at hst; refine ⟨w.setRow b (cs.toList.take (i * u.size + o') ++ v.cells.toList ++ cs.toList.drop (i * u.size + o' + v.cells.toList.length)).toArray, β, ?_, h.write (w' := w.setRow b (cs.toList.take (i * u.size + o') ++ v.cells.toList ++ cs.toList.drop (i * u.size + o' + v.cells.toList.length)).toArray) (id := id) (k := .arr ep' u (xs.set i y')) hmi hb (Nat.le_refl _) (fun _ => ⟨rfl, by simp⟩) rfl rfl rfl ⟨rfl, Nat.le_refl _⟩ (setRow_size _ _ _) (fun c hc => setRow_other _ _ _ _ hc) ?_⟩
              · simp only [Instr.storeAt, Instr.sureAddr, Sem.run_bind, Sem.run_pure, Result.andThen_ok, storeVar, ht.size, hysz, ne_eq, not_true, if_false, Sem.run_ite]; exact hst
              · refine ⟨by simpa using hlim, .inr ⟨b, D, _, el, fun k => if k = i then (css i).take o' ++ v.cells.toList ++ (css i).drop (o' + t.size) else css k, hb, setRow_heap _ _ _ _ _ _ hh, ?_, by simpa using hD, fun k hk => ?_⟩⟩
                · simp only [List.size_toArray, List.length_append, List.length_take, List.length_drop, Array.length_toList, hvl]; rw [← hsz]; omega
                · (have hk' : k < xs.length := by simpa using hk); (have htl : (cs.toList.take (i * u.size + o')).length = i * u.size + o' := by simp; omega); by_cases hki : k = i
                  · subst hki; simp only [↓reduceIte]; refine ⟨hr'.length, fun j v' hj => ?_, ?_⟩
                    · (have hj' : j < u.size := by rw [← hr'.length]; exact (List.getElem?_eq_some_iff.1 hj).1); (have hl1 : ((css k).take o').length = o' := by simp; omega); simp only [List.getElem?_toArray]; by_cases hj1 : j < o'
                      · rw [List.append_assoc, List.getElem?_append_left (by omega), List.getElem?_take, if_pos hj1] at hj; rw [List.append_assoc, List.getElem?_append_left (by omega), List.getElem?_take, if_pos (by omega)]; simpa using e2 j v' hj
                      · by_cases hj2 : j < o' + t.size
                        · rw [List.append_assoc, List.getElem?_append_right (by omega), List.getElem?_append_left (by omega)] at hj; rw [List.append_assoc, List.getElem?_append_right (by omega), List.getElem?_append_left (by omega)]; rw [hl1] at hj; rw [htl, show k * u.size + j - (k * u.size + o') = j - o' by omega]; exact hj
                        · rw [List.append_assoc, List.getElem?_append_right (by omega), List.getElem?_append_right (by omega), List.getElem?_drop] at hj; rw [List.append_assoc, List.getElem?_append_right (by omega), List.getElem?_append_right (by omega), List.getElem?_drop]; rw [hl1, hvl, show o' + t.size + (j - o' - t.size) = j by omega] at hj; rw [htl, hvl, show k * u.size + o' + t.size + (k * u.size + j - (k * u.size + o') - t.size) = k * u.size + j by omega]; simpa using e2 j v' hj
                    · rw [show (xs.set k y')[k]'hk = y' by simp]; exact hr'.mono (allow_setRow hb _)
                  · simp only [if_neg hki]; obtain ⟨f1, f2, f3⟩ := hel k hk'; refine ⟨f1, fun j v' hj => ?_, ?_⟩
                    · (have hj' : j < u.size := by rw [← f1]; exact (List.getElem?_eq_some_iff.1 hj).1); have := f2 j v' hj; simp only [List.getElem?_toArray]; rcases Nat.lt_or_gt_of_ne hki with hlt' | hgt'
                      · have : (k + 1) * u.size ≤ i * u.size := Nat.mul_le_mul_right _ (by omega)
                        rw [Nat.add_mul] at this
                        rw [List.append_assoc, List.getElem?_append_left (by omega), List.getElem?_take, if_pos (by omega)]; simpa using f2 j v' hj
                      · have : (i + 1) * u.size ≤ k * u.size := Nat.mul_le_mul_right _ (by omega)
                        rw [Nat.add_mul] at this
                        rw [List.append_assoc, List.getElem?_append_right (by omega), List.getElem?_append_right (by omega), List.getElem?_drop]; rw [htl, hvl, show i * u.size + o' + t.size + (k * u.size + j - (i * u.size + o') - t.size) = k * u.size + j by omega]; simpa using f2 j v' hj
                    · rw [show (xs.set i y')[k]'hk = xs[k]'hk' by simp [Ne.symm hki]]; exact f3.mono (allow_setRow hb _)
            · simp [Rd.eval] at hs
          · simp [Rd.eval] at hs
        · simp [Rd.eval] at hs
  | tref id ep i pth b ov hm hv' =>
    simp only [storeSV] at hs; replace hs := Rd.mem_some hs
    cases hmi : mem id with
    | none => rw [hmi] at hs; simp [Rd.eval] at hs
    | some k =>
      rw [hmi] at hs
      cases k with
      | box => simp [Rd.eval] at hs
      | arr => simp [Rd.eval] at hs
      | dead => simp [Rd.eval] at hs
      | mp => simp [Rd.eval] at hs
      | hole ep' u xs hs0 o0 =>
        simp only at hs; split at hs
        · rename_i e; obtain ⟨rfl, hp, hnin, hnd⟩ := e; (obtain rfl : pth = [] := by simpa using hp); (have hnin : id ∉ lentIds fuel sv := by simpa using hnin); obtain ⟨y, hyd, hs⟩ := Rd.bind_some hs; split at hs
          · rename_i y' hy'; obtain ⟨ks, hks, hs⟩ := Rd.bind_some hs; simp only [Rd.eval, Option.some.injEq] at hs; subst hs; obtain ⟨hlt, D, o, u', hb, hpo, rfl⟩ := hv' u xs (.ofH hmi); simp only [pathOff, Option.some.injEq, Prod.mk.injEq] at hpo; obtain ⟨rfl, rfl⟩ := hpo; obtain ⟨rfl, rfl⟩ := TV.to_some hy'; have hy := ownD_sound h (A := allow E w β) fuel (nodupN_nodup hnd) hv hyd; obtain ⟨hlim, b', D', cs, el, css, T', hb', hh, hsz, hD, hone, hT1, hT2, hel⟩ := h.blk id _ hmi; rw [hb] at hb'; (obtain ⟨rfl, rfl⟩ : b = b' ∧ D = D' := by simpa using hb'); obtain ⟨hyc, hysz⟩ := hy.cells
            have hmd : ∀ c, β.own c = some id → ¬ Moved β (lentIds fuel sv) c := by
              rintro c hc ⟨j, hj, hm⟩; have := Held.inj h (.inr hc) hm; exact hnin (by rw [this]; exact hj)
            have hvl : v.cells.toList.length = t.size := by simpa using hysz
            have hend : i * t.size + t.size ≤ cs.size := by
              rw [hsz]; have : (i + 1) * t.size ≤ D * t.size := Nat.mul_le_mul_right _ (by omega); rw [Nat.add_mul] at this; omega
            have hst := run_storeCells_at P b (i * t.size) el v.cells.toList 0 cs w hh (by rw [hvl]; omega) hyc.one; simp only [Nat.add_zero] at hst; have hnew := setRow_heap w b cs (cs.toList.take (i * t.size) ++ v.cells.toList ++ cs.toList.drop (i * t.size + v.cells.toList.length)).toArray el (0, 0) hh
            have hrun : (Instr.storeAt T (.pointer (some ⟨b, i * t.size, none⟩)) v).run P w = .ok () (w.setRow b (cs.toList.take (i * t.size) ++ v.cells.toList ++ cs.toList.drop (i * t.size + v.cells.toList.length)).toArray) := by
              simp only [Instr.storeAt, Instr.sureAddr, Sem.run_bind, Sem.run_pure, Result.andThen_ok, storeVar, ht.size, hysz, ne_eq, not_true, if_false, Sem.run_ite]; exact hst
            generalize hw' : w.setRow b (cs.toList.take (i * t.size) ++ v.cells.toList ++ cs.toList.drop (i * t.size + v.cells.toList.length)).toArray = w' at hrun hnew; (have hoth : ∀ c, c ≠ b → w'.heap[c]? = w.heap[c]? := fun c hc => by rw [← hw']; exact setRow_other _ _ _ _ hc); have hsz2 : w'.heap.size = w.heap.size := by rw [← hw']; exact setRow_size _ _ _
            have hnh : ∀ k, k ≠ i → k ∉ hs0.filter (fun k => !(Nat.beq k i)) → k ∉ hs0 := fun k hk hn hm => hn (List.mem_filter.2 ⟨hm, by
              have : Nat.beq k i = false := by rw [Bool.eq_false_iff]; intro e; exact hk (Nat.eq_of_beq_eq_true e)
              simp [this]⟩)
            have htk := h.take (w' := w') (ids := lentIds fuel sv) (id := id) (k := .hole ep' t (xs.set i y') (hs0.filter fun k => !(Nat.beq k i)) none) (bc := some (b, D)) hnd hks hnin rfl
              (fun k0 hk0 => by
                rw [hmi] at hk0; obtain rfl := Option.some.inj hk0
                exact .inr ⟨⟨rfl, by simp⟩, rfl, hb.symm⟩)
              (by rw [← hw']; rfl) (by rw [← hw']; rfl) (by rw [← hw']; exact ⟨rfl, Nat.le_refl _⟩) (by rw [hsz2]; exact Nat.le_refl _) (fun c C e => by
                simp only [Option.some.injEq, Prod.mk.injEq] at e; obtain ⟨rfl, rfl⟩ := e
                exact ⟨by rw [hsz2]; exact (h.dom id _ _ hb).2.1, .inr ⟨_, ⟨_, hmi, rfl⟩, hb⟩⟩) (fun c hc hne => hoth c (fun e => hne D (by rw [e])))
              (fun hO => ⟨by simpa using hlim, b, D, _, el, fun k => if k = i then v.cells.toList else css k,
                fun k c => if k = i then Moved β (lentIds fuel sv) c else T' k c, Bind.take_same _ _ _ _, hnew, ?_, by simpa using hD, ⟨by simp, fun k v' hk hv' => by
                dsimp only at hv'; by_cases hki : k = i
                · rw [if_pos hki] at hv'; exact hyc.one _ hv'
                · rw [if_neg hki] at hv'; exact hone.2 k v' (by simpa using hk) hv'⟩, fun k c hk hn hc => ?_, fun j k c hj hk hjn hkn hcj hck => ?_, fun k hk => ?_⟩)
            rotate_left
            · simp only [List.size_toArray, List.length_append, List.length_take, List.length_drop, Array.length_toList, hvl]; rw [← hsz]; omega
            · (have hk : k < xs.length := by simpa using hk); dsimp only at hc; by_cases hki : k = i
              · rw [if_pos hki] at hc; exact Bind.take_own hc
              · rw [if_neg hki] at hc; rw [Bind.take_own_ne (hmd c (hT1 k c hk (hnh k hki hn) hc))]; exact hT1 k c hk (hnh k hki hn) hc
            · (have hj : j < xs.length := by simpa using hj); (have hk : k < xs.length := by simpa using hk); dsimp only at hcj hck; by_cases hji : j = i <;> by_cases hki : k = i
              · rw [hji, hki]
              · rw [if_pos hji] at hcj; rw [if_neg hki] at hck; exact absurd hcj (hmd c (hT1 k c hk (hnh k hki hkn) hck))
              · rw [if_neg hji] at hcj; rw [if_pos hki] at hck; exact absurd hck (hmd c (hT1 j c hj (hnh j hji hjn) hcj))
              · rw [if_neg hji] at hcj; rw [if_neg hki] at hck; exact hT2 j k c hj hk (hnh j hji hjn) (hnh k hki hkn) hcj hck
            · (have hk' : k < xs.length := by simpa using hk); (have htl : (cs.toList.take (i * t.size)).length = i * t.size := by simp; omega); by_cases hki : k = i
              · subst hki; simp only [↓reduceIte]; refine ⟨hvl, fun j v' hj => ?_, fun _ => ?_⟩
                · (have hj' : j < t.size := by rw [← hvl]; exact (List.getElem?_eq_some_iff.1 hj).1); simp only [List.getElem?_toArray]; rw [List.append_assoc, List.getElem?_append_right (by omega), List.getElem?_append_left (by omega), htl, show k * t.size + j - k * t.size = j by omega]; exact hj
                · rw [show (xs.set k y')[k]'hk = y' by simp]; exact hyc.mono fun c hc => ⟨hc, hO c (.inl hc)⟩
              · simp only [if_neg hki]; obtain ⟨f1, f2, f3⟩ := hel k hk'; refine ⟨f1, fun j v' hj => ?_, fun hn => ?_⟩
                · (have hj' : j < t.size := by rw [← f1]; exact (List.getElem?_eq_some_iff.1 hj).1); have := f2 j v' hj; simp only [List.getElem?_toArray]; rcases Nat.lt_or_gt_of_ne hki with hlt' | hgt'
                  · have : (k + 1) * t.size ≤ i * t.size := Nat.mul_le_mul_right _ (by omega)
                    rw [Nat.add_mul] at this
                    rw [List.append_assoc, List.getElem?_append_left (by omega), List.getElem?_take, if_pos (by omega)]; simpa using f2 j v' hj
                  · have : (i + 1) * t.size ≤ k * t.size := Nat.mul_le_mul_right _ (by omega)
                    rw [Nat.add_mul] at this
                    rw [List.append_assoc, List.getElem?_append_right (by omega), List.getElem?_append_right (by omega), List.getElem?_drop]; rw [htl, hvl, show i * t.size + t.size + (k * t.size + j - i * t.size - t.size) = k * t.size + j by omega]; simpa using f2 j v' hj
                · rw [show (xs.set i y')[k]'hk = xs[k]'hk' by simp [Ne.symm hki]]; exact (f3 (hnh k hki hn)).mono fun c hc => ⟨hc, hO c (.inr (hT1 k c hk' (hnh k hki hn) hc))⟩
            (have hmemw : updm mem (ks ++ [(id, .hole ep' t (xs.set i y') (hs0.filter fun k => !(Nat.beq k i)) none)]) = setm (updm mem ks) id (.hole ep' t (xs.set i y') (hs0.filter fun k => !(Nat.beq k i)) none) := by rw [updm_append, updm_one]); exact ⟨w', _, hrun, by rw [hmemw]; exact htk.1⟩
          · simp [Rd.eval] at hs
        · simp [Rd.eval] at hs
      | tree ep' u xs =>
        simp only at hs; split at hs
        · rename_i e; obtain ⟨rfl, hnin, hnd⟩ := e; (have hnin : id ∉ lentIds fuel sv := by simpa using hnin); obtain ⟨y, hyd, hs⟩ := Rd.bind_some hs; split at hs
          · rename_i tv' htv'; split at hs
            · rename_i y' hy'; obtain ⟨ks, hks, hs⟩ := Rd.bind_some hs; simp only [Rd.eval, Option.some.injEq] at hs; subst hs; obtain ⟨hlt, D, o, u', hb, hpo, rfl⟩ := hv' u xs (.of hmi); have hy := ownD_sound h (A := allow E w β) fuel (nodupN_nodup hnd) hv hyd; obtain ⟨hlim, ⟨hb', _⟩ | ⟨b', D', cs, el, css, T', hb', hh, hsz, hD, hT1, hT2, hel⟩⟩ := h.blk id _ hmi
              · rw [hb] at hb'; simp at hb'
              rw [hb] at hb'; (obtain ⟨rfl, rfl⟩ : b = b' ∧ D = D' := by simpa using hb'); obtain ⟨e1, e2, e3⟩ := hel i hlt; rw [show xs.getD i u.zero = xs[i] by simp [hlt]] at htv'; obtain ⟨hyc, hysz⟩ := hy.cells
              have hmd : ∀ c, β.own c = some id → ¬ Moved β (lentIds fuel sv) c := by
                rintro c hc ⟨j, hj, hm⟩; have := Held.inj h (.inr hc) hm; exact hnin (by rw [this]; exact hj)
              obtain ⟨o', x', rfl, ho', hle', hr'⟩ := updAt_repO pth e3 hyc (fun c hc => hmd c (hT1 i c hlt hc)) htv'; rw [ho'] at hpo; obtain ⟨rfl, rfl⟩ : o' = o ∧ t = u' := by simpa using hpo
              obtain rfl : y' = x' := by
                simp only [TV.to, dif_pos, Option.some.injEq] at hy'; exact hy'.symm
              have hvl : v.cells.toList.length = t.size := by simpa using hysz
              have hend : i * u.size + u.size ≤ cs.size := by
                rw [hsz]; have : (i + 1) * u.size ≤ D * u.size := Nat.mul_le_mul_right _ (by omega); rw [Nat.add_mul] at this; omega
              have hst := run_storeCells_at P b (i * u.size + o') el v.cells.toList 0 cs w hh (by rw [hvl]; omega) hyc.one; simp only [Nat.add_zero] at hst; have hnew := setRow_heap w b cs (cs.toList.take (i * u.size + o') ++ v.cells.toList ++ cs.toList.drop (i * u.size + o' + v.cells.toList.length)).toArray el (0, 0) hh
              have hrun : (Instr.storeAt T (.pointer (some ⟨b, i * u.size + o', none⟩)) v).run P w = .ok () (w.setRow b (cs.toList.take (i * u.size + o') ++ v.cells.toList ++ cs.toList.drop (i * u.size + o' + v.cells.toList.length)).toArray) := by
                simp only [Instr.storeAt, Instr.sureAddr, Sem.run_bind, Sem.run_pure, Result.andThen_ok, storeVar, ht.size, hysz, ne_eq, not_true, if_false, Sem.run_ite]; exact hst
              generalize hw' : w.setRow b (cs.toList.take (i * u.size + o') ++ v.cells.toList ++ cs.toList.drop (i * u.size + o' + v.cells.toList.length)).toArray = w' at hrun hnew; (have hoth : ∀ c, c ≠ b → w'.heap[c]? = w.heap[c]? := fun c hc => by rw [← hw']; exact setRow_other _ _ _ _ hc); have hsz2 : w'.heap.size = w.heap.size := by rw [← hw']; exact setRow_size _ _ _
              have htk := h.take (w' := w') (ids := lentIds fuel sv) (id := id) (k := .tree ep' u (xs.set i y')) (bc := some (b, D)) hnd hks hnin rfl
                (fun k0 hk0 => by
                  rw [hmi] at hk0; obtain rfl := Option.some.inj hk0
                  exact .inr ⟨⟨rfl, by simp⟩, rfl, hb.symm⟩)
                (by rw [← hw']; rfl) (by rw [← hw']; rfl) (by rw [← hw']; exact ⟨rfl, Nat.le_refl _⟩) (by rw [hsz2]; exact Nat.le_refl _) (fun c C e => by
                  simp only [Option.some.injEq, Prod.mk.injEq] at e; obtain ⟨rfl, rfl⟩ := e
                  exact ⟨by rw [hsz2]; exact (h.dom id _ _ hb).2.1, .inr ⟨_, ⟨_, hmi, rfl⟩, hb⟩⟩) (fun c hc hne => hoth c (fun e => hne D (by rw [e])))
                (fun hO => ⟨by simpa using hlim, .inr ⟨b, D, _, el, fun k => if k = i then (css i).take o' ++ v.cells.toList ++ (css i).drop (o' + t.size) else css k,
                  fun k c => if k = i then (T' i c ∨ Moved β (lentIds fuel sv) c) else T' k c, Bind.take_same _ _ _ _, hnew, ?_, by simpa using hD, fun k c hk hc => ?_, fun j k c hj hk hcj hck => ?_, fun k hk => ?_⟩⟩)
              rotate_left
              · simp only [List.size_toArray, List.length_append, List.length_take, List.length_drop, Array.length_toList, hvl]; rw [← hsz]; omega
              · (have hk : k < xs.length := by simpa using hk); dsimp only at hc; by_cases hki : k = i
                · rw [if_pos hki] at hc; rcases hc with hc | hc
                  · rw [Bind.take_own_ne (hmd c (hT1 i c hlt hc))]; exact hT1 i c hlt hc
                  · exact Bind.take_own hc
                · rw [if_neg hki] at hc; rw [Bind.take_own_ne (hmd c (hT1 k c hk hc))]; exact hT1 k c hk hc
              · (have hj : j < xs.length := by simpa using hj); (have hk : k < xs.length := by simpa using hk); dsimp only at hcj hck; by_cases hji : j = i <;> by_cases hki : k = i
                · rw [hji, hki]
                · rw [if_pos hji] at hcj; rw [if_neg hki] at hck; rcases hcj with hcj | hcj
                  · exact absurd (hT2 k i c hk hlt hck hcj) hki
                  · exact absurd hcj (hmd c (hT1 k c hk hck))
                · rw [if_neg hji] at hcj; rw [if_pos hki] at hck; rcases hck with hck | hck
                  · exact absurd (hT2 j i c hj hlt hcj hck) hji
                  · exact absurd hck (hmd c (hT1 j c hj hcj))
                · rw [if_neg hji] at hcj; rw [if_neg hki] at hck; exact hT2 j k c hj hk hcj hck
              · (have hk' : k < xs.length := by simpa using hk); (have htl : (cs.toList.take (i * u.size + o')).length = i * u.size + o' := by simp; omega); by_cases hki : k = i
                · subst hki; simp only [↓reduceIte]; refine ⟨hr'.length, fun j v' hj => ?_, ?_⟩
                  · (have hj' : j < u.size := by rw [← hr'.length]; exact (List.getElem?_eq_some_iff.1 hj).1); (have hl1 : ((css k).take o').length = o' := by simp; omega); simp only [List.getElem?_toArray]; by_cases hj1 : j < o'
                    · rw [List.append_assoc, List.getElem?_append_left (by omega), List.getElem?_take, if_pos hj1] at hj; rw [List.append_assoc, List.getElem?_append_left (by omega), List.getElem?_take, if_pos (by omega)]; simpa using e2 j v' hj
                    · by_cases hj2 : j < o' + t.size
                      · rw [List.append_assoc, List.getElem?_append_right (by omega), List.getElem?_append_left (by omega)] at hj; rw [List.append_assoc, List.getElem?_append_right (by omega), List.getElem?_append_left (by omega)]; rw [hl1] at hj; rw [htl, show k * u.size + j - (k * u.size + o') = j - o' by omega]; exact hj
                      · rw [List.append_assoc, List.getElem?_append_right (by omega), List.getElem?_append_right (by omega), List.getElem?_drop] at hj; rw [List.append_assoc, List.getElem?_append_right (by omega), List.getElem?_append_right (by omega), List.getElem?_drop]; rw [hl1, hvl, show o' + t.size + (j - o' - t.size) = j by omega] at hj; rw [htl, hvl, show k * u.size + o' + t.size + (k * u.size + j - (k * u.size + o') - t.size) = k * u.size + j by omega]; simpa using e2 j v' hj
                  · rw [show (xs.set k y')[k]'hk = y' by simp]; refine hr'.mono ?_; rintro c (hc | hc)
                    · exact ⟨.inl hc, hO c (.inr (hT1 k c hk' hc))⟩
                    · exact ⟨.inr hc, hO c (.inl hc)⟩
                · simp only [if_neg hki]; obtain ⟨f1, f2, f3⟩ := hel k hk'; refine ⟨f1, fun j v' hj => ?_, ?_⟩
                  · (have hj' : j < u.size := by rw [← f1]; exact (List.getElem?_eq_some_iff.1 hj).1); have := f2 j v' hj; simp only [List.getElem?_toArray]; rcases Nat.lt_or_gt_of_ne hki with hlt' | hgt'
                    · have : (k + 1) * u.size ≤ i * u.size := Nat.mul_le_mul_right _ (by omega)
                      rw [Nat.add_mul] at this
                      rw [List.append_assoc, List.getElem?_append_left (by omega), List.getElem?_take, if_pos (by omega)]; simpa using f2 j v' hj
                    · have : (i + 1) * u.size ≤ k * u.size := Nat.mul_le_mul_right _ (by omega)
                      rw [Nat.add_mul] at this
                      rw [List.append_assoc, List.getElem?_append_right (by omega), List.getElem?_append_right (by omega), List.getElem?_drop]; rw [htl, hvl, show i * u.size + o' + t.size + (k * u.size + j - (i * u.size + o') - t.size) = k * u.size + j by omega]; simpa using f2 j v' hj
                  · rw [show (xs.set i y')[k]'hk = xs[k]'hk' by simp [Ne.symm hki]]; exact f3.mono fun c hc => ⟨hc, hO c (.inr (hT1 k c hk' hc))⟩
              (have hmemw : updm mem (ks ++ [(id, .tree ep' u (xs.set i y'))]) = setm (updm mem ks) id (.tree ep' u (xs.set i y')) := by rw [updm_append, updm_one]); exact ⟨w', _, hrun, by rw [hmemw]; exact htk.1⟩
            · simp [Rd.eval] at hs
          · simp [Rd.eval] at hs
        · simp [Rd.eval] at hs
  | _ => simp [storeSV, Rd.eval] at hs

end
end Go.Am


namespace Go.Am
open List
variable [U : Univ]

theorem offset_le (n f : Nat) {t : Ty} (h : (U.tys n)[f]? = some t) : offsetOf n f + t.size ≤ U.sz n := by
  have key : ∀ (l : List Ty) (f : Nat) {t : Ty}, l[f]? = some t → ((l.take f).map Ty.size).sum + t.size ≤ (l.map Ty.size).sum := by
    intro l
    induction l with
    | nil => intro f t h; simp at h
    | cons u l ih =>
      intro f t h
      cases f with
      | zero =>
        simp only [getElem?_cons_zero, Option.some.injEq] at h; subst h; simp
      | succ f =>
        simp only [getElem?_cons_succ] at h; have := ih f h; simp only [take_succ_cons, map_cons, sum_cons]; omega
  rw [U.sz_eq]; exact key _ f h

theorem pathOff_snoc (p : List Nat) : ∀ {t : Ty} {q n f : Nat} {u : Ty}, pathOff t p = some (q, .named n) → (U.tys n)[f]? = some u → pathOff t (p ++ [f]) = some (q + offsetOf n f, u) := by
  induction p with
  | nil =>
    intro t q n f u h hf; simp only [pathOff, Option.some.injEq, Prod.mk.injEq] at h; obtain ⟨rfl, rfl⟩ := h; simp [pathOff, hf]
  | cons g p ih =>
    intro t q n f u h hf
    cases t with
    | named m =>
      simp only [pathOff, cons_append] at h ⊢; split at h
      · rename_i t' ht'; split at h
        · rename_i o v hov; simp only [Option.some.injEq, Prod.mk.injEq] at h; obtain ⟨rfl, rfl⟩ := h; simp only [ih hov hf]; rw [Nat.add_assoc]
        · simp at h
      · simp at h
    | _ => simp [pathOff] at h

section
variable {E : Ent} {N : Nat} {env : Nat → SV} {mem : Nat → Option Blk} {a : Act} {w : World} {β : Bind} {P : Program} {C : Ctx}

theorem fieldAddr_sound (h : SimB E N env mem a w β) (hty : CtxTy P C) {T n f : Nat} (hT : C.ty T = some (.named n)) {t : Ty} (hf : (U.tys n)[f]? = some t) {sv r : SV} {x : Value}
    (hx : RepSV (allow E w β) w β mem sv x) (hs : (fieldAddrSV n f sv).eval mem = some r) :
    ∃ y, (Instr.fieldAt T x f).run P w = .ok y w ∧ RepSV (allow E w β) w β mem r y := by
  obtain ⟨fs, hu, _, hfs⟩ := (hty T _ hT).und; obtain ⟨fd, hfd, hft, hoff⟩ := hfs f t hf; have hsz := (hty fd.type t hft).size w; have hp := t.size_pos
  have run : ∀ b o, (Instr.fieldAt T (.pointer (some ⟨b, o, none⟩)) f).run P w = .ok (.pointer (some ⟨b, o + offsetOf n f, none⟩)) w := by
    intro b o; simp only [Instr.fieldAt, Sem.run_bind, run_underlying hu, Result.andThen_ok, hfd, Instr.sureAddr, Sem.run_pure, fieldPlace, hsz, Sem.run_ite]; rw [if_neg (by omega)]; simp only [Result.andThen_ok, Addr.add_lit, hoff]
  cases hx with
  | ref id ep off b hm hv =>
    simp only [fieldAddrSV, Rd.eval, Option.some.injEq] at hs; subst hs; exact ⟨_, run _ _, .ref _ _ _ _ hm hv⟩
  | eref id ep i p b o hm hv =>
    simp only [fieldAddrSV] at hs; replace hs := Rd.mem_some hs
    cases hmi : mem id with
    | none => rw [hmi] at hs; simp [Rd.eval] at hs
    | some k =>
      rw [hmi] at hs
      cases k with
      | box => simp [Rd.eval] at hs
      | tree => simp [Rd.eval] at hs
      | dead => simp [Rd.eval] at hs
      | mp => simp [Rd.eval] at hs
      | hole => simp [Rd.eval] at hs
      | arr ep' u xs =>
        simp only at hs; split at hs
        · rename_i e; subst e; split at hs
          · rename_i q m hq; split at hs
            · rename_i e; subst e; simp only [Rd.eval, Option.some.injEq] at hs; subst hs; refine ⟨_, run _ _, .eref _ _ _ _ _ _ hm fun t' xs' hm' => ?_⟩; obtain ⟨h1, C, q', u', h2, h3, h4⟩ := hv t' xs' hm'; rw [hmi] at hm'; simp only [Option.some.injEq, Blk.arr.injEq, true_and] at hm'; obtain ⟨rfl, hxs⟩ := hm'; rw [hq] at h3; simp only [Option.some.injEq, Prod.mk.injEq] at h3; obtain ⟨rfl, rfl⟩ := h3; exact ⟨h1, C, _, _, h2, pathOff_snoc p hq hf, by omega⟩
            · simp [Rd.eval] at hs
          · simp [Rd.eval] at hs
        · simp [Rd.eval] at hs
  | tref id ep i p b o hm hv =>
    simp only [fieldAddrSV] at hs; replace hs := Rd.mem_some hs
    cases hmi : mem id with
    | none => rw [hmi] at hs; simp [Rd.eval] at hs
    | some k =>
      rw [hmi] at hs
      cases k with
      | box => simp [Rd.eval] at hs
      | arr => simp [Rd.eval] at hs
      | dead => simp [Rd.eval] at hs
      | mp => simp [Rd.eval] at hs
      | hole => simp [Rd.eval] at hs
      | tree ep' u xs =>
        simp only at hs; split at hs
        · rename_i e; subst e; split at hs
          · rename_i q m hq; split at hs
            · rename_i e; subst e; simp only [Rd.eval, Option.some.injEq] at hs; subst hs; refine ⟨_, run _ _, .tref _ _ _ _ _ _ hm fun t' xs' hm' => ?_⟩; obtain ⟨h1, C, q', u', h2, h3, h4⟩ := hv t' xs' hm'; rw [hmi] at hm'; replace hm' := hm'.at; simp only [Option.some.injEq, Blk.tree.injEq, true_and] at hm'; obtain ⟨rfl, hxs⟩ := hm'; rw [hq] at h3; simp only [Option.some.injEq, Prod.mk.injEq] at h3; obtain ⟨rfl, rfl⟩ := h3; exact ⟨h1, C, _, _, h2, pathOff_snoc p hq hf, by omega⟩
            · simp [Rd.eval] at hs
          · simp [Rd.eval] at hs
        · simp [Rd.eval] at hs
  | dref u x b off cs hA hc hr =>
    cases u with
    | named m =>
      simp only [fieldAddrSV] at hs; split at hs
      · rename_i e; subst e; split at hs
        · rename_i t' y hy; simp only [Rd.eval, Option.some.injEq] at hs; subst hs; obtain ⟨k1, k2⟩ := hr.field hy; refine ⟨_, run _ _, .dref t' y b _ _ hA (fun j v hj => ?_) k1⟩; rw [getElem?_take, getElem?_drop] at hj; split at hj
          · have := hc _ _ hj
            rw [← Nat.add_assoc] at this
            exact this
          · simp at hj
        · simp [Rd.eval] at hs
      · simp [Rd.eval] at hs
    | _ => simp [fieldAddrSV, Rd.eval] at hs
  | _ => simp [fieldAddrSV, Rd.eval] at hs

theorem index_sound (h : SimB E N env mem a w β) (hty : CtxTy P C) {T : Nat} {t : Ty} (hT : C.ty T = some (.slice t)) {sv r : SV} {x : Value} {k : IntKind} {i : Int} {ob : List Prop}
    (hx : RepSV (allow E w β) w β mem sv x) (hs : (indexSV t i sv).eval mem = some (r, ob)) (hob : ∀ p ∈ ob, p) :
    ∃ y, (Instr.indexAt T x (.int k i)).run P w = .ok y w ∧ RepSV (allow E w β) w β mem r y := by
  obtain ⟨e, hu, he⟩ := (hty T _ hT).und; have hsz := (hty e t he).size
  have run : ∀ (p : Addr) len cap, 0 ≤ i ∧ i < (len : Nat) → (Instr.indexAt T (.slice (some p) len cap) (.int k i)).run P w = .ok (.pointer (some (p.add (i.toNat * t.size)))) w := by
    intro p len cap hi; simp [Instr.indexAt, run_underlying hu, asIntOf, hi, hsz]
  cases hx with
  | data u xs v hv =>
    cases u with
    | slice u =>
      obtain ⟨xs, rfl⟩ : ∃ y : List u.den, y = xs := ⟨xs, rfl⟩; simp only [indexSV] at hs; split at hs
      · rename_i e; subst e; simp only [Rd.eval, Option.some.injEq, Prod.mk.injEq] at hs; obtain ⟨rfl, rfl⟩ := hs; have hi := hob _ (mem_singleton.2 rfl); have hi' : i.toNat < List.length xs := by omega
        cases hv with
        | one _ _ _ _ hc =>
          cases hc with
          | nil => simp at hi'
          | slice _ xs p cap css hlim hcap hA hsp hlen hc hr =>
            (have hne : xs ≠ [] := by intro e; simp [e] at hi'); refine ⟨_, run p _ cap hi, ?_⟩; obtain ⟨b, off, sp⟩ := p; have := hsp hne
            simp only at this; subst this
            rw [Addr.add_lit, show xs.getD i.toNat u.zero = xs[i.toNat] by simp [hi']]; exact .dref u _ b _ (css i.toNat) (hA hne) (fun j v hj => hc _ j v hi' hj) (hr _ hi')
      · simp [Rd.eval] at hs
    | _ => simp [indexSV, Rd.eval] at hs
  | arr id ep v hm h1 hv =>
    simp only [indexSV] at hs; replace hs := Rd.mem_some hs
    cases hmi : mem id with
    | none => rw [hmi] at hs; simp [Rd.eval] at hs
    | some kk =>
      rw [hmi] at hs
      cases kk with
      | box => simp [Rd.eval] at hs
      | tree => simp [Rd.eval] at hs
      | dead => simp [Rd.eval] at hs
      | mp => simp [Rd.eval] at hs
      | hole => simp [Rd.eval] at hs
      | arr ep' u xs =>
        simp only at hs; split at hs
        · rename_i e; obtain ⟨rfl, rfl⟩ := e; simp only [Rd.eval, Option.some.injEq, Prod.mk.injEq] at hs; obtain ⟨rfl, rfl⟩ := hs; have hi := hob _ (mem_singleton.2 rfl); have hsl := hv _ _ hmi
          cases hb : β id with
          | none =>
            rw [hb] at hsl; obtain ⟨_, h0, _⟩ := hsl; omega
          | some bc =>
            obtain ⟨b, D⟩ := bc; rw [hb] at hsl; obtain ⟨p, rfl, hle, hp⟩ := hsl; obtain rfl := hp (.inl rfl); refine ⟨_, run _ _ _ hi, ?_⟩; rw [Addr.add_lit]; refine .eref _ _ _ _ _ _ hm fun t' xs' hm' => ?_; rw [hmi] at hm'; simp only [Option.some.injEq, Blk.arr.injEq, true_and] at hm'; obtain ⟨rfl, hxs⟩ := hm'; obtain rfl := eq_of_heq hxs; exact ⟨by omega, D, 0, _, hb, rfl, by simp⟩
        · simp [Rd.eval] at hs
  | tr id ep v hm h1 hv =>
    simp only [indexSV] at hs; replace hs := Rd.mem_some hs
    cases hmi : mem id with
    | none => rw [hmi] at hs; simp [Rd.eval] at hs
    | some kk =>
      rw [hmi] at hs
      cases kk with
      | box => simp [Rd.eval] at hs
      | arr => simp [Rd.eval] at hs
      | dead => simp [Rd.eval] at hs
      | mp => simp [Rd.eval] at hs
      | hole ep' u xs hs' o' =>
        simp only at hs; split at hs
        · rename_i e; obtain ⟨rfl, rfl⟩ := e; simp only [Rd.eval, Option.some.injEq, Prod.mk.injEq] at hs; obtain ⟨rfl, rfl⟩ := hs; have hi := hob _ (mem_singleton.2 rfl); have hsl := hv _ _ (.ofH hmi)
          cases hb : β id with
          | none =>
            rw [hb] at hsl; obtain ⟨_, h0, _⟩ := hsl; omega
          | some bc =>
            obtain ⟨b, D⟩ := bc; rw [hb] at hsl; obtain ⟨p, rfl, hle, hp⟩ := hsl; obtain rfl := hp (.inl rfl); refine ⟨_, run _ _ _ hi, ?_⟩; rw [Addr.add_lit]; refine .tref _ _ _ _ _ _ hm fun t' xs' hm' => ?_; rw [hmi] at hm'; replace hm' := hm'.atH; simp only [Option.some.injEq, Blk.tree.injEq, true_and] at hm'; obtain ⟨rfl, hxs⟩ := hm'; obtain rfl := eq_of_heq hxs; exact ⟨by omega, D, 0, _, hb, rfl, by simp⟩
        · simp [Rd.eval] at hs
      | tree ep' u xs =>
        simp only at hs; split at hs
        · rename_i e; obtain ⟨rfl, rfl⟩ := e; simp only [Rd.eval, Option.some.injEq, Prod.mk.injEq] at hs; obtain ⟨rfl, rfl⟩ := hs; have hi := hob _ (mem_singleton.2 rfl); have hsl := hv _ _ (.of hmi)
          cases hb : β id with
          | none =>
            rw [hb] at hsl; obtain ⟨_, h0, _⟩ := hsl; omega
          | some bc =>
            obtain ⟨b, D⟩ := bc; rw [hb] at hsl; obtain ⟨p, rfl, hle, hp⟩ := hsl; obtain rfl := hp (.inl rfl); refine ⟨_, run _ _ _ hi, ?_⟩; rw [Addr.add_lit]; refine .tref _ _ _ _ _ _ hm fun t' xs' hm' => ?_; rw [hmi] at hm'; replace hm' := hm'.at; simp only [Option.some.injEq, Blk.tree.injEq, true_and] at hm'; obtain ⟨rfl, hxs⟩ := hm'; obtain rfl := eq_of_heq hxs; exact ⟨by omega, D, 0, _, hb, rfl, by simp⟩
        · simp [Rd.eval] at hs
  | sub id ep off len v hm h1 hv =>
    simp only [indexSV] at hs; replace hs := Rd.mem_some hs
    cases hmi : mem id with
    | none => rw [hmi] at hs; simp [Rd.eval] at hs
    | some kk =>
      rw [hmi] at hs
      cases kk with
      | box => simp [Rd.eval] at hs
      | tree => simp [Rd.eval] at hs
      | dead => simp [Rd.eval] at hs
      | mp => simp [Rd.eval] at hs
      | hole => simp [Rd.eval] at hs
      | arr ep' u xs =>
        simp only at hs; split at hs
        · rename_i e; obtain ⟨rfl, rfl⟩ := e; simp only [Rd.eval, Option.some.injEq, Prod.mk.injEq] at hs; obtain ⟨rfl, rfl⟩ := hs; have hi := hob _ (mem_singleton.2 rfl); obtain ⟨hle0, hsl⟩ := hv _ _ hmi
          cases hb : β id with
          | none =>
            rw [hb] at hsl; obtain ⟨_, h0, _⟩ := hsl; omega
          | some bc =>
            obtain ⟨b, D⟩ := bc; rw [hb] at hsl; obtain ⟨p, rfl, hle, hp⟩ := hsl; obtain rfl := hp (.inr (by omega)); refine ⟨_, run _ _ _ hi, ?_⟩; rw [Addr.add_lit]; refine .eref _ _ _ _ _ _ hm fun t' xs' hm' => ?_; rw [hmi] at hm'; simp only [Option.some.injEq, Blk.arr.injEq, true_and] at hm'; obtain ⟨rfl, hxs⟩ := hm'; obtain rfl := eq_of_heq hxs; exact ⟨by omega, D, 0, _, hb, rfl, by rw [Nat.add_mul]; omega⟩
        · simp [Rd.eval] at hs
  | _ => simp [indexSV, Rd.eval] at hs

theorem indexArr_sound (h : SimB E N env mem a w β) {T e n : Nat} {t : Ty} (hte : TyOK P C e t) (ha : ArrAt P C T e n) {sv r : SV} {x : Value} {k : IntKind} {i : Int} {ob : List Prop}
    (hx : RepSV (allow E w β) w β mem sv x) (hs : (indexArr t n i sv).eval mem = some (r, ob)) (hob : ∀ p ∈ ob, p) :
    ∃ y, (Instr.indexAt T x (.int k i)).run P w = .ok y w ∧ RepSV (allow E w β) w β mem r y := by
  have hsz := hte.size
  have run : ∀ (p : Addr), 0 ≤ i ∧ i < (n : Nat) → (Instr.indexAt T (.pointer (some p)) (.int k i)).run P w = .ok (.pointer (some (p.add (i.toNat * t.size)))) w := by
    intro p hi; simp [Instr.indexAt, run_underlying ha.und, asIntOf, hi, hsz, Instr.sureAddr]
  cases hx with
  | eref id ep j p b o hm hv =>
    unfold indexArr at hs; split at hs
    · rename_i id' ep' he; simp only [SV.eref.injEq] at he; obtain ⟨rfl, rfl, rfl, rfl⟩ := he; replace hs := Rd.mem_some hs
      cases hmi : mem id with
      | none => rw [hmi] at hs; simp [Rd.eval] at hs
      | some kk =>
        rw [hmi] at hs
        cases kk with
        | box => simp [Rd.eval] at hs
        | tree => simp [Rd.eval] at hs
        | dead => simp [Rd.eval] at hs
        | mp => simp [Rd.eval] at hs
        | hole => simp [Rd.eval] at hs
        | arr ep' u xs =>
          simp only at hs; split at hs
          · rename_i e'; obtain ⟨rfl, rfl⟩ := e'; simp only [Rd.eval, Option.some.injEq, Prod.mk.injEq] at hs; obtain ⟨rfl, rfl⟩ := hs; have hi := hob _ (mem_cons_self ..); have hi2 := hob _ (mem_cons_of_mem _ (mem_singleton.2 rfl)); obtain ⟨h1, D, q, u', h2, h3, h4⟩ := hv _ _ hmi; simp only [pathOff, Option.some.injEq, Prod.mk.injEq] at h3; obtain ⟨rfl, rfl⟩ := h3; refine ⟨_, run _ hi, ?_⟩; rw [Addr.add_lit]; refine .eref _ _ _ _ _ _ hm fun t' xs' hm' => ?_; rw [hmi] at hm'; simp only [Option.some.injEq, Blk.arr.injEq, true_and] at hm'; obtain ⟨rfl, hxs⟩ := hm'; obtain rfl := eq_of_heq hxs; exact ⟨by omega, D, 0, _, h2, rfl, by omega⟩
          · simp [Rd.eval] at hs
    · simp [Rd.eval] at hs
  | _ => simp [indexArr, Rd.eval] at hs

def lenFit (u : Ty) : SV → Prop
  | .str _ => u = .str
  | _ => ∃ t, u = .slice t

theorem len_sound (hty : CtxTy P C) {T ty : Nat} {u : Ty} (hT : C.ty T = some u) {sv : SV} {x : Value} {n : Int}
    (hu : lenFit u sv)
    (hx : RepSV (allow E w β) w β mem sv x) (hs : (lenSV sv).eval mem = some n) (h : SimB E N env mem a w β) :
    (Builtin.len_ #[T] ty #[x]).run P w = .ok (.int .i64 n) w ∧ 0 ≤ n ∧ n ≤ lim := by
  have run : ∀ {t : Ty} (p : Option Addr) len cap, u = .slice t → (Builtin.len_ #[T] ty #[.slice p len cap]).run P w = .ok (.int .i64 (len : Nat)) w := by
    rintro t p len cap rfl; obtain ⟨e, hu, _⟩ := (hty T _ hT).und; simp [Builtin.len_, run_underlying hu, goInt]
  cases hx with
  | data t xs v hv =>
    cases t with
    | slice t =>
      obtain ⟨t', hu⟩ := hu; simp only [lenSV, Rd.eval, Option.some.injEq] at hs; subst hs
      cases hv with
      | one _ _ _ _ hc =>
        cases hc with
        | nil => exact ⟨run _ _ _ hu, by simp, by simp [lim]⟩
        | slice _ xs p cap css hlim hcap hA hsp hlen hc hr => exact ⟨run _ _ _ hu, by omega, hlim⟩
    | _ => simp [lenSV, Rd.eval] at hs
  | nilsl =>
    obtain ⟨t', hu⟩ := hu; simp only [lenSV, Rd.eval, Option.some.injEq] at hs; subst hs; exact ⟨run _ _ _ hu, by omega, by simp [lim]⟩
  | str s hs' =>
    simp only [lenFit] at hu; subst hu; simp only [lenSV, Rd.eval, Option.some.injEq] at hs; subst hs; have hu := (hty T _ hT).und; exact ⟨by simp [Builtin.len_, run_underlying hu, goInt], by omega, hs'⟩
  | arr id ep v hm h1 hv =>
    obtain ⟨t', hu⟩ := hu; simp only [lenSV] at hs; replace hs := Rd.mem_some hs
    cases hmi : mem id with
    | none => rw [hmi] at hs; simp [Rd.eval] at hs
    | some kk =>
      rw [hmi] at hs
      cases kk with
      | box => simp [Rd.eval] at hs
      | tree => simp [Rd.eval] at hs
      | dead => simp [Rd.eval] at hs
      | mp => simp [Rd.eval] at hs
      | hole => simp [Rd.eval] at hs
      | arr ep' v xs =>
        simp only at hs; split at hs
        · rename_i e; subst e; simp only [Rd.eval, Option.some.injEq] at hs; subst hs; have hsl := hv _ _ hmi; have hlim := (h.blk id _ hmi).1
          cases hb : β id with
          | none =>
            rw [hb] at hsl; obtain ⟨_, h0, rfl⟩ := hsl; rw [h0]; exact ⟨run _ _ _ hu, by omega, by simp [lim]⟩
          | some bc =>
            obtain ⟨b, D⟩ := bc; rw [hb] at hsl; obtain ⟨p, rfl, hle, hp⟩ := hsl; exact ⟨run _ _ _ hu, by omega, by unfold lim; omega⟩
        · simp [Rd.eval] at hs
  | tr id ep v hm h1 hv =>
    obtain ⟨t', hu⟩ := hu; simp only [lenSV] at hs; replace hs := Rd.mem_some hs
    cases hmi : mem id with
    | none => rw [hmi] at hs; simp [Rd.eval] at hs
    | some kk =>
      rw [hmi] at hs
      cases kk with
      | box => simp [Rd.eval] at hs
      | arr => simp [Rd.eval] at hs
      | dead => simp [Rd.eval] at hs
      | mp => simp [Rd.eval] at hs
      | hole => simp [Rd.eval] at hs
      | tree ep' v xs =>
        simp only at hs; split at hs
        · rename_i e; subst e; simp only [Rd.eval, Option.some.injEq] at hs; subst hs; have hsl := hv _ _ (.of hmi); have hlim := (h.blk id _ hmi).1
          cases hb : β id with
          | none =>
            rw [hb] at hsl; obtain ⟨_, h0, rfl⟩ := hsl; rw [h0]; exact ⟨run _ _ _ hu, by omega, by simp [lim]⟩
          | some bc =>
            obtain ⟨b, D⟩ := bc; rw [hb] at hsl; obtain ⟨p, rfl, hle, hp⟩ := hsl; exact ⟨run _ _ _ hu, by omega, by unfold lim; omega⟩
        · simp [Rd.eval] at hs
  | sub id ep off len v hm h1 hv =>
    obtain ⟨t', hu⟩ := hu; simp only [lenSV] at hs; replace hs := Rd.mem_some hs
    cases hmi : mem id with
    | none => rw [hmi] at hs; simp [Rd.eval] at hs
    | some kk =>
      rw [hmi] at hs
      cases kk with
      | box => simp [Rd.eval] at hs
      | tree => simp [Rd.eval] at hs
      | dead => simp [Rd.eval] at hs
      | mp => simp [Rd.eval] at hs
      | hole => simp [Rd.eval] at hs
      | arr ep' v xs =>
        simp only at hs; split at hs
        · rename_i e; subst e; simp only [Rd.eval, Option.some.injEq] at hs; subst hs; obtain ⟨hle0, hsl⟩ := hv _ _ hmi; have hlim := (h.blk id _ hmi).1
          cases hb : β id with
          | none =>
            rw [hb] at hsl; obtain ⟨_, h0, rfl⟩ := hsl; rw [h0]; exact ⟨run _ _ _ hu, by omega, by simp [lim]⟩
          | some bc =>
            obtain ⟨b, D⟩ := bc; rw [hb] at hsl; obtain ⟨p, rfl, hle, hp⟩ := hsl; exact ⟨run _ _ _ hu, by omega, by unfold lim; omega⟩
        · simp [Rd.eval] at hs
  | _ => simp [lenSV, Rd.eval] at hs

end
end Go.Am
