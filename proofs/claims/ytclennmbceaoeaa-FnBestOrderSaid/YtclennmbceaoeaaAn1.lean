/-
  An, part 1: cells of a variable told otherwise.
-/
import Derived.Test.YtclennmbceaoeaaAnG
set_option linter.all false
namespace Go.Am
variable [U : Univ]
section
variable {E : Ent} {N : Nat} {P : Program} {Q : Exit → St → Prop} {st : St} {c : Code} {a : Act} {w : World} {β : Bind} {env : Nat → SV} {mem : Nat → Option Blk}

theorem SimB.cellB (h : SimB E N env mem a w β) {bid ep j : Nat} {cells : List SV} {sv' : SV} (hb : mem bid = some (.box ep cells)) (hj : j < cells.length)
    (hr : ∀ (b C : Nat) (cs : Array Value) (el : Nat) (v : Value), β bid = some (b, C) → w.heap[b]? = some (.cells cs el (0, 0)) → cs[j]? = some v → RepSV (allow E w β) w β mem sv' v) :
    SimB E N env (setm mem bid (.box ep (cells.set j sv'))) a w β := by
  obtain ⟨b, C, cs, el, h1, h2, h3, h4⟩ := h.blk bid _ hb
  have hm : ∀ i k, mem i = some k → ∃ k', setm mem bid (.box ep (cells.set j sv')) i = some k' ∧ k.ep ≤ k'.ep ∧ (k.ep = k'.ep → k.alike k' ∧ β i = β i) := by
    intro i k hk; by_cases hi : i = bid
    · rw [hi, hb] at hk; obtain rfl := Option.some.inj hk; rw [hi]; exact ⟨_, setm_same _ _ _, Nat.le_refl _, fun _ => ⟨trivial, rfl⟩⟩
    · exact ⟨k, by rw [setm_ne _ _ hi]; exact hk, Nat.le_refl _, fun _ => ⟨k.alike_refl, rfl⟩⟩
  refine h.write (k := .box ep (cells.set j sv')) hb h1 (Nat.le_refl _) (fun _ => trivial) rfl rfl rfl ⟨rfl, Nat.le_refl _⟩ rfl (fun _ _ => rfl)
    ⟨b, C, cs, el, h1, h2, by rw [List.length_set]; exact h3, fun q sv hq => ?_⟩
  rw [List.getElem?_set] at hq; by_cases hjq : j = q
  · subst hjq; rw [if_pos rfl, if_pos hj] at hq; obtain rfl := Option.some.inj hq; obtain ⟨v, hv, hv1, _⟩ := h4 j _ (List.getElem?_eq_getElem hj); exact ⟨v, hv, hv1, (hr b C cs el v h1 h2 hv).mono (fun b hb => ⟨hb, rfl⟩) hm⟩
  · rw [if_neg hjq] at hq; obtain ⟨v, hv, hv1, hr'⟩ := h4 q sv hq; exact ⟨v, hv, hv1, hr'.mono (fun b hb => ⟨hb, rfl⟩) hm⟩

theorem memfC {sl : List (Nat × SV)} {id : Nat} {k : Blk} : (⟨sl, (id, k) :: st.mem⟩ : St).memf = setm st.memf id k := by
  funext y; show lookM _ y = _; simp only [lookM, setm]; rfl

theorem memfC2 {sl : List (Nat × SV)} {id id2 : Nat} {k k2 : Blk} : (⟨sl, (id, k) :: (id2, k2) :: st.mem⟩ : St).memf = setm (setm st.memf id2 k2) id k := by
  funext y; show lookM _ y = _; simp only [lookM, setm]; rfl

theorem AW.nilB (bid ep j : Nat) (cells : List SV) (t : Ty) (hb : st.memf bid = some (.box ep cells)) (hj : cells[j]? = some .nilsl)
    (h : AW P E N c Q ⟨st.slots, (bid, .box ep (cells.set j (.data (.slice t) ([] : List t.den)))) :: st.mem⟩) : AW P E N c Q st := by
  rintro a w ⟨β, hw⟩; refine h a w ⟨β, ?_⟩; rw [memfC]; refine hw.cellB hb (List.getElem?_eq_some_iff.1 hj).1 fun b C cs el v h1 h2 hv => ?_; obtain ⟨b', C', cs', el', k1, k2, k3, k4⟩ := hw.blk bid _ hb; rw [h1] at k1; (obtain ⟨rfl, rfl⟩ : b = b' ∧ C = C' := by simpa using k1); rw [h2] at k2; (obtain ⟨rfl, rfl⟩ : cs = cs' ∧ el = el' := by simpa using k2); obtain ⟨v', hv', _, hr⟩ := k4 j _ hj; rw [hv] at hv'; obtain rfl := Option.some.inj hv'; cases hr; exact .data _ _ _ (.one _ _ _ (by simp) (.nil t))

theorem AW.truncB (bid ep j id ep2 k : Nat) (cells : List SV) (t : Ty) (xs : List t.den) (hb : st.memf bid = some (.box ep cells)) (hj : cells[j]? = some (.sub id ep2 0 k)) (hm : st.memf id = some (.arr ep2 t xs))
    (h : AW P E N c Q ⟨st.slots, (bid, .box ep (cells.set j (.arr id (ep2 + 1)))) :: (id, .arr (ep2 + 1) t (xs.take k)) :: st.mem⟩) : AW P E N c Q st := by
  rintro a w ⟨β, hw⟩; refine h a w ⟨β, ?_⟩; (have hne : bid ≠ id := by rintro rfl; rw [hb] at hm; cases hm); obtain ⟨b, C, cs, el, k1, k2, k3, k4⟩ := hw.blk bid _ hb; obtain ⟨v, hv, hv1, hsl⟩ := k4 j _ hj
  have h1 : SimB E N st.env (setm st.memf id (.arr (ep2 + 1) t (xs.take k))) a w β := by
    refine hw.evolve rfl rfl ⟨rfl, Nat.le_refl _⟩ (Nat.le_refl _) (fun _ _ _ => rfl) (fun b hb => ⟨hb, rfl⟩) (fun i k0 hk0 => ?_) (fun i b C e => ?_) hw.inj
      (fun b i e => by
        obtain ⟨⟨k0, hk0, ht⟩, h2⟩ := hw.own b i e
        have hi : i ≠ id := by
          rintro rfl; rw [hm] at hk0; obtain rfl := Option.some.inj hk0; cases ht
        exact ⟨⟨k0, by rw [setm_ne _ _ hi]; exact hk0, ht⟩, h2⟩) (fun c i _ _ _ hc => ⟨hc, rfl⟩) (fun i k' hk' => ?_) (fun i cs hc => ?_)
    · by_cases hi : i = id
      · subst hi; rw [hm] at hk0; obtain rfl := Option.some.inj hk0; exact ⟨_, setm_same _ _ _, Nat.le_succ _, fun e => absurd e (Nat.ne_of_lt (Nat.lt_succ_self _))⟩
      · exact ⟨k0, by rw [setm_ne _ _ hi]; exact hk0, Nat.le_refl _, fun _ => ⟨k0.alike_refl, rfl⟩⟩
    · obtain ⟨⟨k0, hk0, hkb⟩, h2⟩ := hw.dom i b C e; refine ⟨?_, h2⟩; by_cases hi : i = id
      · subst hi; rw [hm] at hk0; obtain rfl := Option.some.inj hk0; exact ⟨_, setm_same _ _ _, hkb⟩
      · exact ⟨k0, by rw [setm_ne _ _ hi]; exact hk0, hkb⟩
    · by_cases hi : i = id
      · subst hi; rw [setm_same] at hk'; obtain rfl := Option.some.inj hk'; right; obtain ⟨hl, ⟨h1, h2⟩ | ⟨b, D, cs, el, css, h1, h2, h3, h4, h5⟩⟩ := hw.blk _ _ hm
        · exact ⟨by rw [List.length_take]; omega, .inl ⟨h1, by rw [h2]; simp⟩⟩
        · refine ⟨by rw [List.length_take]; omega, .inr ⟨b, D, cs, el, css, h1, h2, h3, by rw [List.length_take]; omega, fun q hq => ?_⟩⟩; have hq' := hq; rw [List.length_take] at hq'; obtain ⟨g1, g2, g3⟩ := h5 q (by omega); refine ⟨g1, g2, ?_⟩; rw [List.getElem_take]; exact g3
      · rw [setm_ne _ _ hi] at hk'; exact .inl ⟨hk', rfl, fun _ _ _ => rfl⟩
    · by_cases hi : i = id
      · subst hi; rw [setm_same] at hc; cases hc
      · rw [setm_ne _ _ hi] at hc; exact ⟨cs, hc, rfl⟩
  have h2 := h1.cellB (bid := bid) (ep := ep) (cells := cells) (j := j) (sv' := .arr id (ep2 + 1)) (by rw [setm_ne _ _ hne]; exact hb) (List.getElem?_eq_some_iff.1 hj).1 (fun b' C' cs' el' v' g1 g2 gv => by
    rw [k1] at g1; (obtain ⟨rfl, rfl⟩ : b = b' ∧ C = C' := by simpa using g1); rw [k2] at g2; (obtain ⟨rfl, rfl⟩ : cs = cs' ∧ el = el' := by simpa using g2); rw [hv] at gv; obtain rfl := Option.some.inj gv
    cases hsl with
    | sub _ _ _ _ _ hx hv1 hs =>
      obtain ⟨hle, hsa⟩ := hs t xs hm; refine .arr _ _ _ ⟨_, setm_same _ _ _, Nat.le_refl _⟩ hv1 fun u zs hz => ?_; rw [setm_same] at hz; simp only [Option.some.injEq, Blk.arr.injEq, true_and] at hz; obtain ⟨rfl, hz⟩ := hz; obtain rfl := eq_of_heq hz; rw [List.length_take, Nat.min_eq_left (by omega)]
      exact hsa)
  rw [memfC2]; exact h2

end
end Go.Am
