/-
  An, part I: the library's SortFunc sorts an array of the call's own, by a function that has a contract.
-/
import Derived.Test.YtjcjpeckfikfkaaAnG
import Derived.Shelf.SlSortCmp.Whole1
set_option linter.all false
namespace Go.Am
open List
variable [U : Univ]
attribute [local irreducible] OFF

section
variable {E : Ent} {N : Nat} {P : Program} {ops : Array Oper} {Q : Exit → St → Prop} {st : St} {a : Act} {w : World} {β : Bind} {env : Nat → SV} {mem : Nat → Option Blk}

theorem SimB.writeG (h : SimB E N env mem a w β) {w' : World} {id b D : Nat} {k0 k : Blk} (hk0 : mem id = some k0) (hb : β id = some (b, D))
    (hep : k0.ep ≤ k.ep) (hal : k0.ep = k.ep → k0.alike k) (hbox : k0.isBox = k.isBox)
    (hos : w'.os = w.os) (htape : w'.tape = w.tape) (hout : w'.output = w.output ∧ U.dr w.drawn ≤ U.dr w'.drawn) (hsize : w.heap.size ≤ w'.heap.size)
    (hheap : ∀ c, c < w.heap.size → c ≠ b → w'.heap[c]? = w.heap[c]?)
    (hblk : RepBlk (allow E w' β) w' β (setm mem id k) id k) (htr : k0.isTree = k.isTree := by rfl) :
    SimB E N env (setm mem id k) a w' β := by
  have hdb := h.dom id b D hb
  have hA : ∀ c, allow E w β c → allow E w' β c ∧ w'.heap[c]? = w.heap[c]? := by
    rintro c ⟨h1, h2, h3, h4⟩; refine ⟨⟨by omega, h2, h3, h4⟩, hheap c h1 ?_⟩; rintro rfl; exact h3 id D hb
  refine h.evolve hos htape hout hsize (fun c hc hn => hheap c (by have := h.grow; omega) ?_) hA ?_ ?_ h.inj ?_ ?_ ?_ ?_
  · rintro rfl; rcases hdb.2.2 with h1 | h1
    · exact hn h1
    · omega
  · intro i k1 hk1; by_cases hi : i = id
    · subst hi; rw [hk0] at hk1; obtain rfl := Option.some.inj hk1; exact ⟨k, setm_same _ _ _, hep, fun e => ⟨hal e, rfl⟩⟩
    · exact ⟨k1, by rw [setm_ne _ _ hi]; exact hk1, Nat.le_refl _, fun _ => ⟨k1.alike_refl, rfl⟩⟩
  · intro i c C hc; obtain ⟨⟨k1, hk1, hk2⟩, h2, h3⟩ := h.dom i c C hc; refine ⟨?_, by omega, h3⟩; by_cases hi : i = id
    · subst hi; rw [hk0] at hk1; obtain rfl := Option.some.inj hk1; exact ⟨k, setm_same _ _ _, fun hb => by rw [← hbox]; exact hk2 hb⟩
    · exact ⟨k1, by rw [setm_ne _ _ hi]; exact hk1, hk2⟩
  · intro c i hc; obtain ⟨⟨k1, hk1, ht⟩, h2, h3, h4⟩ := h.own c i hc; refine ⟨?_, by omega, h3, h4⟩; by_cases hi : i = id
    · subst hi; rw [hk0] at hk1; obtain rfl := Option.some.inj hk1; exact ⟨k, setm_same _ _ _, by rw [← htr]; exact ht⟩
    · exact ⟨k1, by rw [setm_ne _ _ hi]; exact hk1, ht⟩
  · intro c i _ _ _ hc; exact ⟨hc, hheap c (h.own c i hc).2.1 (fun e => (h.own c i hc).2.2.2 id D (by rw [e]; exact hb))⟩
  · intro i k' hk'; by_cases hi : i = id
    · subst hi; rw [setm_same] at hk'; obtain rfl := Option.some.inj hk'; exact .inr hblk
    · rw [setm_ne _ _ hi] at hk'; exact .inl ⟨hk', rfl, fun c C hc => hheap c (h.dom i c C hc).2.1 (fun e => hi (by subst e; exact h.inj i id c C D hc hb))⟩
  · intro i c hc; by_cases hi : i = id
    · subst hi; rw [setm_same] at hc; obtain rfl := Option.some.inj hc; simp only [Blk.ep, Nat.le_zero] at hep
      cases k0 with
      | box e c0 => simp only at hep; subst hep; exact ⟨c0, hk0, rfl⟩
      | arr => simp [Blk.isBox] at hbox
      | tree => simp [Blk.isBox] at hbox
      | dead => simp [Blk.isBox] at hbox
      | mp => simp [Blk.isBox] at hbox
    · rw [setm_ne _ _ hi] at hc; exact ⟨c, hc, rfl⟩

structure SortC (P : Program) (f g : FuncId) (t : Ty) (pre : List t.den → Prop) (srt : List t.den → List t.den) : Prop where
  fn : ∃ fn c, P.funcs[f]? = some fn ∧ (fn.name == "runtime.NumGoroutine") = false ∧ fn.body = some c
  len : ∀ xs, (srt xs).length = xs.length
  nilp : ∀ w, Calls P f #[.slice none 0 0, .func (.func g) #[] #[]] w fun e w' => e = .returned (.tuple #[]) ∧ w' = w
  row : ∀ (A : Nat → Prop) (w : World) (b D : Nat) (cs : Array Value) (el : Nat) (xs : List t.den) (css : Nat → List Value), (∀ c, A c → c < w.heap.size ∧ c ≠ b) → w.heap[b]? = some (.cells cs el (0, 0)) →
    cs.size = D * t.size → xs.length ≤ D → (∀ k (hk : k < xs.length), (css k).length = t.size ∧ (∀ (j : Nat) (v : Value), (css k)[j]? = some v → cs[k * t.size + j]? = some v) ∧ RepC A w t xs[k] (css k)) →
    (xs.length : Int) ≤ 4294967296 → pre xs →
    Calls P f #[.slice (some ⟨b, 0, none⟩) xs.length D, .func (.func g) #[] #[]] w fun e w' => e = .returned (.tuple #[]) ∧ w'.os = w.os ∧ w'.tape = w.tape ∧ (w'.output = w.output ∧ U.dr w.drawn ≤ U.dr w'.drawn) ∧ w.heap.size ≤ w'.heap.size ∧
      (∀ c, c < w.heap.size → c ≠ b → w'.heap[c]? = w.heap[c]?) ∧ ∃ (cs' : Array Value) (css' : Nat → List Value), w'.heap[b]? = some (.cells cs' el (0, 0)) ∧ cs'.size = D * t.size ∧
        ∀ k (hk : k < (srt xs).length), (css' k).length = t.size ∧ (∀ (j : Nat) (v : Value), (css' k)[j]? = some v → cs'[k * t.size + j]? = some v) ∧ RepC A w t (srt xs)[k] (css' k)

theorem AWO.sort {f g : FuncId} {t : Ty} {pre : List t.den → Prop} {srt : List t.den → List t.den} (hS : SortC P f g t pre srt) {i : Nat} {rest : List Nat} {d : Nat} {x : Operand} {ats : Array TypeId} {type : TypeId} {pos : String} {after : Array Edge}
    {id ep : Nat} {xs : List t.den} {l : List Nat} (hl : l = i :: rest) (ho : ops[i]? = some ⟨some d, .call ⟨.value (.func f), #[x, .func g], ats⟩, type, pos, after, none⟩) (hd : dstOK N (some d) = true)
    (hx : opv st.env x = (.arr id ep, [])) (hm : st.memf id = some (.arr ep t xs)) (hp : pre xs)
    (h : AWO P E N ops rest Q ⟨(d, .top) :: st.slots, (id, .arr ep t (srt xs)) :: st.mem⟩) : AWO P E N ops l Q st := by
  rintro a w ⟨β, hs⟩; subst hl
  have hdN : ∀ d', some d = some d' → d' < N := by
    intro d' e; cases e; exact Nat.le_of_ble_eq_true hd
  obtain ⟨fn, c, hfn, hname, hb⟩ := hS.fn; have hxr := opv_rep hs hx (fun p hp => by cases hp); generalize hxe : a.eval x = xv at hxr
  have hrun : ∀ w, (execOp a.eval ⟨some d, .call ⟨.value (.func f), #[x, .func g], ats⟩, type, pos, after, none⟩).run P w = .ok (.enter f #[xv, .func (.func g) #[] #[]]) w := by
    intro w; simp only [execOp, resolve, Deferred.ofValue, Sem.run_bind, Sem.run_pure, Result.andThen_ok, invoke, callFunc, run_program, hfn, hname, hb, Bool.false_eq_true, if_false, Act.eval]; simp [hxe]; rfl
  have hmemf : (⟨(d, .top) :: st.slots, (id, .arr ep t (srt xs)) :: st.mem⟩ : St).memf = setm st.memf id (.arr ep t (srt xs)) := by
    funext y; show lookM _ y = _; simp only [lookM, setm]; rfl
  have henv : (⟨(d, .top) :: st.slots, (id, .arr ep t (srt xs)) :: st.mem⟩ : St).env = putE st.env (some d) .top := by
    funext y; show lookS _ y = _; simp only [lookS, putE]; rfl
  rw [wpOpsIn_cons]; unfold wpOpIn; simp only [ho]; rw [if_pos (by rfl)]; refine ⟨fun _ _ => trivial, ?_⟩; rw [Oper.semAt_eq _ _ _ (fun c e => by cases e), hrun w, Oper.uponIn_enter]; refine ⟨fun h => (by cases h), callsIn_fence ?_⟩
  have next : ∀ (w' : World), SimB E N st.env (setm st.memf id (.arr ep t (srt xs))) a w' β → wpOpsIn E.fence 0 P ops (CQ E N Q) rest (a.put (some d) (.tuple #[])) w' := by
    intro w' h1; refine h _ w' ⟨β, ?_⟩; rw [hmemf, henv]; exact h1.put hdN (.top _)
  cases hxr with
  | arr _ _ v hmm h1 hv =>
    have hv := hv t xs hm; obtain ⟨hlim, ⟨hb0, hnil⟩ | ⟨b, D, cs, el, css, hb0, hh, hsz, hD, hel⟩⟩ := hs.blk id _ hm
    · rw [hb0] at hv; obtain ⟨_, _, rfl⟩ := hv; subst hnil; have e0 : srt [] = [] := length_eq_zero_iff.1 (hS.len []); refine (hS.nilp w).mono ?_; rintro e w' ⟨rfl, rfl⟩; refine next _ ?_; rw [e0]
      have e2 : setm st.memf id (.arr ep t ([] : List t.den)) = st.memf := by
        funext j; by_cases hj : j = id
        · subst hj; rw [setm_same, hm]
        · rw [setm_ne _ _ hj]
      rw [e2]; exact hs
    · rw [hb0] at hv; obtain ⟨p, rfl, hle, hp0⟩ := hv; obtain rfl := hp0 (.inl rfl); simp only [Nat.sub_zero, Nat.zero_mul] at *; refine (hS.row (allow E w β) w b D cs el xs css (fun c hc => ⟨hc.1, fun e => by subst e; exact hc.2.2.1 id D hb0⟩) hh hsz hD hel hlim hp).mono ?_; rintro e w' ⟨rfl, g1, g2, g3, g4, g5, cs', css', g6, g7, g8⟩; refine next _ ?_
      have hAA : ∀ c, allow E w β c → allow E w' β c ∧ w'.heap[c]? = w.heap[c]? := by
        rintro c ⟨h1, h2, h3⟩; refine ⟨⟨by omega, h2, h3⟩, g5 c h1 ?_⟩; rintro rfl; exact h3.1 id D hb0
      refine hs.writeG hm hb0 (Nat.le_refl _) (fun _ => ?_) rfl g1 g2 g3 g4 g5 ⟨by rw [hS.len]; exact hlim, .inr ⟨b, D, cs', el, css', hb0, g6, g7, by rw [hS.len]; exact hD, fun k hk => ⟨(g8 k hk).1, (g8 k hk).2.1, (g8 k hk).2.2.mono hAA⟩⟩⟩; exact ⟨rfl, hS.len xs |>.symm⟩

end
end Go.Am


namespace Go.Am
open List
open Go.Sort Go.Proofs
variable [U : Univ]
attribute [local irreducible] OFF

section
variable {P : Program} {ρ : Go.Shelf.Ren}

omit U in
theorem world_grow {w w' : World} (h1 : w'.os = w.os) (h2 : w'.tape = w.tape) (h3 : w'.output = w.output) (h4 : w.drawn ≤ w'.drawn) (h5 : w.heap.size ≤ w'.heap.size)
    (h6 : ∀ b, b < w.heap.size → w'.heap[b]? = w.heap[b]?) : ∃ q os', w' = grow (w.drewN q) os' := by
  refine ⟨w'.drawn - w.drawn, w'.heap.extract w.heap.size w'.heap.size, ?_⟩
  have hh : w'.heap = w.heap ++ w'.heap.extract w.heap.size w'.heap.size := by
    apply Array.ext_getElem?; intro i; rw [Array.getElem?_append]; split
    · rename_i hi; exact h6 i hi
    · rename_i hi; rw [Array.getElem?_extract]; split
      · congr 1; omega
      · rename_i hq; rw [Array.getElem?_eq_none]; omega
  cases w'; cases w; simp only at *; subst h1 h2 h3; unfold grow World.drewN; simp only [World.mk.injEq, true_and, and_true]; exact ⟨hh, by omega⟩

def Elt (A : Nat → Prop) (w : World) (t : Ty) (ok : t.den → Prop) : Type := { p : Value × t.den // RepC A w t p.2 [p.1] ∧ ok p.2 }

def Elt.at {A : Nat → Prop} {w : World} {t : Ty} {ok : t.den → Prop} (e : Elt A w t ok) : Value × t.den := e.1

omit U in
theorem heap_sortWorld {α : Type} [Inhabited α] (enc : α → Value) (w : World) (blk off n : Nat) (d : Array α) (os : Array Obj) {c : Nat} (hc : c < w.heap.size) (hne : c ≠ blk) : (sortWorld enc w blk off n d os).heap[c]? = w.heap[c]? := by
  unfold sortWorld grow putRow mapBlock; simp only [heap_ahead]; rw [Array.getElem?_append_left (by simpa using hc), Array.getElem?_modify, if_neg (Ne.symm hne)]

omit U in
theorem heap_sortWorld_row {α : Type} [Inhabited α] (enc : α → Value) (w : World) (blk n : Nat) (d : Array α) (os : Array Obj) {cs : Array Value} {el : Nat} (h : w.heap[blk]? = some (.cells cs el (0, 0))) :
    (sortWorld enc w blk 0 n d os).heap[blk]? = some (.cells (Go.Sort.putCells enc 0 d cs) el (0, 0)) := by
  have hb : blk < w.heap.size := (Array.getElem?_eq_some_iff.1 h).1; unfold sortWorld grow putRow mapBlock; simp only [heap_ahead]; rw [Array.getElem?_append_left (by simpa using hb), Array.getElem?_modify, if_pos rfl, h]; rfl

theorem SortC.of_kit (hglob : ∀ w bs, Laid w bs) (hdr : ∀ n, U.dr n = n) (L : Go.Proofs.SlLaysF.n6 P ρ) {f g : FuncId} (hf : ρ.f 6 = f) {t : Ty} (ht : ∀ n, t ≠ .named n) {sp : FnSpec} (hg : FnOK P g sp) (hps : sp.ps = [.val t, .val t]) (hrs : sp.rs = [.val (.int .i64)])
    {ok : t.den → Prop} {cf : t.den → t.den → Int} (hpre : ∀ x y, ok x → ok y → sp.pre [⟨t, x⟩, ⟨t, y⟩]) (hfn : ∀ x y, ok x → ok y → sp.fn [⟨t, x⟩, ⟨t, y⟩] = [⟨.int .i64, cf x y⟩])
    (hirr : ∀ x, ok x → ¬ cf x x < 0) (htr : ∀ x y z, ok x → ok y → ok z → cf x y < 0 → cf y z < 0 → cf x z < 0) (hntr : ∀ x y z, ok x → ok y → ok z → ¬ cf x y < 0 → ¬ cf y z < 0 → ¬ cf x z < 0)
    {A : Nat → Prop} {w : World} {b D : Nat} {cs : Array Value} {el : Nat} {xs : List t.den} {css : Nat → List Value} (hA : ∀ c, A c → c < w.heap.size ∧ c ≠ b) (hh : w.heap[b]? = some (.cells cs el (0, 0)))
    (hsz : cs.size = D * t.size) (hD : xs.length ≤ D) (hel : ∀ k (hk : k < xs.length), (css k).length = t.size ∧ (∀ (j : Nat) (v : Value), (css k)[j]? = some v → cs[k * t.size + j]? = some v) ∧ RepC A w t xs[k] (css k))
    (hl : (xs.length : Int) ≤ 4294967296) (hok : ∀ x ∈ xs, ok x) (hne : xs ≠ []) :
    Calls P f #[.slice (some ⟨b, 0, none⟩) xs.length D, .func (.func g) #[] #[]] w fun e w' => e = .returned (.tuple #[]) ∧
      ∃ (d d' : List (Value × t.den)) (n : Nat) (os : Array Obj) (cs' : Array Value), d'.Perm d ∧ d.map (·.2) = xs ∧ (∀ p ∈ d, RepC A w t p.2 [p.1]) ∧ (∀ (k : Nat) p, d[k]? = some p → css k = [p.1]) ∧ (∀ i j : Nat, i < j → ∀ p q, d'[i]? = some p → d'[j]? = some q → ¬ cf q.2 p.2 < 0) ∧
        w'.os = w.os ∧ w'.tape = w.tape ∧ w'.output = w.output ∧ w.drawn ≤ w'.drawn ∧ w.heap.size ≤ w'.heap.size ∧ (∀ c, c < w.heap.size → c ≠ b → w'.heap[c]? = w.heap[c]?) ∧
        w'.heap[b]? = some (.cells cs' el (0, 0)) ∧ cs'.size = cs.size ∧ (∀ (k : Nat) p, d'[k]? = some p → cs'[k]? = some p.1) := by
  have ht1 : t.size = 1 := by cases t <;> first | rfl | exact absurd rfl (ht _)
  -- the elements
  have hv : ∀ k, k < xs.length → ∃ v, css k = [v] := by
    intro k hk; have := (hel k hk).1
    rw [ht1] at this
    exact length_eq_one_iff.1 this
  let eltAt : (k : Nat) → k < xs.length → Elt A w t ok := fun k hk => ⟨((css k).headD undef, xs[k]), by
    obtain ⟨v, e⟩ := hv k hk; have := (hel k hk).2.2; rw [e] at this ⊢
    exact ⟨this, hok _ (getElem_mem hk)⟩⟩
  have hpos : 0 < xs.length := length_pos_iff.2 hne; letI : Inhabited (Elt A w t ok) := ⟨eltAt 0 hpos⟩; let d : Array (Elt A w t ok) := Array.ofFn fun i : Fin xs.length => eltAt i i.2; have hds : d.size = xs.length := Array.size_ofFn
  have hdk : ∀ k (hk : k < xs.length), d[k]! = eltAt k hk := by
    intro k hk; rw [getElem!_pos d k (by rw [hds]; exact hk)]; exact Array.getElem_ofFn _
  let enc : Elt A w t ok → Value := fun p => p.1.1; let cfe : Elt A w t ok → Elt A w t ok → Int := fun p q => cf p.1.2 q.1.2
  have hO : SWO (ltOf cfe) := by
    refine ⟨fun x => ?_, fun x y z h1 h2 => ?_, fun x y z h1 h2 => ?_⟩
    · exact decide_eq_false (hirr _ x.2.2)
    · exact decide_eq_true (htr _ _ _ x.2.2 y.2.2 z.2.2 (of_decide_eq_true h1) (of_decide_eq_true h2))
    · exact decide_eq_false (hntr _ _ _ x.2.2 y.2.2 z.2.2 (of_decide_eq_false h1) (of_decide_eq_false h2))
  have hblk : b < w.heap.size := (Array.getElem?_eq_some_iff.1 hh).1
  have eg : ∀ args w, (callFunc g args).run P w = .ok (.enter g args) w := by
    intro args w; obtain ⟨⟨fn, h1, h2, h3⟩, _⟩ := hg; simp only [callFunc, Sem.run_bind, run_program, Result.andThen_ok, h1, h2, Bool.false_eq_true, if_false, h3]; rfl
  have hcell : ∀ k (hk : k < xs.length), w.cell? ⟨b, k, none⟩ = some (enc (eltAt k hk)) := by
    intro k hk; obtain ⟨v, e⟩ := hv k hk; have h1 := (hel k hk).2.1 0 v (by rw [e]; rfl); rw [ht1, Nat.mul_one, Nat.add_zero] at h1; unfold World.cell?; rw [hh]; show cs[k]? = _; rw [h1]; show some v = some ((css k).headD undef); rw [e]; rfl
  have hH : Holds enc w b 0 d := by
    intro j hj; rw [hds] at hj; rw [Nat.zero_add, hdk j hj]; refine ⟨hcell j hj, ?_⟩; unfold World.frozen?; rw [hh]; simp
  have hcmp : CmpLays1 P g #[] enc cfe b 0 d.size w := by
    intro m os dk hs x y; have hA2 : ∀ c, A c → A c ∧ (sortWorld enc w b 0 m dk os).heap[c]? = w.heap[c]? := fun c hc => ⟨hc, heap_sortWorld _ _ _ _ _ _ _ (hA c hc).1 (hA c hc).2⟩
    have := hg.2 A (sortWorld enc w b 0 m dk os) [enc x, enc y] [⟨t, x.1.2⟩, ⟨t, y.1.2⟩] [] (fun c hc => ⟨Nat.lt_of_lt_of_le (hA c hc).1 (SW.le ⟨m, os, rfl⟩), by simp⟩) (by simp) nodup_nil
      (by rw [hps]; exact .val _ _ _ _ _ _ _ (.one _ _ _ ht (x.2.1.mono hA2)) (.val _ _ _ _ _ _ _ (.one _ _ _ ht (y.2.1.mono hA2)) .nil)) (hpre _ _ x.2.2 y.2.2) (hglob _ _)
    refine this.mono ?_; rintro e w' ⟨rvs, nb, A', hp⟩; have hr := hp.ress; rw [hrs, hfn _ _ x.2.2 y.2.2] at hr
    have hrv : rvs = [.int .i64 (cf x.1.2 y.1.2)] := by
      cases hr with
      | val _ _ v _ _ vs _ h1 h2 =>
        cases h2
        cases h1 with
        | one _ _ _ _ h1 => cases h1; rfl
    refine ⟨by rw [hp.ret, hrv]; rfl, world_grow hp.os hp.tape hp.output.1 (by have := hp.output.2; rwa [hdr, hdr] at this) hp.grow fun c hc => hp.old c hc (by simp)⟩
  subst hf; have hsort := Any.slices_SortFunc L enc (fun x => RepC.one x.2.1 _ (mem_singleton.2 rfl)) cfe hO g #[] b 0 D d w eg hcmp hH hblk (by rw [hds]; omega); rw [hds] at hsort; refine hsort.mono ?_; rintro e w' ⟨rfl, d', n, os, hp, hso, rfl⟩; rw [← hds] at hp hso; obtain ⟨hp1, -, hp3⟩ := hp; (have hfull : ∀ a : Array (Elt A w t ok), a.size = d.size → a.extract 0 d.size = a := fun a ha => by rw [← ha]; exact Array.extract_size); rw [hfull d' hp1, hfull d rfl] at hp3; refine ⟨rfl, d.toList.map Elt.at, d'.toList.map Elt.at, n, os, Go.Sort.putCells enc 0 d' cs, hp3.map _, ?_, ?_, ?_, ?_, rfl, rfl, rfl, ?_, ?_, fun c hc hne => heap_sortWorld _ _ _ _ _ _ _ hc hne, heap_sortWorld_row _ _ _ _ _ _ hh, ?_, ?_⟩
  · apply ext_getElem?; intro i; rw [map_map, getElem?_map, Array.getElem?_toList]; by_cases hi : i < xs.length
    · have := hdk i hi
      rw [getElem!_pos d i (by rw [hds]; exact hi)] at this
      rw [Array.getElem?_eq_getElem (by rw [hds]; exact hi), this, getElem?_eq_getElem hi]; rfl
    · rw [Array.getElem?_eq_none (by omega), getElem?_eq_none (by omega)]; rfl
  · intro p hp; obtain ⟨q, _, rfl⟩ := mem_map.1 hp; exact q.2.1
  · intro k p hk; rw [getElem?_map, Array.getElem?_toList] at hk; obtain ⟨q, hq, rfl⟩ := Option.map_eq_some_iff.1 hk; (have hkl : k < xs.length := by rw [← hds]; exact (Array.getElem?_eq_some_iff.1 hq).1); have := hdk k hkl
    rw [getElem!_pos d k (by rw [hds]; exact hkl), (Array.getElem?_eq_some_iff.1 hq).2] at this
    subst this
    obtain ⟨v, e⟩ := hv k hkl; show css k = [(css k).headD undef]; rw [e]; rfl
  · intro i j hij p q hi hj; rw [getElem?_map, Array.getElem?_toList] at hi hj; obtain ⟨p', hp', rfl⟩ := Option.map_eq_some_iff.1 hi; obtain ⟨q', hq', rfl⟩ := Option.map_eq_some_iff.1 hj; have hjl := (Array.getElem?_eq_some_iff.1 hq').1; have hil := (Array.getElem?_eq_some_iff.1 hp').1; have := hso i j (Nat.zero_le _) hij (by omega)
    rw [getElem!_pos d' i hil, getElem!_pos d' j hjl, (Array.getElem?_eq_some_iff.1 hp').2, (Array.getElem?_eq_some_iff.1 hq').2] at this
    exact of_decide_eq_false this
  · show w.drawn ≤ w.drawn + n; omega
  · exact SW.le ⟨n, os, rfl⟩
  · unfold Go.Sort.putCells; simp
  · intro k p hk; rw [getElem?_map, Array.getElem?_toList] at hk; obtain ⟨p', hp', rfl⟩ := Option.map_eq_some_iff.1 hk; have hkl := (Array.getElem?_eq_some_iff.1 hp').1; unfold Go.Sort.putCells; rw [Array.getElem?_mapIdx]; (have hkc : k < cs.size := by rw [hsz, ht1]; omega); rw [Array.getElem?_eq_getElem hkc, Option.map_some]; have e1 : (0 ≤ k ∧ k < 0 + d'.size) := ⟨Nat.zero_le _, by omega⟩; rw [if_pos e1, Nat.sub_zero, getElem!_pos d' k hkl, (Array.getElem?_eq_some_iff.1 hp').2]; rfl

end
end Go.Am
