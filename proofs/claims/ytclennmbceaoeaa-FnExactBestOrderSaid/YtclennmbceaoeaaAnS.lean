/-
  An, part S: functions that write into a tree, and lay nothing (the laws' marks).
-/
import Derived.Test.YtclennmbceaoeaaAnR
set_option linter.all false
namespace Go.Am
variable [U : Univ]
attribute [local irreducible] OFF

structure MarkC (P : Program) (f : FuncId) (u : Ty) (pre : List u.den → Int → Prop) (mk : List u.den → Int → List u.den × Int) : Prop where
  fn : ∃ fn c, P.funcs[f]? = some fn ∧ (fn.name == "runtime.NumGoroutine") = false ∧ fn.body = some c
  len : ∀ xs k, (mk xs k).1.length = xs.length
  row : ∀ (w : World) (v : Value) (xs : List u.den) (k : Int) (S : Nat → Prop), RepO w (.slice u) xs [v] S → inR .i64 k → pre xs k → (∀ c, S c → c < w.heap.size) →
    Calls P f #[v, .int .i64 k] w fun e w' => e = .returned (.int .i64 (mk xs k).2) ∧ inR .i64 (mk xs k).2 ∧ w'.os = w.os ∧ w'.tape = w.tape ∧ (w'.output = w.output ∧ U.dr w.drawn ≤ U.dr w'.drawn) ∧
      (∀ c, c < w.heap.size → ¬ S c → w'.heap[c]? = w.heap[c]?) ∧ RepO w' (.slice u) (mk xs k).1 [v] (fun c => S c ∨ w.heap.size ≤ c)

section
variable {E : Ent} {N : Nat} {P : Program} {C : Ctx} {ops : Array Oper} {Q : Exit → St → Prop} {st : St} {a : Act} {w : World} {β : Bind} {env : Nat → SV} {mem : Nat → Option Blk}

def markQ (C : Ctx) (vars : List ResultVar) (u : Ty) (r : List u.den × Int) : Exit → St → Prop
  | .normal, st | .ret, st => (retSVs C st.env vars).eval st.memf = some [.int .i64 r.2] ∧ st.env OFF = .tr 0 1 ∧ st.memf 0 = some (.tree 1 u r.1)
  | _, _ => False

theorem MarkC.of_body (hglob : ∀ w bs, Laid w bs) {f : FuncId} {fn : Func} {c : Code} {u : Ty} {pre : List u.den → Int → Prop} {mk : List u.den → Int → List u.den × Int} (hf : P.funcs[f]? = some fn) (hname : (fn.name == "runtime.NumGoroutine") = false) (hb : fn.body = some c) (hC : CtxTy P C)
    (hN : (Nat.ble 2 fn.ntmps && Nat.ble fn.ntmps OFF) = true) (hlen : ∀ xs k, (mk xs k).1.length = xs.length)
    (h : ∀ xs k, (xs.length : Int) ≤ 4294967296 → inR .i64 k → pre xs k → ∀ E, AW P E fn.ntmps c (markQ C fn.results.toList u (mk xs k)) ⟨[(0, .tr 0 1), (1, .int .i64 k), (OFF, .tr 0 1)], [(0, .tree 1 u xs)]⟩) : MarkC P f u pre mk where
  fn := ⟨fn, c, hf, hname, hb⟩
  len := hlen
  row := by
    intro w v xs k S hO hk hp hS
    classical
    simp only [Bool.and_eq_true] at hN; have hN1 := Nat.le_of_ble_eq_true hN.1; have hN2 := Nat.le_of_ble_eq_true hN.2; (have hOFF : 1 < OFF := by unfold OFF; decide); let E : Ent := { w0 := { w with heap := #[] }, A0 := fun _ => False, bs := [], wf := fun _ h => h.elim, wb := fun _ h => by simp at h, lay := hglob _ _, par := fun _ => none, outer := fun s => if s = OFF then v else undef, obj := fun b => if S b then none else w.heap[b]? }; have hE0 : E.w0.heap.size = 0 := rfl
    obtain ⟨bc, O, hbc, hO1, hsl, hlim, hblk⟩ : ∃ (bc : Option (Nat × Nat)) (O : Nat → Prop), (∀ b D, bc = some (b, D) → S b ∧ ¬ O b) ∧ (∀ b, O b → S b) ∧ SliceAt bc u.size 0 xs.length v ∧ (xs.length : Int) ≤ 4294967296 ∧
        ∀ (A : Nat → Prop) (β' : Bind) (mem' : Nat → Option Blk), β' 0 = bc → (∀ c, O c → β'.own c = some 0) → RepBlk A w β' mem' 0 (.tree 1 u xs) := by
      generalize hvs : [v] = vs at hO; generalize hyy : (xs : List u.den) = zs at hO
      cases hO with
      | nil =>
        simp only [List.cons.injEq, and_true] at hvs; exact ⟨none, fun _ => False, by simp, by simp, ⟨rfl, rfl, hvs⟩, by simp, fun A β' mem' hb _ => ⟨by simp, .inl ⟨hb, rfl⟩⟩⟩
      | slice _ _ b cap cs el css T S2 hl hh hsz hcap hSb hlen' hc hTS hd hrr =>
        subst hyy; simp only [List.cons.injEq, and_true] at hvs
        refine ⟨some (b, cap), fun c => ∃ i, i < xs.length ∧ T i c, fun b' D e => ?_, fun c ⟨i, hi, hc⟩ => (hTS i c hi hc).1, ⟨⟨b, 0, none⟩, by simpa using hvs, by omega, fun _ => by simp⟩, hl,
          fun A β' mem' hb ho => ⟨hl, .inr ⟨b, cap, cs, el, css, T, hb, hh, hsz, hcap, fun k c hk hc => ho c ⟨k, hk, hc⟩, fun j k c hj hk => hd j k c hj hk, fun k hk => ⟨hlen' k hk, fun j v hj => hc k j v hk hj, hrr k hk⟩⟩⟩⟩
        simp only [Option.some.injEq, Prod.mk.injEq] at e; obtain ⟨rfl, _⟩ := e; exact ⟨hSb, fun ⟨i, hi, hc⟩ => (hTS i b hi hc).2 rfl⟩
    let β : Bind := ⟨fun i => if i = 0 then bc else none, fun c => if O c then some 0 else none⟩
    have hβ : ∀ i b D, β i = some (b, D) → i = 0 ∧ bc = some (b, D) := by
      intro i b D e; by_cases hi : i = 0
      · subst hi; exact ⟨rfl, e⟩
      · change (if i = 0 then bc else none) = _ at e; rw [if_neg hi] at e; cases e
    have hβo : ∀ b i, β.own b = some i → i = 0 ∧ O b := by
      intro b i e; change (if O b then some 0 else none) = some i at e; by_cases ho : O b
      · rw [if_pos ho] at e; exact ⟨(Option.some.inj e).symm, ho⟩
      · rw [if_neg ho] at e; cases e
    have hvone : v.oneCell' = true := hO.one v (by simp); have hmem0 : lookM [(0, Blk.tree 1 u xs)] 0 = some (.tree 1 u xs) := rfl
    have hmemi : ∀ i k0, lookM [(0, Blk.tree 1 u xs)] i = some k0 → i = 0 ∧ k0 = .tree 1 u xs := by
      intro i k0 e; simp only [lookM] at e
      cases hb : Nat.beq i 0 with
      | true => rw [hb, cond_true] at e; exact ⟨Nat.eq_of_beq_eq_true hb, (Option.some.inj e).symm⟩
      | false => rw [hb, cond_false] at e; cases e
    have htr : ∀ (A : Nat → Prop), RepSV A w β (lookM [(0, Blk.tree 1 u xs)]) (.tr 0 1) v := by
      intro A; refine .tr _ _ _ ⟨_, hmem0, Nat.le_refl _⟩ hvone fun t zs hz => ?_; rw [hmem0] at hz; replace hz := hz.at; simp only [Option.some.injEq, Blk.tree.injEq, true_and] at hz; obtain ⟨rfl, hz⟩ := hz; obtain rfl := eq_of_heq hz; exact hsl
    have hsim : SimB E fn.ntmps (lookS [(0, .tr 0 1), (1, .int .i64 k), (OFF, .tr 0 1)]) (lookM [(0, Blk.tree 1 u xs)]) { tmps := [v, .int .i64 k].toArray ++ Array.replicate (fn.ntmps - [v, .int .i64 k].toArray.size) undef, defers := [] } w β := {
      defers := ⟨fun d hd => (by cases hd), List.nodup_nil, fun b o e => by
        change (if S b then none else w.heap[b]?) = some o at e; by_cases hSb : S b
        · rw [if_pos hSb] at e; cases e
        · rw [if_neg hSb] at e; refine ⟨⟨⟨(Array.getElem?_eq_some_iff.1 e).1, .inr (Nat.zero_le _), fun i D hi => hSb (hbc b D (hβ i b D hi).2).1, ?_⟩, Nat.zero_le _⟩, e⟩
          cases ho : β.own b with
          | none => rfl
          | some i => exact absurd (hO1 b (hβo b i ho).2) hSb⟩
      size := by simp only [Array.size_append, List.size_toArray, Array.size_replicate, List.length_cons, List.length_nil]; omega
      hN := hN2
      os := rfl, tape := rfl, output := ⟨rfl, Nat.le_refl _⟩, grow := Nat.zero_le _, old := fun b hb _ => absurd hb (Nat.not_lt_zero _)
      dom := fun i b D e => by
        obtain ⟨rfl, e⟩ := hβ i b D e; exact ⟨⟨_, hmem0, fun h => by cases h⟩, hS b (hbc b D e).1, .inr (Nat.zero_le _)⟩
      inj := fun i j b D D' e1 e2 => by rw [(hβ i b D e1).1, (hβ j b D' e2).1]
      own := fun b i e => by
        obtain ⟨rfl, ho⟩ := hβo b i e; exact ⟨⟨_, hmem0, rfl⟩, hS b (hO1 b ho), Nat.zero_le _, fun j D ej => (hbc b D (hβ j b D ej).2).2 ho⟩
      blk := fun i k0 e => by
        obtain ⟨rfl, rfl⟩ := hmemi i k0 e; exact hblk _ β _ rfl fun c hc => if_pos hc
      slot := fun s => by
        simp only [lookS]
        cases h0 : Nat.beq s 0 with
        | true =>
          obtain rfl := Nat.eq_of_beq_eq_true h0; rw [cond_true]; unfold slotV; rw [if_pos (by omega)]; (have : ([v, .int .i64 k].toArray ++ Array.replicate (fn.ntmps - [v, .int .i64 k].toArray.size) undef).getD 0 undef = v := by simp [Array.getElem?_append]); simp only [this]; exact htr _
        | false =>
          rw [cond_false]
          cases h1 : Nat.beq s 1 with
          | true =>
            obtain rfl := Nat.eq_of_beq_eq_true h1; rw [cond_true]; unfold slotV; rw [if_pos hOFF]; (have : ([v, .int .i64 k].toArray ++ Array.replicate (fn.ntmps - [v, .int .i64 k].toArray.size) undef).getD 1 undef = .int .i64 k := by simp [Array.getElem?_append]); simp only [this]; exact .int _ _ hk.1 hk.2
          | false =>
            rw [cond_false]
            cases h2 : Nat.beq s OFF with
            | true =>
              obtain rfl := Nat.eq_of_beq_eq_true h2; rw [cond_true]; unfold slotV; rw [if_neg (Nat.lt_irrefl _)]; show RepSV _ _ _ _ _ (if OFF = OFF then v else undef); rw [if_pos rfl]; exact htr _
            | false => rw [cond_false]; exact .top _
      par := fun i c e => by have := (hmemi i _ e).2; cases this }
    have haw := h xs k hlim hk hp E _ w ⟨β, hsim⟩; refine callsIn_wide.1 (callsIn_of_wp_marks (n := 0) (F := Fence.wide) hf hb trivial (wpIn_mono haw ?_)); rintro e a' w' ⟨st, ⟨β', hs⟩, hq⟩
    have key : markQ C fn.results.toList u (mk xs k) .ret st → LeavesInM Fence.wide 0 P fn a'.tmps (fun e w' => e = .returned (.int .i64 (mk xs k).2) ∧ inR .i64 (mk xs k).2 ∧ w'.os = w.os ∧ w'.tape = w.tape ∧ (w'.output = w.output ∧ U.dr w.drawn ≤ U.dr w'.drawn) ∧
        (∀ c, c < w.heap.size → ¬ S c → w'.heap[c]? = w.heap[c]?) ∧ RepO w' (.slice u) (mk xs k).1 [v] (fun c => S c ∨ w.heap.size ≤ c)) a'.defers .returning w' := by
      rintro ⟨q1, q2, q3⟩; refine leaves_marks a'.defers hs fun w' hs => ?_; obtain ⟨rvs, r1, r2, r3, r4⟩ := retSVs_sound hs hC q1; obtain ⟨x, rfl⟩ : ∃ x, rvs = [x] := List.length_eq_one_iff.1 r2.symm; have hx := r4 0 _ x rfl rfl
      have hpin : ∀ c, c < w.heap.size → ¬ S c → allow E w' β' c ∧ w'.heap[c]? = w.heap[c]? := by
        intro c hc hn; have e1 : w.heap[c]? = some w.heap[c] := Array.getElem?_eq_getElem hc; have := hs.defers.objs c w.heap[c] (by show (if S c then none else w.heap[c]?) = _; rw [if_neg hn, e1]); exact ⟨this.1.1, this.2.trans e1.symm⟩
      cases hx with
      | int _ _ lo hi =>
        refine ⟨.int .i64 (mk xs k).2, ?_, rfl, ⟨lo, hi⟩, hs.os, hs.tape, hs.output, fun c hc hn => (hpin c hc hn).2, ?_⟩
        · unfold results; simp only [Sem.run_bind]; rw [run_mapM (P := P) (w := w') _ fn.results [.int .i64 (mk xs k).2] (by simpa using r1) (fun i hi hi' => ?_)]
          · simp only [Result.andThen_ok, Sem.run_pure]; rw [packV_arr]; rfl
          · have := r3 i hi hi'
            cases hv : fn.results.toList[i] with
            | tmp t => rw [hv] at this; exact this
            | cell x t => rw [hv] at this; exact this
        · have hsl := hs.slot OFF; rw [q2] at hsl
          have e1 : slotV E { a' with defers := [] } OFF = v := by
            unfold slotV; rw [if_neg (Nat.lt_irrefl _)]; exact if_pos rfl
          rw [e1] at hsl
          cases hsl with
          | tr _ _ _ _ _ hv =>
            refine (repO_tr hs q3 (hv _ _ (.of q3))).mono fun c hc => ⟨?_, rfl⟩; by_cases hcs : c < w.heap.size
            · by_cases hSc : S c
              · exact .inl hSc
              · obtain ⟨⟨_, _, h3, h4⟩, _⟩ := hpin c hcs hSc; rcases hc with ⟨D, hc⟩ | hc
                · exact absurd hc (h3 0 D)
                · rw [h4] at hc; cases hc
            · exact .inr (by omega)
    cases e with
    | normal => exact key hq
    | ret => exact key hq
    | _ => exact hq.elim

end
end Go.Am

namespace Go.Am
variable [U : Univ]
attribute [local irreducible] OFF
section
variable {P : Program} {C : Ctx} {st : St}

end
end Go.Am
