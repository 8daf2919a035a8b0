/-
  An, part D: a nil slice in a variable becomes an array of one's own.
-/
import Derived.Test.YtclennmbceaoeaaAnC
set_option linter.all false
namespace Go.Am
variable [U : Univ]

section
variable {E : Ent} {N : Nat} {P : Program} {c : Code} {Q : Exit → St → Prop} {st : St}

theorem AW.adoptB (bid ep j id : Nat) (cells : List SV) (t : Ty) (hb : st.memf bid = some (.box ep cells)) (hj : cells[j]? = some .nilsl) (hm : st.memf id = none)
    (h : AW P E N c Q ⟨st.slots, (id, .arr 1 t []) :: (bid, .box ep (cells.set j (.arr id 1))) :: st.mem⟩) : AW P E N c Q st := by
  rintro a w ⟨β, hw⟩; refine h a w ⟨β, ?_⟩; have hne : bid ≠ id := by rintro rfl; rw [hm] at hb; cases hb
  have hβ : β id = none := by
    cases e : β id with
    | none => rfl
    | some x =>
      obtain ⟨b, D⟩ := x; obtain ⟨⟨k, hk, _⟩, _⟩ := hw.dom id b D e; rw [hm] at hk; cases hk
  generalize hS : (⟨st.slots, (id, .arr 1 t []) :: (bid, .box ep (cells.set j (.arr id 1))) :: st.mem⟩ : St) = S; have hbeq : ∀ {x y : Nat}, x ≠ y → Nat.beq x y = false := fun hxy => by rw [Bool.eq_false_iff]; intro e; exact hxy (Nat.eq_of_beq_eq_true e)
  have hid : S.memf id = some (.arr 1 t []) := by
    subst hS; show lookM _ id = _; simp only [lookM]; rw [show Nat.beq id id = true from Nat.beq_refl id, cond_true]
  have hbid : S.memf bid = some (.box ep (cells.set j (.arr id 1))) := by
    subst hS; show lookM _ bid = _; simp only [lookM]; rw [hbeq hne, cond_false, show Nat.beq bid bid = true from Nat.beq_refl bid, cond_true]
  have hmem : ∀ i, i ≠ id → i ≠ bid → S.memf i = st.memf i := by
    intro i hi hi2; subst hS; show lookM _ i = _; simp only [lookM]; rw [hbeq hi, cond_false, hbeq hi2, cond_false]; rfl
  have henv : S.env = st.env := by subst hS; rfl
  have hmono : ∀ i k, st.memf i = some k → ∃ k', S.memf i = some k' ∧ k.ep ≤ k'.ep ∧ (k.ep = k'.ep → k.alike k' ∧ β i = β i) := by
    intro i k hk; (have hi : i ≠ id := by rintro rfl; rw [hm] at hk; cases hk); by_cases hi2 : i = bid
    · subst hi2; rw [hb] at hk; obtain rfl := Option.some.inj hk; exact ⟨_, hbid, Nat.le_refl _, fun _ => ⟨trivial, rfl⟩⟩
    · exact ⟨k, by rw [hmem i hi hi2]; exact hk, Nat.le_refl _, fun _ => ⟨k.alike_refl, rfl⟩⟩
  have harr : ∀ {v : Value}, RepSV (allow E w β) w β st.memf .nilsl v → RepSV (allow E w β) w β S.memf (.arr id 1) v := by
    intro v hv; cases hv; refine .arr _ _ _ ⟨_, hid, Nat.le_refl _⟩ rfl fun u xs hx => ?_; rw [hid] at hx; simp only [Option.some.injEq, Blk.arr.injEq, true_and] at hx; obtain ⟨rfl, hx⟩ := hx; obtain rfl := eq_of_heq hx; rw [hβ]; exact ⟨rfl, rfl, rfl⟩
  exact {
    defers := hw.defers, size := hw.size, hN := hw.hN, os := hw.os, tape := hw.tape, output := hw.output, grow := hw.grow, old := hw.old, inj := hw.inj
    dom := by
      intro i b D e; obtain ⟨⟨k, hk, hkb⟩, h2⟩ := hw.dom i b D e; (have hi : i ≠ id := by rintro rfl; rw [hm] at hk; cases hk); by_cases hi2 : i = bid
      · subst hi2; exact ⟨⟨_, hbid, fun _ => rfl⟩, h2⟩
      · exact ⟨⟨k, by rw [hmem i hi hi2]; exact hk, hkb⟩, h2⟩
    own := by
      intro b i e; obtain ⟨⟨k, hk, ht⟩, h2⟩ := hw.own b i e; have hi : i ≠ id := by rintro rfl; rw [hm] at hk; cases hk
      have hi2 : i ≠ bid := by
        rintro rfl; rw [hb] at hk; obtain rfl := Option.some.inj hk; cases ht
      exact ⟨⟨k, by rw [hmem i hi hi2]; exact hk, ht⟩, h2⟩
    blk := by
      intro i k hk; by_cases hi : i = id
      · subst hi; rw [hid] at hk; obtain rfl := Option.some.inj hk; exact ⟨by simp, .inl ⟨hβ, rfl⟩⟩
      · by_cases hi2 : i = bid
        · subst hi2; rw [hbid] at hk; obtain rfl := Option.some.inj hk; obtain ⟨b, D, cs, el, h1, h2, h3, h4⟩ := hw.blk _ _ hb; refine ⟨b, D, cs, el, h1, h2, by rw [List.length_set]; exact h3, fun q sv hq => ?_⟩; rw [List.getElem?_set] at hq; by_cases hjq : j = q
          · subst hjq; have hjl : j < cells.length := (List.getElem?_eq_some_iff.1 hj).1; rw [if_pos rfl, if_pos hjl] at hq; obtain rfl := Option.some.inj hq; obtain ⟨v, hv, hv1, hr⟩ := h4 j _ hj; exact ⟨v, hv, hv1, harr hr⟩
          · rw [if_neg hjq] at hq; obtain ⟨v, hv, hv1, hr⟩ := h4 q sv hq; exact ⟨v, hv, hv1, hr.mono (fun b hb => ⟨hb, rfl⟩) hmono⟩
        · rw [hmem i hi hi2] at hk; exact (hw.blk i k hk).mono (fun b hb => ⟨hb, rfl⟩) hmono rfl (fun _ _ _ => rfl) (fun _ _ hc => ⟨hc, rfl⟩)
    slot := by
      intro i; rw [henv]; exact (hw.slot i).mono (fun b hb => ⟨hb, rfl⟩) hmono
    par := by
      intro i c hc; by_cases hi : i = id
      · subst hi; rw [hid] at hc; cases hc
      · by_cases hi2 : i = bid
        · subst hi2; rw [hbid] at hc; simp only [Option.some.injEq, Blk.box.injEq] at hc; obtain ⟨rfl, _⟩ := hc; exact hw.par _ _ hb
        · rw [hmem i hi hi2] at hc
          exact hw.par i c hc }

end
end Go.Am

namespace Go.Am
variable [U : Univ]
section
variable {C : Ctx} {st : St}

end
end Go.Am

namespace Go.Am
def R64 (x : Int) : Prop := -9223372036854775808 ≤ x ∧ x ≤ 9223372036854775807
def IX (i l : Int) : Prop := 0 ≤ i ∧ i < l
theorem R64.of {x : Int} (h : -9223372036854775808 ≤ x ∧ x ≤ 9223372036854775807) : R64 x := h
theorem IX.of {i l : Int} (h : 0 ≤ i ∧ i < l) : IX i l := h
end Go.Am

namespace Go.Am
class BP (b : Bool) (P N : outParam Prop) : Prop where
  pos : b = true → P
  neg : b = false → N

instance (priority := low) (b : Bool) : BP b (b = true) (b = false) := ⟨id, id⟩
instance (p : Prop) [Decidable p] : BP (decide p) p (¬ p) := ⟨of_decide_eq_true, of_decide_eq_false⟩
instance (a b : Int) : BP (a == b) (a = b) (a ≠ b) := ⟨beq_pos, beq_neg⟩
instance (a b : Int) : BP (a != b) (a ≠ b) (a = b) := ⟨bne_pos, bne_neg⟩
instance (b : Bool) (P N : Prop) [h : BP b P N] : BP (!b) N P := ⟨fun e => h.neg (not_pos e), fun e => h.pos (not_neg e)⟩
instance (c a : Bool) (P N Q M : Prop) [h : BP c P N] [k : BP a Q M] : BP (bif c then a else false) (P ∧ Q) (N ∨ M) := ⟨fun e => (and_pos e).imp h.pos k.pos, fun e => (and_neg e).imp h.neg k.neg⟩
instance (c a : Bool) (P N Q M : Prop) [h : BP c P N] [k : BP a Q M] : BP (bif c then true else a) (P ∨ Q) (N ∧ M) := ⟨fun e => (or_pos e).imp h.pos k.pos, fun e => (or_neg e).imp h.neg k.neg⟩
end Go.Am

namespace Go.Am
variable [U : Univ]
section
variable {P : Program} {E : Ent} {N : Nat} {C : Ctx} {Q : Exit → St → Prop} {st : St} {c : Code} {ops : Array Oper}

theorem AW.r0 (hC : CtxOK P C) {id : Nat} (ks ms : List Nat) (st' : St) (ob : List Prop) (hob : AllP ob) (hq : Q .normal st') (h : Am.region C false [] N ops ks ms st = some (st', ob) := by kernel_rfl) : AW P E N (.region id ops false) Q st :=
  AW.reg hC false [] ks ms st' ob h hob hq

theorem AW.r1 (hC : CtxOK P C) {id : Nat} (ks ms : List Nat) (st' : St) (hq : Q .normal st') (h : Am.region C false [] N ops ks ms st = some (st', []) := by kernel_rfl) : AW P E N (.region id ops false) Q st :=
  AW.reg hC false [] ks ms st' [] h trivial hq

theorem AW.d0 (hC : CtxOK P C) (hm : P.follows .mixedOrders = true) {id : Nat} (ks ms : List Nat) (st' : St) (ob : List Prop) (hob : AllP ob) (hq : Q .normal st') (h : Am.regionAny C false [] N ops ks ms st = some (st', ob) := by kernel_rfl) : AW P E N (.region id ops true) Q st :=
  AW.regD hC hm false [] ks ms st' ob h hob hq

theorem AW.d1 (hC : CtxOK P C) (hm : P.follows .mixedOrders = true) {id : Nat} (ks ms : List Nat) (st' : St) (hq : Q .normal st') (h : Am.regionAny C false [] N ops ks ms st = some (st', []) := by kernel_rfl) : AW P E N (.region id ops true) Q st :=
  AW.regD hC hm false [] ks ms st' [] h trivial hq

theorem AW.kp (ks ms : List Nat) (st' : St) (hc : AW P E N c Q st') (h : Am.keep ks ms st.env st.memf = some st' := by kernel_rfl) : AW P E N c Q st := AW.keep ks ms st' h hc

theorem AW.r0U (hC : CtxOK P C) {id : Nat} (ks ms : List Nat) (s : List (Nat × SV)) (m : List (Nat × Blk)) (ob : List Prop) (hob : AllP ob) (hq : Q .normal (st.up ks ms s m)) (h : Am.region C false [] N ops ks ms st = some (st.up ks ms s m, ob) := by kernel_rfl) : AW P E N (.region id ops false) Q st :=
  AW.reg hC false [] ks ms _ ob h hob hq

theorem AW.r1U (hC : CtxOK P C) {id : Nat} (ks ms : List Nat) (s : List (Nat × SV)) (m : List (Nat × Blk)) (hq : Q .normal (st.up ks ms s m)) (h : Am.region C false [] N ops ks ms st = some (st.up ks ms s m, []) := by kernel_rfl) : AW P E N (.region id ops false) Q st :=
  AW.reg hC false [] ks ms _ [] h trivial hq

theorem AW.d0U (hC : CtxOK P C) (hm : P.follows .mixedOrders = true) {id : Nat} (ks ms : List Nat) (s : List (Nat × SV)) (m : List (Nat × Blk)) (ob : List Prop) (hob : AllP ob) (hq : Q .normal (st.up ks ms s m)) (h : Am.regionAny C false [] N ops ks ms st = some (st.up ks ms s m, ob) := by kernel_rfl) : AW P E N (.region id ops true) Q st :=
  AW.regD hC hm false [] ks ms _ ob h hob hq

theorem AW.d1U (hC : CtxOK P C) (hm : P.follows .mixedOrders = true) {id : Nat} (ks ms : List Nat) (s : List (Nat × SV)) (m : List (Nat × Blk)) (hq : Q .normal (st.up ks ms s m)) (h : Am.regionAny C false [] N ops ks ms st = some (st.up ks ms s m, []) := by kernel_rfl) : AW P E N (.region id ops true) Q st :=
  AW.regD hC hm false [] ks ms _ [] h trivial hq

theorem AW.kpU (ks ms : List Nat) (s : List (Nat × SV)) (m : List (Nat × Blk)) (hc : AW P E N c Q (st.up ks ms s m)) (h : Am.keep ks ms st.env st.memf = some (st.up ks ms s m) := by kernel_rfl) : AW P E N c Q st := AW.keep ks ms _ h hc

theorem AW.cd {t : Nat} (b : Bool) {x y : Code} (ht : b = true → AW P E N x Q st) (hf : b = false → AW P E N y Q st) (hb : peek st.env t = .bool b := by kernel_rfl) : AW P E N (.cond (.tmp t) x y) Q st := AW.cond hb ht hf

theorem AW.cdE {t : Nat} {b : Bool} {Pr Ne : Prop} [BP b Pr Ne] {α : Type} {r u v : α} {x y : Code} (e : r = bif b then u else v) (ht : Pr → r = u → AW P E N x Q st) (hf : Ne → r = v → AW P E N y Q st) (hb : peek st.env t = .bool b := by kernel_rfl) : AW P E N (.cond (.tmp t) x y) Q st :=
  AW.cond hb (fun h => ht (BP.pos h) (e.trans (by rw [h]; rfl))) (fun h => hf (BP.neg h) (e.trans (by rw [h]; rfl)))

end
end Go.Am
