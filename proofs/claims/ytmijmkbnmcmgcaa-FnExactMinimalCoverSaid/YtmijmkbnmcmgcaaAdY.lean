/-
  A part of the proof of this claim (AdY): what functions of the program compute, and plain facts of that. No conditions.
-/
import Derived.Test.YtmijmkbnmcmgcaaAdW
import Derived.Test.YtmijmkbnmcmgcaaAnL
set_option linter.all false
namespace Go.Proofs.Ytmijmkbnmcmgcaa
open Go Go.Am
noncomputable section

/-! ### What follows from a list of dependencies -/

def Imp (l : List Dep) (f : Dep) : Prop := ∀ c, S6 c → Closed l c → Sub6 f.From c → Sub6 f.To c
def Eqv (l m : List Dep) : Prop := ∀ c, S6 c → (Closed l c ↔ Closed m c)

theorem OKL.deps {l : List Dep} (h : OKL l) : Deps6 l := h

theorem and_comm6 {a b : Int} (ha : S6 a) (hb : S6 b) : bits .and .i64 a b = bits .and .i64 b a := by
 rw [(bits64 ha.1 ha.2 hb.1 hb.2).1, (bits64 hb.1 hb.2 ha.1 ha.2).1, Nat.and_comm]

theorem implies_iff {l : List Dep} {f : Dep} (hl : OKL l) (hf : Dep6 f) : implies l f = true ↔ Imp l f := by
 obtain ⟨c1, c2, c3, c4⟩ := closure_spec hl.deps hf.1
 unfold implies
 rw [beq_iff_eq, and_comm6 c1 hf.2]
 constructor
 ·
  intro h c hc hcl hs
  exact Sub6.trans hf.2 c1 hc h (c4 c hc hcl hs)
 ·
  intro h
  exact h _ c1 c3 c2

theorem iimplies_eq {l : List Dep} {f : Dep} (hl : OKL l) (hf : Dep6 f) : iimplies l f = implies l f := by
 obtain ⟨c1, _⟩ := closure_spec hl.deps hf.1
 unfold iimplies implies
 have hi : InR l := fun g hg => by
  have := hl g hg
  omega
 have ht := hf.2
 rw [closure_eq hi, contains_eq (by have := ht.1; omega) (by have := ht.2; omega), and_comm6 ht c1]

theorem Eqv.refl (l : List Dep) : Eqv l l := fun _ _ => Iff.rfl
theorem Eqv.trans {l m n : List Dep} (h : Eqv l m) (h' : Eqv m n) : Eqv l n := fun c hc => (h c hc).trans (h' c hc)
theorem Eqv.imp {l m : List Dep} (h : Eqv l m) (f : Dep) : Imp l f ↔ Imp m f :=
 ⟨fun g c hc hcl => g c hc ((h c hc).2 hcl), fun g c hc hcl => g c hc ((h c hc).1 hcl)⟩

theorem Imp.mem {l : List Dep} {f : Dep} (h : f ∈ l) : Imp l f := fun _ _ hcl hs => hcl f h hs
theorem Imp.mono {l m : List Dep} {f : Dep} (h : Imp l f) (hs : ∀ g ∈ l, g ∈ m) : Imp m f := fun c hc hcl => h c hc fun g hg => hcl g (hs g hg)

/-! ### Bits -/

theorem has_has6 {a : Int} (ha : S6 a) (c : Nat) : has a ((c : Nat) : Int) = has6 a c := by
 obtain ⟨n, rfl⟩ := Int.eq_ofNat_of_zero_le ha.1
 rw [has_eq]
 unfold has6
 rw [Int.toNat_natCast, Nat.testBit_eq_decide_div_mod_eq, Bool.eq_iff_iff, beq_iff_eq, decide_eq_true_eq]
 have : (2 : Int) ^ c = ((2 ^ c : Nat) : Int) := by push_cast; rfl
 rw [this]
 omega

theorem has6_bit {c : Nat} (hc : c < 6) (i : Nat) : has6 (1 * 2 ^ c) i = decide (i = c) := by
 unfold has6
 have : (1 : Int) * 2 ^ c = ((2 ^ c : Nat) : Int) := by push_cast; omega
 rw [this, Int.toNat_natCast, Nat.testBit_two_pow, Bool.eq_iff_iff]
 simp only [decide_eq_true_eq]
 omega

theorem bit6 {c : Nat} (hc : c < 6) : S6 ((1 : Int) * 2 ^ c) := bit_in hc

theorem bit_sub {c : Nat} (hc : c < 6) {x : Int} (hx : S6 x) : Sub6 (1 * 2 ^ c) x ↔ has6 x c = true := by
 rw [sub6_iff (bit6 hc) hx]
 constructor
 ·
  intro h
  exact h c (by rw [has6_bit hc]; simp)
 ·
  intro h i hi
  rw [has6_bit hc] at hi
  rw [of_decide_eq_true hi]
  exact h

theorem has6_clr {a : Int} (ha : S6 a) {c : Nat} (hc : c < 6) (h : has6 a c = true) (i : Nat) : has6 (a - 1 * 2 ^ c) i = (has6 a i && !decide (i = c)) := by
 have hs : S6 (a - 1 * 2 ^ c) := has_sub ha hc (by rw [has_has6 ha]; exact h)
 have e : bits .or .i64 (a - 1 * 2 ^ c) (1 * 2 ^ c) = a ∧ has6 (a - 1 * 2 ^ c) c = false := by
  refine fin64 (P := fun a c => has6 a c = true → bits .or .i64 (a - 1 * 2 ^ c) (1 * 2 ^ c) = a ∧ has6 (a - 1 * 2 ^ c) c = false) (by unfold has6; decide) ha hc h
 have := has6_or hs (bit6 hc) i
 rw [e.1, has6_bit hc] at this
 rw [this]
 by_cases hi : i = c
 ·
  subst hi
  rw [e.2]
  simp
 ·
  simp [hi]

theorem clr_sub {a : Int} (ha : S6 a) {c : Nat} (hc : c < 6) (h : has6 a c = true) : Sub6 (a - 1 * 2 ^ c) a :=
 (sub6_iff (has_sub ha hc (by rw [has_has6 ha]; exact h)) ha).2 fun i hi => by
  rw [has6_clr ha hc h] at hi
  exact (Bool.and_eq_true_iff.1 hi).1

/-! ### The program's lists are the reference's -/

theorem p1_same {fds : List Dep} (hf : OKL fds) {w : Int} (hw : w ≤ 6) {i : Nat} (hi : i < fds.length) : ∀ (k c : Nat) (out : List Dep), iMinimalCover_l1 fds w i k c out = minimalCover_l1 fds w i k c out := by
 intro k
 induction k with
 | zero => intro c out; rfl
 | succ k ih =>
  intro c out
  unfold iMinimalCover_l1 minimalCover_l1
  by_cases hc : ((c : Nat) : Int) < w
  ·
   have h6 : c < 6 := by omega
   rw [con_eq (hf.at hi).2 h6, con_eq (hf.at hi).1 h6, has_eq, has_eq, ih, ih]
  ·
   rw [decide_eq_false hc, cond_false, cond_false]

theorem p1_all {fds : List Dep} (hf : OKL fds) {w : Int} (hw : w ≤ 6) : ∀ (k i : Nat) (out : List Dep), iMinimalCover_l0 fds w k i out = minimalCover_l0 fds w k i out := by
 intro k
 induction k with
 | zero => intro i out; rfl
 | succ k ih =>
  intro i out
  unfold iMinimalCover_l0 minimalCover_l0
  by_cases hi : ((i : Nat) : Int) < ((List.length fds : Nat) : Int)
  ·
   rw [decide_eq_true hi, cond_true, cond_true, p1_same hf hw (by omega)]
   exact ih _ _
  ·
   rw [decide_eq_false hi, cond_false, cond_false]

theorem OKL.set2 {l : List Dep} (h : OKL l) {i : Nat} (hi : i < l.length) {c : Nat} (hc : c < 6) (hh : has (l.getD i Dep.zero).From ((c : Nat) : Int) = true) : OKL (l.set i ⟨(l.getD i Dep.zero).From - 1 * 2 ^ c, (l.getD i Dep.zero).To⟩) :=
 h.set i ⟨has_sub (h.at hi).1 hc hh, (h.at hi).2⟩

theorem p2_same {w : Int} (hw : w ≤ 6) {i : Nat} : ∀ (k c : Nat) (l : List Dep), OKL l → i < l.length → iMinimalCover_l3 w i k c l = minimalCover_l3 w i k c l ∧ OKL (minimalCover_l3 w i k c l) ∧ (minimalCover_l3 w i k c l).length = l.length := by
 intro k
 induction k with
 | zero => intro c l h _; exact ⟨rfl, h, rfl⟩
 | succ k ih =>
  intro c l hl hi
  unfold iMinimalCover_l3 minimalCover_l3
  by_cases hc : ((c : Nat) : Int) < w
  ·
   have h6 : c < 6 := by omega
   rw [decide_eq_true hc, cond_true, cond_true, clr_eq (hl.at hi).1 h6, ← has_eq]
   cases hh : has (Dep.From (List.getD l i Dep.zero)) ((c : Nat) : Int) with
   | false =>
    simp only [cond_false, beq_self_eq_true, cond_true, Bool.not_true]
    exact ih _ _ hl hi
   | true =>
    have hd := has_sub (hl.at hi).1 h6 hh
    have hb := bit_in h6
    have hp : (1 : Int) ≤ 1 * 2 ^ c := by
     have := Nat.one_le_two_pow (n := c)
     have e : (1 : Int) * 2 ^ c = ((2 ^ c : Nat) : Int) := by push_cast; omega
     rw [e]; omega
    rw [cond_true, show ((Dep.From (List.getD l i Dep.zero)) - 1 * 2 ^ c == (Dep.From (List.getD l i Dep.zero))) = false from beq_false_of_ne (by omega)]
    simp only [cond_false, Bool.not_false, cond_true]
    rw [iimplies_eq hl (f := ⟨(Dep.From (List.getD l i Dep.zero)) - 1 * 2 ^ c, Dep.To (List.getD l i Dep.zero)⟩) ⟨hd, (hl.at hi).2⟩]
    cases implies l ⟨(Dep.From (List.getD l i Dep.zero)) - 1 * 2 ^ c, Dep.To (List.getD l i Dep.zero)⟩ with
    | false => exact ih _ _ hl hi
    | true =>
     simp only [cond_true]
     obtain ⟨h1, h2, h3⟩ := ih (c + 1) _ (hl.set2 hi h6 hh) (by rw [List.length_set]; exact hi)
     exact ⟨h1, h2, by rw [h3, List.length_set]⟩
  ·
   rw [decide_eq_false hc, cond_false, cond_false]
   exact ⟨rfl, hl, rfl⟩

theorem p2_all {w : Int} (hw : w ≤ 6) (l0 : List Dep) : ∀ (k i : Nat) (l : List Dep), OKL l → l.length = l0.length → iMinimalCover_l2 w l0 k i l = minimalCover_l2 w k i l ∧ OKL (minimalCover_l2 w k i l) := by
 intro k
 induction k with
 | zero => intro i l h _; exact ⟨rfl, h⟩
 | succ k ih =>
  intro i l hl hn
  unfold iMinimalCover_l2 minimalCover_l2
  rw [hn]
  by_cases hi : ((i : Nat) : Int) < ((List.length l0 : Nat) : Int)
  ·
   rw [decide_eq_true hi, cond_true, cond_true]
   obtain ⟨h1, h2, h3⟩ := p2_same hw (i := i) (Int.toNat (w - ((0 : Nat) : Int)) + 1) 0 l hl (by omega)
   rw [h1]
   exact ih _ _ h2 (h3.trans hn)
  ·
   rw [decide_eq_false hi, cond_false, cond_false]
   exact ⟨rfl, hl⟩

def restOf (l : List Dep) (i : Nat) : List Dep := l.take i ++ l.drop (i + 1)

theorem restOf_mem {l : List Dep} {i : Nat} {f : Dep} (h : f ∈ restOf l i) : f ∈ l := by
 rcases List.mem_append.1 h with h | h
 ·
  exact List.mem_of_mem_take h
 ·
  exact List.mem_of_mem_drop h

theorem OKL.rest' {l : List Dep} (h : OKL l) (i : Nat) : OKL (restOf l i) := h.sub fun _ hf => restOf_mem hf

theorem p3_same : ∀ (k i : Nat) (l : List Dep), OKL l → iMinimalCover_l4 k l i = minimalCover_l4 k l i := by
 intro k
 induction k with
 | zero => intro i l _; rfl
 | succ k ih =>
  intro i l hl
  unfold iMinimalCover_l4 minimalCover_l4
  by_cases hi : ((i : Nat) : Int) < ((List.length l : Nat) : Int)
  ·
   rw [decide_eq_true hi, cond_true, cond_true, concat_two, List.nil_append]
   show (bif iimplies (restOf l i) (l.getD i Dep.zero) then iMinimalCover_l4 k (restOf l i) i else iMinimalCover_l4 k l (i + 1)) = (bif implies (restOf l i) (l.getD i Dep.zero) then minimalCover_l4 k (restOf l i) i else minimalCover_l4 k l (i + 1))
   rw [iimplies_eq (hl.rest' i) (hl.at (i := i) (by omega)), ih _ _ (hl.rest' i), ih _ _ hl]
  ·
   rw [decide_eq_false hi, cond_false, cond_false]


/-! ### The three steps -/

def Sat (f : Dep) (x : Int) : Prop := Sub6 f.From x → Sub6 f.To x

def Shape (w : Int) (f : Dep) : Prop := Dep6 f ∧ f.From < 2 ^ w.toNat ∧ ∃ c : Nat, ((c : Nat) : Int) < w ∧ f.To = 1 * 2 ^ c ∧ has6 f.From c = false

theorem Shape.ok {w : Int} {l : List Dep} (h : ∀ f ∈ l, Shape w f) : OKL l := fun f hf => (h f hf).1

theorem p1_spec {fds : List Dep} (hf : OKL fds) {w : Int} (hw : 1 ≤ w ∧ w ≤ 6) (hb : ∀ f ∈ fds, f.From < 2 ^ w.toNat) {i : Nat} (hi : i < fds.length) : ∀ (k c : Nat) (out : List Dep), Int.toNat (w - ((c : Nat) : Int)) < k → (∀ f ∈ out, Shape w f) →
  (∀ f ∈ minimalCover_l1 fds w i k c out, Shape w f) ∧ ∀ x, S6 x → (Closed (minimalCover_l1 fds w i k c out) x ↔ Closed out x ∧ ∀ j : Nat, c ≤ j → ((j : Nat) : Int) < w → has6 (fds.getD i Dep.zero).To j = true → has6 (fds.getD i Dep.zero).From j = false → Sub6 (fds.getD i Dep.zero).From x → has6 x j = true) := by
 have hF := hf.at hi
 intro k
 induction k with
 | zero => intro c out h; omega
 | succ k ih =>
  intro c out hk ho
  unfold minimalCover_l1
  by_cases hc : ((c : Nat) : Int) < w
  ·
   have h6 : c < 6 := by omega
   rw [decide_eq_true hc, cond_true, has_has6 hF.2, has_has6 hF.1]
   cases hcond : (bif has6 (Dep.To (List.getD fds i Dep.zero)) c then !(has6 (Dep.From (List.getD fds i Dep.zero)) c) else false) with
   | false =>
    rw [cond_false]
    obtain ⟨h1, h2⟩ := ih (c + 1) out (by omega) ho
    refine ⟨h1, fun x hx => (h2 x hx).trans (and_congr_right fun _ => ⟨fun g j hj hjw t1 t2 => ?_, fun g j hj => g j (by omega)⟩)⟩
    by_cases e : j = c
    ·
     subst e
     rw [t1, t2] at hcond
     cases hcond
    ·
     exact g j (by omega) hjw t1 t2
   | true =>
    rw [cond_true]
    have t1 : has6 (Dep.To (List.getD fds i Dep.zero)) c = true := by
     cases h : has6 (Dep.To (List.getD fds i Dep.zero)) c with
     | true => rfl
     | false => rw [h] at hcond; cases hcond
    have t2 : has6 (Dep.From (List.getD fds i Dep.zero)) c = false := by
     rw [t1] at hcond
     simpa using hcond
    obtain ⟨h1, h2⟩ := ih (c + 1) (out ++ [Dep.mk (Dep.From (List.getD fds i Dep.zero)) ((1 : Int) * 2 ^ c)]) (by omega) (fun f hm => by
     rcases List.mem_append.1 hm with hm | hm
     ·
      exact ho f hm
     ·
      rw [List.mem_singleton.1 hm]
      exact ⟨⟨hF.1, bit6 h6⟩, hb (fds.getD i Dep.zero) (getD_mem fds i Dep.zero hi), c, hc, rfl, t2⟩)
    refine ⟨h1, fun x hx => (h2 x hx).trans ?_⟩
    constructor
    ·
     rintro ⟨g1, g2⟩
     refine ⟨fun f hm => g1 f (List.mem_append.2 (.inl hm)), fun j hj hjw u1 u2 hs => ?_⟩
     by_cases e : j = c
     ·
      subst e
      have hm : Dep.mk (Dep.From (List.getD fds i Dep.zero)) ((1 : Int) * 2 ^ j) ∈ out ++ [Dep.mk (Dep.From (List.getD fds i Dep.zero)) ((1 : Int) * 2 ^ j)] := List.mem_append.2 (.inr (List.mem_singleton.2 rfl))
      have h5 : Sub6 ((1 : Int) * 2 ^ j) x := g1 (Dep.mk (Dep.From (List.getD fds i Dep.zero)) ((1 : Int) * 2 ^ j)) hm hs
      exact (bit_sub h6 hx).1 h5
     ·
      exact g2 j (by omega) hjw u1 u2 hs
    ·
     rintro ⟨g1, g2⟩
     refine ⟨fun f hm => ?_, fun j hj => g2 j (by omega)⟩
     rcases List.mem_append.1 hm with hm | hm
     ·
      exact g1 f hm
     ·
      rw [List.mem_singleton.1 hm]
      intro hs
      have h5 : has6 x c = true := g2 c (Nat.le_refl _) hc t1 t2 hs
      exact (bit_sub h6 hx).2 h5
  ·
   rw [decide_eq_false hc, cond_false]
   exact ⟨ho, fun x hx => ⟨fun g => ⟨g, fun j hj hjw => by omega⟩, fun g => g.1⟩⟩

theorem sat_iff {f : Dep} (hf : Dep6 f) {w : Int} (hw : 1 ≤ w ∧ w ≤ 6) (hb : f.To < 2 ^ w.toNat) {x : Int} (hx : S6 x) :
  (∀ j : Nat, 0 ≤ j → ((j : Nat) : Int) < w → has6 f.To j = true → has6 f.From j = false → Sub6 f.From x → has6 x j = true) ↔ Sat f x := by
 constructor
 ·
  intro h hs
  refine (sub6_iff hf.2 hx).2 fun i hi => ?_
  have hiw : ((i : Nat) : Int) < w := by
   have := (sub6_iff hf.2 (full6 hw)).1 ((sub_full hw hf.2).2 hb) i hi
   rw [has_full hw] at this
   have := of_decide_eq_true this
   omega
  cases hF : has6 f.From i with
  | true => exact (sub6_iff hf.1 hx).1 hs i hF
  | false => exact h i (Nat.zero_le _) hiw hi hF hs
 ·
  intro h j _ _ h1 _ hs
  exact (sub6_iff hf.2 hx).1 (h hs) j h1

theorem p1_out {fds : List Dep} (hf : OKL fds) {w : Int} (hw : 1 ≤ w ∧ w ≤ 6) (hb : ∀ f ∈ fds, f.From < 2 ^ w.toNat ∧ f.To < 2 ^ w.toNat) : ∀ (k i : Nat) (out : List Dep), fds.length - i < k → (∀ f ∈ out, Shape w f) →
  (∀ f ∈ minimalCover_l0 fds w k i out, Shape w f) ∧ ∀ x, S6 x → (Closed (minimalCover_l0 fds w k i out) x ↔ Closed out x ∧ ∀ j, i ≤ j → j < fds.length → Sat (fds.getD j Dep.zero) x) := by
 intro k
 induction k with
 | zero => intro i out h; omega
 | succ k ih =>
  intro i out hk ho
  unfold minimalCover_l0
  by_cases hi : ((i : Nat) : Int) < ((List.length fds : Nat) : Int)
  ·
   have hi' : i < fds.length := by omega
   rw [decide_eq_true hi, cond_true]
   obtain ⟨h1, h2⟩ := p1_spec hf hw (fun f hm => (hb f hm).1) hi' (Int.toNat (w - ((0 : Nat) : Int)) + 1) 0 out (by omega) ho
   obtain ⟨h3, h4⟩ := ih (i + 1) _ (by omega) h1
   refine ⟨h3, fun x hx => (h4 x hx).trans ?_⟩
   rw [h2 x hx, sat_iff (hf.at hi') hw (hb _ (getD_mem fds i Dep.zero hi')).2 hx]
   constructor
   ·
    rintro ⟨⟨a, b⟩, c⟩
    refine ⟨a, fun j hj hjl => ?_⟩
    by_cases e : j = i
    ·
     subst e; exact b
    ·
     exact c j (by omega) hjl
   ·
    rintro ⟨a, b⟩
    exact ⟨⟨a, b i (Nat.le_refl _) hi'⟩, fun j hj => b j (by omega)⟩
  ·
   rw [decide_eq_false hi, cond_false]
   exact ⟨ho, fun x hx => ⟨fun g => ⟨g, fun j hj hjl => by omega⟩, fun g => g.1⟩⟩

def Irr (fds : List Dep) (w : Int) (c0 : Nat) (f : Dep) : Prop := ∀ c : Nat, c0 ≤ c → ((c : Nat) : Int) < w → has6 f.From c = true → ¬ Imp fds ⟨f.From - 1 * 2 ^ c, f.To⟩

theorem Irr.all {fds : List Dep} {w : Int} {f : Dep} (h : Irr fds w 0 f) (c : Nat) : Irr fds w c f := fun d hd => h d (Nat.zero_le _)

theorem getD_set_ne {l : List Dep} {i j : Nat} (h : i ≠ j) (d : Dep) : (l.set i d).getD j Dep.zero = l.getD j Dep.zero := by
 rw [List.getD_eq_getElem?_getD, List.getD_eq_getElem?_getD, List.getElem?_set_ne h]

theorem getD_set_eq {l : List Dep} {i : Nat} (h : i < l.length) (d : Dep) : (l.set i d).getD i Dep.zero = d := by
 rw [List.getD_eq_getElem?_getD, List.getElem?_set_self h]
 rfl

theorem mem_iff_getD {l : List Dep} {f : Dep} : f ∈ l ↔ ∃ i, i < l.length ∧ l.getD i Dep.zero = f := by
 constructor
 ·
  intro h
  obtain ⟨i, hi, rfl⟩ := List.mem_iff_getElem.1 h
  exact ⟨i, hi, by rw [List.getD_eq_getElem?_getD, List.getElem?_eq_getElem hi]; rfl⟩
 ·
  rintro ⟨i, hi, rfl⟩
  exact getD_mem l i Dep.zero hi

theorem p2_spec {fds : List Dep} {w : Int} (hw : 1 ≤ w ∧ w ≤ 6) {i : Nat} : ∀ (k c : Nat) (l : List Dep), Int.toNat (w - ((c : Nat) : Int)) < k → i < l.length → (∀ f ∈ l, Shape w f) → Eqv l fds →
  ∃ l', minimalCover_l3 w i k c l = l' ∧ l'.length = l.length ∧ (∀ f ∈ l', Shape w f) ∧ Eqv l' fds ∧ (∀ j, j ≠ i → l'.getD j Dep.zero = l.getD j Dep.zero) ∧
   Sub6 (l'.getD i Dep.zero).From (l.getD i Dep.zero).From ∧ (l'.getD i Dep.zero).To = (l.getD i Dep.zero).To ∧ Irr fds w c (l'.getD i Dep.zero) := by
 intro k
 induction k with
 | zero => intro c l h; omega
 | succ k ih =>
  intro c l hk hi hl he
  have hO := Shape.ok hl
  have hF := hO.at hi
  unfold minimalCover_l3
  by_cases hc : ((c : Nat) : Int) < w
  ·
   have h6 : c < 6 := by omega
   rw [decide_eq_true hc, cond_true, has_has6 hF.1]
   cases hh : has6 (Dep.From (List.getD l i Dep.zero)) c with
   | false =>
    rw [cond_false, cond_false]
    obtain ⟨l', e, h1, h2, h3, h4, h5, h7, h8⟩ := ih (c + 1) l (by omega) hi hl he
    refine ⟨l', e, h1, h2, h3, h4, h5, h7, fun d hd hdw hd1 => ?_⟩
    by_cases hdc : d = c
    ·
     subst hdc
     have := (sub6_iff (Shape.ok h2 |>.at (by omega)).1 hF.1).1 h5 d hd1
     rw [hh] at this
     cases this
    ·
     exact h8 d (by omega) hdw hd1
   | true =>
    rw [cond_true]
    have hcl : S6 (Dep.From (List.getD l i Dep.zero) - 1 * 2 ^ c) := has_sub hF.1 h6 (by rw [has_has6 hF.1]; exact hh)
    have hD : Dep6 ⟨Dep.From (List.getD l i Dep.zero) - 1 * 2 ^ c, Dep.To (List.getD l i Dep.zero)⟩ := ⟨hcl, hF.2⟩
    have hcs := clr_sub hF.1 h6 hh
    have himp := implies_iff hO hD
    cases ht : implies l ⟨Dep.From (List.getD l i Dep.zero) - 1 * 2 ^ c, Dep.To (List.getD l i Dep.zero)⟩ with
    | false =>
     rw [cond_false]
     obtain ⟨l', e, h1, h2, h3, h4, h5, h7, h8⟩ := ih (c + 1) l (by omega) hi hl he
     refine ⟨l', e, h1, h2, h3, h4, h5, h7, fun d hd hdw hd1 => ?_⟩
     by_cases hdc : d = c
     ·
      subst hdc
      intro hI
      have hF' := (Shape.ok h2 |>.at (i := i) (by omega)).1
      have hs1 : Sub6 (Dep.From (List.getD l' i Dep.zero) - 1 * 2 ^ d) (Dep.From (List.getD l i Dep.zero) - 1 * 2 ^ d) := by
       refine (sub6_iff (has_sub hF' h6 (by rw [has_has6 hF']; exact hd1)) hcl).2 fun q hq => ?_
       rw [has6_clr hF' h6 hd1] at hq
       rw [has6_clr hF.1 h6 hh]
       obtain ⟨q1, q2⟩ := Bool.and_eq_true_iff.1 hq
       rw [(sub6_iff hF' hF.1).1 h5 q q1, q2]
       rfl
      have : Imp l ⟨Dep.From (List.getD l i Dep.zero) - 1 * 2 ^ d, Dep.To (List.getD l i Dep.zero)⟩ := (he.imp _).2 fun x hx hxc hxs => by
       have := hI x hx hxc (Sub6.trans (has_sub hF' h6 (by rw [has_has6 hF']; exact hd1)) hcl hx hs1 hxs)
       rw [h7] at this
       exact this
      rw [himp.2 this] at ht
      cases ht
     ·
      exact h8 d (by omega) hdw hd1
    | true =>
     rw [cond_true]
     have hI := himp.1 ht
     have hmem : l.getD i Dep.zero ∈ l := getD_mem l i Dep.zero hi
     have hsh := hl _ hmem
     have hset : ∀ f ∈ l.set i ⟨Dep.From (List.getD l i Dep.zero) - 1 * 2 ^ c, Dep.To (List.getD l i Dep.zero)⟩, Shape w f := by
      intro f hf
      rcases List.mem_or_eq_of_mem_set hf with hf | rfl
      ·
       exact hl f hf
      ·
       obtain ⟨_, b1, q, q1, q2, q3⟩ := hsh
       have hb := bit_in h6
       refine ⟨hD, by show Dep.From (List.getD l i Dep.zero) - 1 * 2 ^ c < _; omega, q, q1, q2, ?_⟩
       show has6 (Dep.From (List.getD l i Dep.zero) - 1 * 2 ^ c) q = false
       rw [has6_clr hF.1 h6 hh, q3]
       rfl
     have heq : Eqv (l.set i ⟨Dep.From (List.getD l i Dep.zero) - 1 * 2 ^ c, Dep.To (List.getD l i Dep.zero)⟩) fds := fun x hx => by
      rw [← he x hx]
      constructor
      ·
       intro g f hf
       obtain ⟨j, hj, rfl⟩ := mem_iff_getD.1 hf
       by_cases e : i = j
       ·
        subst e
        intro hs
        have := g _ (mem_iff_getD.2 ⟨i, by rw [List.length_set]; exact hi, getD_set_eq hi _⟩)
        exact this (Sub6.trans hcl hF.1 hx hcs hs)
       ·
        exact g _ (mem_iff_getD.2 ⟨j, by rw [List.length_set]; exact hj, getD_set_ne e _⟩)
      ·
       intro g f hf
       rcases List.mem_or_eq_of_mem_set hf with hf | rfl
       ·
        exact g f hf
       ·
        exact fun hs => hI x hx g hs
     obtain ⟨l', e, h1, h2, h3, h4, h5, h7, h8⟩ := ih (c + 1) _ (by omega) (by rw [List.length_set]; exact hi) hset heq
     rw [getD_set_eq hi] at h5 h7
     refine ⟨l', e, by rw [h1, List.length_set], h2, h3, fun j hj => by rw [h4 j hj, getD_set_ne (Ne.symm hj)], Sub6.trans (Shape.ok h2 |>.at (by rw [h1, List.length_set]; exact hi)).1 hcl hF.1 h5 hcs, h7, fun d hd hdw hd1 => ?_⟩
     by_cases hdc : d = c
     ·
      subst hdc
      have := (sub6_iff (Shape.ok h2 |>.at (by rw [h1, List.length_set]; exact hi)).1 hcl).1 h5 d hd1
      rw [has6_clr hF.1 h6 hh] at this
      simp at this
     ·
      exact h8 d (by omega) hdw hd1
  ·
   rw [decide_eq_false hc, cond_false]
   exact ⟨l, rfl, rfl, hl, he, fun _ _ => rfl, Sub6.refl hF.1, rfl, fun d hd hdw => by omega⟩

theorem p2_out {fds : List Dep} {w : Int} (hw : 1 ≤ w ∧ w ≤ 6) : ∀ (k i : Nat) (l : List Dep), l.length - i < k → (∀ f ∈ l, Shape w f) → Eqv l fds → (∀ j, j < i → j < l.length → Irr fds w 0 (l.getD j Dep.zero)) →
  ∃ l', minimalCover_l2 w k i l = l' ∧ (∀ f ∈ l', Shape w f) ∧ Eqv l' fds ∧ ∀ f ∈ l', Irr fds w 0 f := by
 intro k
 induction k with
 | zero => intro i l h; omega
 | succ k ih =>
  intro i l hk hl he hj
  unfold minimalCover_l2
  by_cases hi : ((i : Nat) : Int) < ((List.length l : Nat) : Int)
  ·
   rw [decide_eq_true hi, cond_true]
   obtain ⟨l1, e, h1, h2, h3, h4, _, _, h8⟩ := p2_spec hw (fds := fds) (i := i) (Int.toNat (w - ((0 : Nat) : Int)) + 1) 0 l (by omega) (by omega) hl he
   rw [e]
   exact ih (i + 1) l1 (by omega) h2 h3 fun j hj1 hj2 => by
    by_cases e : j = i
    ·
     subst e; exact h8
    ·
     rw [h4 j e]; exact hj j (by omega) (by omega)
  ·
   rw [decide_eq_false hi, cond_false]
   refine ⟨l, rfl, hl, he, fun f hf => ?_⟩
   obtain ⟨j, hj1, rfl⟩ := mem_iff_getD.1 hf
   exact hj j (by omega) hj1

theorem restOf_getD {l : List Dep} {i j : Nat} (hj : j < i) (hi : i < l.length) : (restOf l i).getD j Dep.zero = l.getD j Dep.zero := by
 unfold restOf
 rw [List.getD_eq_getElem?_getD, List.getD_eq_getElem?_getD, List.getElem?_append_left (by rw [List.length_take]; omega), List.getElem?_take, if_pos hj]

theorem restOf_mem_iff {l : List Dep} {i : Nat} {f : Dep} : f ∈ restOf l i ↔ ∃ j, j ≠ i ∧ j < l.length ∧ l.getD j Dep.zero = f := by
 unfold restOf
 rw [List.mem_append]
 constructor
 ·
  rintro (h | h)
  ·
   obtain ⟨j, hj, rfl⟩ := mem_iff_getD.1 h
   rw [List.length_take] at hj
   refine ⟨j, by omega, by omega, ?_⟩
   rw [List.getD_eq_getElem?_getD, List.getD_eq_getElem?_getD, List.getElem?_take, if_pos (by omega)]
  ·
   obtain ⟨j, hj, rfl⟩ := mem_iff_getD.1 h
   rw [List.length_drop] at hj
   refine ⟨i + 1 + j, by omega, by omega, ?_⟩
   rw [List.getD_eq_getElem?_getD, List.getD_eq_getElem?_getD, List.getElem?_drop]
 ·
  rintro ⟨j, hj, hjl, rfl⟩
  rcases Nat.lt_or_gt_of_ne hj with h | h
  ·
   refine .inl (mem_iff_getD.2 ⟨j, by rw [List.length_take]; omega, ?_⟩)
   rw [List.getD_eq_getElem?_getD, List.getD_eq_getElem?_getD, List.getElem?_take, if_pos h]
  ·
   refine .inr (mem_iff_getD.2 ⟨j - (i + 1), by rw [List.length_drop]; omega, ?_⟩)
   rw [List.getD_eq_getElem?_getD, List.getD_eq_getElem?_getD, List.getElem?_drop, show i + 1 + (j - (i + 1)) = j by omega]

theorem restOf_len {l : List Dep} {i : Nat} (hi : i < l.length) : (restOf l i).length = l.length - 1 := rest_len hi

theorem restOf_rest {l : List Dep} {i j : Nat} (hj : j < i) (hi : i < l.length) {f : Dep} (h : f ∈ restOf (restOf l i) j) : f ∈ restOf l j := by
 obtain ⟨q, h1, h2, rfl⟩ := restOf_mem_iff.1 h
 rw [restOf_len hi] at h2
 rcases Nat.lt_or_ge q i with hq | hq
 ·
  rw [restOf_getD hq hi]
  exact restOf_mem_iff.2 ⟨q, h1, by omega, rfl⟩
 ·
  refine restOf_mem_iff.2 ⟨q + 1, by omega, by omega, ?_⟩
  unfold restOf
  rw [List.getD_eq_getElem?_getD, List.getD_eq_getElem?_getD, List.getElem?_append_right (by rw [List.length_take]; omega), List.length_take, List.getElem?_drop, show i + 1 + (q - min i l.length) = q + 1 by omega]

theorem p3_out {fds : List Dep} {w : Int} : ∀ (k i : Nat) (l : List Dep), l.length - i < k → (∀ f ∈ l, Shape w f) → Eqv l fds → (∀ j, j < i → j < l.length → ¬ Imp (restOf l j) (l.getD j Dep.zero)) →
  ∃ l', minimalCover_l4 k l i = l' ∧ (∀ f ∈ l', f ∈ l) ∧ Eqv l' fds ∧ ∀ j, j < l'.length → ¬ Imp (restOf l' j) (l'.getD j Dep.zero) := by
 intro k
 induction k with
 | zero => intro i l h; omega
 | succ k ih =>
  intro i l hk hl he hj
  have hO := Shape.ok hl
  unfold minimalCover_l4
  by_cases hi : ((i : Nat) : Int) < ((List.length l : Nat) : Int)
  ·
   have hi' : i < l.length := by omega
   rw [decide_eq_true hi, cond_true, List.nil_append]
   have himp := implies_iff (hO.rest' i) (hO.at hi')
   show ∃ l', (bif implies (restOf l i) (l.getD i Dep.zero) then minimalCover_l4 k (restOf l i) i else minimalCover_l4 k l (i + 1)) = l' ∧ _
   cases ht : implies (restOf l i) (l.getD i Dep.zero) with
   | true =>
    rw [cond_true]
    have hI := himp.1 ht
    obtain ⟨l', e, h1, h2, h3⟩ := ih i (restOf l i) (by rw [restOf_len hi']; omega) (fun f hf => hl f (restOf_mem hf)) (fun x hx => by
     rw [← he x hx]
     constructor
     ·
      intro g f hf
      obtain ⟨j, hj, rfl⟩ := mem_iff_getD.1 hf
      by_cases e : j = i
      ·
       subst e; exact hI x hx g
      ·
       exact g _ (restOf_mem_iff.2 ⟨j, e, hj, rfl⟩)
     ·
      intro g f hf
      exact g f (restOf_mem hf)) (fun j hj1 hj2 => by
     rw [restOf_getD hj1 hi']
     exact fun hI2 => hj j hj1 (by omega) (hI2.mono fun g hg => restOf_rest hj1 hi' hg))
    exact ⟨l', e, fun f hf => restOf_mem (h1 f hf), h2, h3⟩
   | false =>
    rw [cond_false]
    refine ih (i + 1) l (by omega) hl he fun j hj1 hj2 => ?_
    by_cases e : j = i
    ·
     subst e
     intro hI
     rw [himp.2 hI] at ht
     cases ht
    ·
     exact hj j (by omega) hj2
  ·
   rw [decide_eq_false hi, cond_false]
   exact ⟨l, rfl, fun _ h => h, he, fun j hj1 => hj j (by omega) hj1⟩

structure Cover (fds : List Dep) (w : Int) (l : List Dep) : Prop where
 shape : ∀ f ∈ l, Shape w f
 eqv : Eqv l fds
 irr : ∀ f ∈ l, Irr fds w 0 f
 all : ∀ j, j < l.length → ¬ Imp (restOf l j) (l.getD j Dep.zero)

theorem cover_spec {fds : List Dep} {w : Int} (h : ValidDependencies fds w = true) : iMinimalCover fds w = minimalCover fds w ∧ Cover fds w (minimalCover fds w) := by
 obtain ⟨hw, h8, hf⟩ := deps_ok h
 have hb : ∀ f ∈ fds, f.From < 2 ^ w.toNat ∧ f.To < 2 ^ w.toNat := fun f hm => by
  have := depValid_iff.1 ((ValidDependencies_iff.1 h).2.2 f hm)
  exact ⟨this.1.2, this.2.2⟩
 obtain ⟨a1, a2⟩ := p1_out hf hw hb (fds.length - 0 + 1) 0 [] (by omega) (fun f hf => by cases hf)
 have ae : Eqv (minimalCover_l0 fds w (fds.length - 0 + 1) 0 []) fds := fun x hx => (a2 x hx).trans
  ⟨fun g f hm => by
   obtain ⟨j, hj, rfl⟩ := mem_iff_getD.1 hm
   exact g.2 j (Nat.zero_le _) hj, fun g => ⟨fun f hm => (by cases hm), fun j _ hj => g _ (getD_mem fds j Dep.zero hj)⟩⟩
 have aO := Shape.ok a1
 unfold iMinimalCover minimalCover
 rw [h]
 simp only [Bool.not_true, cond_false, Go.Am.andThen]
 rw [p1_all hf hw.2]
 generalize minimalCover_l0 fds w (fds.length - 0 + 1) 0 [] = L1 at *
 obtain ⟨b1, b2⟩ := p2_all hw.2 L1 (L1.length - 0 + 1) 0 L1 aO rfl
 obtain ⟨L2, e2, c1, c2, c3⟩ := p2_out hw (fds := fds) (L1.length - 0 + 1) 0 L1 (by omega) a1 ae (fun j hj => by omega)
 rw [b1]
 rw [e2] at b2 ⊢
 rw [p3_same _ _ _ b2]
 obtain ⟨L3, e3, d1, d2, d3⟩ := p3_out (fds := fds) (L2.length - 0 + 1) 0 L2 (by omega) c1 c2 (fun j hj => by omega)
 rw [e3]
 exact ⟨rfl, fun f hf => c1 f (d1 f hf), d2, fun f hf => c3 f (d1 f hf), d3⟩

theorem cover_eq (fds : List Dep) (w : Int) : iMinimalCover fds w = MinimalCover fds w := by
 unfold MinimalCover
 rw [valid_eq]
 cases h : ValidDependencies fds w with
 | false => unfold iMinimalCover; rw [h]; rfl
 | true => exact (cover_spec h).1

end
end Go.Proofs.Ytmijmkbnmcmgcaa
