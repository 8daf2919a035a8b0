/-
  Am, part Y: specifications, contexts, small steps for the printed proofs.
-/
import Derived.Test.YtjcjpeckfikfkaaAmX
set_option linter.all false
namespace Go.Am
open List

def AllT [UnivT] : List Ty → (List TV → Prop) → Prop
  | [], p => p []
  | t :: ts, p => ∀ x : t.den, AllT ts fun l => p (⟨t, x⟩ :: l)

theorem AllT.get [UnivT] : ∀ {ts : List Ty} {p : List TV → Prop}, AllT ts p → ∀ tvs : List TV, tvs.map Sigma.fst = ts → p tvs := by
  intro ts
  induction ts with
  | nil =>
    intro p h tvs e
    cases tvs with
    | nil => exact h
    | cons => simp at e
  | cons t ts ih =>
    intro p h tvs e
    cases tvs with
    | nil => simp at e
    | cons tv tvs =>
      obtain ⟨u, x⟩ := tv; simp only [map_cons, List.cons.injEq] at e; obtain ⟨rfl, e⟩ := e; exact ih (h x) tvs e

variable [U : Univ]

def Cur : List Ty → Type → Type
  | [], R => R
  | t :: ts, R => t.den → Cur ts R

def app {R : Type} (d : R) : (ts : List Ty) → Cur ts R → List TV → R
  | [], f, [] => f
  | [], _, _ :: _ => d
  | _ :: _, _, [] => d
  | t :: ts, f, tv :: l =>
    match TV.to t tv with
    | some x => app d ts (f x) l
    | none => d

def mkSpec (ps : List PK) (rs : List RK) (pre : Cur (ps.map PK.ty) Prop) (fn : Cur (ps.map PK.ty) (List TV)) : FnSpec where
  ps := ps
  rs := rs
  pre := app True _ pre
  fn := app [] _ fn
  bx := fun _ => []

def lookN {α : Type} : List (Nat × α) → Nat → Option α
  | [], _ => none
  | (j, v) :: r, i => bif Nat.beq i j then some v else lookN r i

def mkCtx (ty : List (Nat × Ty)) (sp : List (Nat × FnSpec)) : Ctx where
  ty := lookN ty
  sp := lookN sp

theorem CtxOK.lend {P : Program} {C : Ctx} (h : CtxOK P C) : CtxOK P { C with lendv := true } := ⟨fun T t hT => { info := (h.ty T t hT).info, und := (h.ty T t hT).und, zc := (h.ty T t hT).zc, eqs := by have := (h.ty T t hT).eqs; cases t <;> exact this, arrs := fun B n e => ⟨((h.ty T t hT).arrs B n e).pos, ((h.ty T t hT).arrs B n e).und, ((h.ty T t hT).arrs B n e).zero⟩, ptrs := (h.ty T t hT).ptrs, ifcs := (h.ty T t hT).ifcs, maps := (h.ty T t hT).maps }, h.fn⟩

section
variable {P : Program} {ty : List (Nat × Ty)}

theorem CtxOK.nil (h : CtxTy P (mkCtx ty [])) : CtxOK P (mkCtx ty []) := ⟨h, fun f sp e => by simp [mkCtx, lookN] at e⟩

theorem CtxOK.cons {f : Nat} {sp : FnSpec} {l : List (Nat × FnSpec)} (h : FnOK P f sp) (t : CtxOK P (mkCtx ty l)) : CtxOK P (mkCtx ty ((f, sp) :: l)) := by
  refine ⟨fun T u e => ?_, fun g s e => ?_⟩
  · have := t.ty T u e; exact { info := this.info, und := by cases u <;> exact this.und, zc := this.zc, eqs := by cases u <;> exact this.eqs, arrs := fun B n e => ⟨(this.arrs B n e).pos, (this.arrs B n e).und, (this.arrs B n e).zero⟩, ptrs := this.ptrs, ifcs := this.ifcs, maps := this.maps }
  · simp only [mkCtx, lookN] at e
    cases hb : Nat.beq g f with
    | true =>
      rw [hb, cond_true] at e; obtain rfl := Nat.eq_of_beq_eq_true hb; obtain rfl := Option.some.inj e; exact h
    | false =>
      rw [hb, cond_false] at e; exact t.fn g s e

theorem CtxTy.any {sp sp' : List (Nat × FnSpec)} (h : CtxTy P (mkCtx ty sp)) : CtxTy P (mkCtx ty sp') := fun T u e => by
  have := h T u e; exact { info := this.info, und := by cases u <;> exact this.und, zc := this.zc, eqs := by cases u <;> exact this.eqs, arrs := fun B n e => ⟨(this.arrs B n e).pos, (this.arrs B n e).und, (this.arrs B n e).zero⟩, ptrs := this.ptrs, ifcs := this.ifcs, maps := this.maps }

end

def AllP : List Prop → Prop
  | [] => True
  | p :: r => p ∧ AllP r

omit U in
theorem AllP.get : ∀ {l : List Prop}, AllP l → ∀ p ∈ l, p := by
  intro l
  induction l with
  | nil => intro _ p h; cases h
  | cons q l ih =>
    intro h p hp; rcases mem_cons.1 hp with rfl | hp
    · exact h.1
    · exact ih h.2 p hp

section
variable {P : Program} {E : Ent} {N : Nat} {C : Ctx} {ops : Array Oper} {Q : Exit → St → Prop} {st : St} {c : Code}

theorem AW.reg (hC : CtxOK P C) {id : Nat} (wr : Bool) (kn : List (Nat × Bool)) (ks ms : List Nat) (st' : St) (ob : List Prop) (h : Am.region C wr kn N ops ks ms st = some (st', ob))
    (hob : AllP ob) (hq : Q .normal st') : AW P E N (.region id ops false) Q st := AW.region hC wr kn ks ms st' ob h hob.get hq

theorem AW.regD (hC : CtxOK P C) (hm : P.follows .mixedOrders = true) {id : Nat} (wr : Bool) (kn : List (Nat × Bool)) (ks ms : List Nat) (st' : St) (ob : List Prop) (h : Am.regionAny C wr kn N ops ks ms st = some (st', ob))
    (hob : AllP ob) (hq : Q .normal st') : AW P E N (.region id ops true) Q st := AW.region_any hC hm wr kn ks ms st' ob h hob.get hq

theorem AW.regU (hC : CtxOK P C) {id : Nat} (wr : Bool) (kn : List (Nat × Bool)) (ks ms : List Nat) (s : List (Nat × SV)) (m : List (Nat × Blk)) (ob : List Prop) (h : Am.region C wr kn N ops ks ms st = some (st.up ks ms s m, ob))
    (hob : AllP ob) (hq : Q .normal (st.up ks ms s m)) : AW P E N (.region id ops false) Q st := AW.reg hC wr kn ks ms _ ob h hob hq

theorem AW.back {α : Type} {S : α → St} {R : α → Prop} {μ : α → Nat} {x : α} (x' : α) (hs : st = S x') (hR : R x') (hμ : μ x' < μ x) : ∃ x', st = S x' ∧ R x' ∧ μ x' < μ x :=
  ⟨x', hs, hR, hμ⟩

theorem AW.cut {α : Type} {x y : Code} (S : α → St) (R : α → Prop) (h : AW P E N x (thenQ (fun st' => ∃ z, st' = S z ∧ R z) Q) st) (k : ∀ z, R z → AW P E N y Q (S z)) : AW P E N (.seq x y) Q st := by
  refine AW.seq (h.mono fun e st' hq => ?_)
  cases e with
  | normal =>
    obtain ⟨z, rfl, hz⟩ := hq; exact k z hz
  | _ => exact hq

theorem AW.meet {α : Type} {S : α → St} {R : α → Prop} (z : α) (hs : st = S z) (hR : R z) : ∃ z, st = S z ∧ R z := ⟨z, hs, hR⟩

end

omit U in
theorem and_pos {c a : Bool} (h : (bif c then a else false) = true) : c = true ∧ a = true := by cases c <;> simp_all
omit U in
theorem and_neg {c a : Bool} (h : (bif c then a else false) = false) : c = false ∨ a = false := by cases c <;> simp_all
omit U in
theorem or_pos {c a : Bool} (h : (bif c then true else a) = true) : c = true ∨ a = true := by cases c <;> simp_all
omit U in
theorem or_neg {c a : Bool} (h : (bif c then true else a) = false) : c = false ∧ a = false := by cases c <;> simp_all
omit U in
theorem not_pos {a : Bool} (h : (!a) = true) : a = false := by cases a <;> simp_all
omit U in
theorem not_neg {a : Bool} (h : (!a) = false) : a = true := by cases a <;> simp_all
omit U in
theorem beq_pos {a b : Int} (h : (a == b) = true) : a = b := by simpa using h
omit U in
theorem beq_neg {a b : Int} (h : (a == b) = false) : a ≠ b := by simpa using h
omit U in
theorem bne_pos {a b : Int} (h : (a != b) = true) : a ≠ b := by simpa using h
omit U in
theorem bne_neg {a b : Int} (h : (a != b) = false) : a = b := by simpa using h

theorem Wf.int_inv {k : IntKind} {n : Int} (h : Wf ⟨.int k, n⟩) : inR k n := by
  cases h with
  | int _ _ lo hi => exact ⟨lo, hi⟩

theorem Wf.len {t : Ty} {xs : List t.den} (h : Wf ⟨.slice t, xs⟩) : (xs.length : Int) ≤ 9223372036854775807 := by
  cases h with
  | slice _ _ hl h => exact hl

theorem Wf.elem {t : Ty} {xs : List t.den} (h : Wf ⟨.slice t, xs⟩) {x : t.den} (hx : x ∈ xs) : Wf ⟨t, x⟩ := by
  cases h with
  | slice _ _ hl h => exact h x hx

theorem Wf.field {n : Nat} {x : U.R n} (h : Wf ⟨.named n, x⟩) {tv : TV} (hx : tv ∈ U.get n x) : Wf tv := by
  cases h with
  | named _ _ h => exact h tv hx

end Go.Am
namespace Go.Am
open List
variable [U : Univ]

def Ty.deep : Nat → Ty → Bool
  | f + 1, .named n => (U.tys n).all (Ty.deep f)
  | 0, .named _ => false
  | _, _ => true

theorem zeroCells_rep {A : Nat → Prop} {w : World} : ∀ (f : Nat) {t : Ty}, t.deep f = true → RepC A w t t.zero (zeroCells f t) := by
  intro f
  induction f with
  | zero =>
    intro t ht
    cases t with
    | int k => exact .int k 0 (by cases k <;> decide) (by cases k <;> decide)
    | bool => exact .bool false
    | str => exact .str ByteArray.empty (by simp [lim])
    | slice t => exact .nil t
    | named n => simp [Ty.deep] at ht
  | succ f ih =>
    intro t ht
    cases t with
    | int k => exact .int k 0 (by cases k <;> decide) (by cases k <;> decide)
    | bool => exact .bool false
    | str => exact .str ByteArray.empty (by simp [lim])
    | slice t => exact .nil t
    | named n =>
      refine .named n _ _ ?_; show RepL A w (U.get n (U.dfl n)) _; rw [U.get_dfl]; simp only [zeroCells, Ty.deep] at ht ⊢; generalize U.tys n = l at ht ⊢
      induction l with
      | nil => exact .nil
      | cons u l ihl =>
        simp only [all_cons, Bool.and_eq_true] at ht; exact .cons u _ _ _ _ (ih ht.1) (ihl ht.2)

def zeroVal (t : Ty) : Value :=
  match t with
  | .named _ => .agg (zeroCells fuel t).toArray
  | .int k => .int k 0
  | .bool => .bool false
  | .str => .string ByteArray.empty
  | .slice _ => .slice none 0 0

theorem zeroVal_rep {A : Nat → Prop} {w : World} {t : Ty} (h : t.deep fuel = true) : RepV A w t t.zero (zeroVal t) := by
  have := zeroCells_rep (A := A) (w := w) fuel h
  cases t with
  | named n => exact .agg n _ _ this
  | _ => exact .one _ _ _ (by simp) this

section
variable {P : Program} {C : Ctx} {T : Nat}

def arrVal (n : Nat) (t : Ty) : Value := .agg (List.replicate n (zeroCells fuel t)).flatten.toArray

theorem ArrAt.of {B n : Nat} {t : Ty} (hp : (decide (1 ≤ n) && decide (n ≤ 4096)) = true) (hu : P.underlying B = some (.array n T)) (hT : C.ty T = some t)
    (hi : (P.info? B).map (fun i => i.zero) = some (some (arrVal n t))) : ArrAt P C B T n := by
  simp only [Bool.and_eq_true, decide_eq_true_eq] at hp; refine ⟨hp, hu, ?_⟩
  cases h : P.info? B with
  | none => rw [h] at hi; simp at hi
  | some i =>
    rw [h] at hi; simp only [Option.map_some, Option.some.injEq] at hi; refine ⟨i, _, rfl, hi, fun t' ht => ?_⟩; rw [hT] at ht; obtain rfl := Option.some.inj ht; simp [arrVal, Value.cells]

def PtrsOK (P : Program) (T : Nat) : List (Nat × Nat) → Prop
  | [] => True
  | x :: r => (x.2 = T → ∃ X, P.underlying x.1 = some (.pointer X)) ∧ PtrsOK P T r

omit U in
theorem PtrsOK.get {P : Program} {T : Nat} {l : List (Nat × Nat)} (h : PtrsOK P T l) : ∀ B, findP B l = some T → ∃ X, P.underlying B = some (.pointer X) := by
  induction l with
  | nil => intro B e; simp [findP] at e
  | cons x r ih =>
    obtain ⟨j, e⟩ := x; intro B hf; simp only [findP] at hf; split at hf
    · rename_i hj; subst hj; exact h.1 (Option.some.inj hf)
    · exact ih h.2 B hf

def IfcsOK (P : Program) (T : Nat) : List (Nat × Nat) → Prop
  | [] => True
  | x :: r => (x.2 = T → ∃ X, P.underlying x.1 = some (.interface X)) ∧ IfcsOK P T r

omit U in
theorem IfcsOK.get {P : Program} {T : Nat} {l : List (Nat × Nat)} (h : IfcsOK P T l) : ∀ B, findP B l = some T → ∃ X, P.underlying B = some (.interface X) := by
  induction l with
  | nil => intro B e; simp [findP] at e
  | cons x r ih =>
    obtain ⟨j, e⟩ := x; intro B hf; simp only [findP] at hf; split at hf
    · rename_i hj; subst hj; exact h.1 (Option.some.inj hf)
    · exact ih h.2 B hf

def MapsOK (P : Program) (T : Nat) : List (Nat × Nat) → Prop
  | [] => True
  | x :: r => (x.2 = T → P.underlying x.1 = some (.map T T)) ∧ MapsOK P T r

omit U in
theorem MapsOK.get {P : Program} {T : Nat} {l : List (Nat × Nat)} (h : MapsOK P T l) : ∀ B, findP B l = some T → P.underlying B = some (.map T T) := by
  induction l with
  | nil => intro B e; simp [findP] at e
  | cons x r ih =>
    obtain ⟨j, e⟩ := x; intro B hf; simp only [findP] at hf; split at hf
    · rename_i hj; subst hj; exact h.1 (Option.some.inj hf)
    · exact ih h.2 B hf

def ArrsOK (P : Program) (C : Ctx) (T : Nat) : List (Nat × Nat × Nat) → Prop
  | [] => True
  | x :: r => (x.2.1 = T → ArrAt P C x.1 T x.2.2) ∧ ArrsOK P C T r

theorem ArrsOK.get {l : List (Nat × Nat × Nat)} (h : ArrsOK P C T l) : ∀ B n, findA B l = some (T, n) → ArrAt P C B T n := by
  induction l with
  | nil => intro B n e; simp [findA] at e
  | cons x r ih =>
    obtain ⟨j, e, m⟩ := x; intro B n hf; simp only [findA] at hf; split at hf
    · rename_i hj; simp only [Option.some.injEq, Prod.mk.injEq] at hf; obtain ⟨rfl, rfl⟩ := hf; subst hj; exact h.1 rfl
    · exact ih h.2 B n hf

theorem TyOK.of {t : Ty} (b : Nat) (hi : (P.info? T).map (fun i => (i.size, i.bytes, i.zero)) = some (t.size, b, some (zeroVal t))) (hs : t.size ≤ 4096) (hb : b ≤ 4096) (hd : t.deep fuel = true)
    (hu : match t with
      | .int k => P.underlying T = some (.int k)
      | .bool => P.underlying T = some .bool
      | .str => P.underlying T = some .string
      | .slice e => ∃ E, P.underlying T = some (.slice E) ∧ C.ty E = some e
      | .named n => ∃ fs, P.underlying T = some (.struct fs) ∧ fs.size = (U.tys n).length ∧ ∀ f t, (U.tys n)[f]? = some t → ∃ fd, fs[f]? = some fd ∧ C.ty fd.type = some t ∧ fd.offset = offsetOf n f)
    (he : match t with
      | .named n => U.cmp n = true → P.stoodInHeld T = false ∧ P.eqGuardType P.depth T = false ∧ ((P.fieldsOf T).toList.all fun f => f.name != "_") = true
      | _ => True)
    (ha : ∀ B n, findA B U.arrs = some (T, n) → ArrAt P C B T n := by exact fun _ _ h => by cases h)
    (hq : ∀ B, findP B U.ptrs = some T → ∃ X, P.underlying B = some (.pointer X) := by exact fun _ h => by cases h)
    (hn : ∀ B, findP B U.ifcs = some T → ∃ X, P.underlying B = some (.interface X) := by exact fun _ h => by cases h)
    (hp : ∀ B, findP B U.maps = some T → P.underlying B = some (.map T T) := by exact fun _ h => by cases h) : TyOK P C T t := by
  refine ⟨?_, by cases t <;> exact hu, ?_, by cases t <;> exact he, ha, hq, hn, hp⟩
  rotate_left
  · intro i z hi' hz; rw [hi'] at hi; simp only [Option.map_some, Option.some.injEq, Prod.mk.injEq] at hi; rw [hi.2.2] at hz; obtain rfl := Option.some.inj hz
    cases t with
    | named n => simp [zeroVal, Value.cells]
    | _ => rfl
  cases h : P.info? T with
  | none => rw [h] at hi; simp at hi
  | some i =>
    rw [h] at hi; simp only [Option.map_some, Option.some.injEq, Prod.mk.injEq] at hi; obtain ⟨h1, h2, h3⟩ := hi; exact ⟨i, zeroVal t, rfl, h1, by omega, by omega, h3, fun A w => zeroVal_rep hd⟩

theorem CtxTy.nil {sp : List (Nat × FnSpec)} : CtxTy P { ty := lookN [], sp := lookN sp } := fun T t e => by simp [lookN] at e

def TysOK (P : Program) (C : Ctx) : List (Nat × Ty) → Prop
  | [] => True
  | x :: r => TyOK P C x.1 x.2 ∧ TysOK P C r

theorem TysOK.get {ty : List (Nat × Ty)} (h : TysOK P C ty) : ∀ T t, lookN ty T = some t → TyOK P C T t := by
  induction ty with
  | nil => intro T t e; simp [lookN] at e
  | cons x r ih =>
    obtain ⟨j, u⟩ := x; intro T t e; simp only [lookN] at e
    cases hb : Nat.beq T j with
    | true =>
      rw [hb, cond_true] at e; obtain rfl := Nat.eq_of_beq_eq_true hb; obtain rfl := Option.some.inj e; exact h.1
    | false =>
      rw [hb, cond_false] at e; exact ih h.2 T t e

theorem CtxTy.of {ty : List (Nat × Ty)} {sp : List (Nat × FnSpec)} (h : TysOK P (mkCtx ty sp) ty) : CtxTy P (mkCtx ty sp) := fun T t e => h.get T t e

end
end Go.Am
namespace Go.Am
open List
def AllI {α : Type} (p : Nat → α → Prop) : Nat → List α → Prop
  | _, [] => True
  | i, x :: r => p i x ∧ AllI p (i + 1) r

theorem AllI.get {α : Type} {p : Nat → α → Prop} {l : List α} (h : AllI p 0 l) : ∀ (f : Nat) (t : α), l[f]? = some t → p f t := by
  have : ∀ (l : List α) (i : Nat), AllI p i l → ∀ (f : Nat) (t : α), l[f]? = some t → p (i + f) t := by
    intro l
    induction l with
    | nil => intro i _ f t e; simp at e
    | cons x l ih =>
      intro i h f t e
      cases f with
      | zero =>
        simp only [getElem?_cons_zero, Option.some.injEq] at e; subst e; exact h.1
      | succ f =>
        have := ih (i + 1) h.2 f t (by simpa using e)
        rwa [show i + 1 + f = i + (f + 1) by omega] at this
  intro f t e; have := this l 0 h f t e
  rwa [Nat.zero_add] at this
end Go.Am
namespace Go.Am
open List
variable [U : Univ]

omit U in
theorem elim_l {α β γ : Type} {f : α → γ} {g : β → γ} {x : α ⊕ β} {z : α} (h : x = .inl z) : Sum.elim f g x = f z := by rw [h]; rfl
omit U in
theorem elim_r {α β γ : Type} {f : α → γ} {g : β → γ} {x : α ⊕ β} {z : β} (h : x = .inr z) : Sum.elim f g x = g z := by rw [h]; rfl

def andThen {α γ : Type} (x : α) (f : α → γ) : γ := f x
omit U in
theorem then_eq {α γ : Type} {f : α → γ} {x z : α} (h : x = z) : andThen x f = f z := by rw [h]; rfl

section
variable {P : Program} {E : Ent} {N : Nat} {C : Ctx} {Q : Exit → St → Prop} {st : St} {c : Code}

theorem AW.retE {sp : FnSpec} {vars : List ResultVar} {tvs : List TV} {β : Type} (F G : β → List TV) {r v : β} (e : r = v) (h : (endOf C st.env sp.ps sp.rs vars).eval st.memf = some (F v, G v))
    (hf : sp.fn tvs = F r) (hg : sp.bx tvs = G r) : retQ C sp vars tvs .ret st := by
  subst e; show _ = _; rw [hf, hg]; exact h

end
end Go.Am
namespace Go.Am
open List
variable [U : Univ]
section
variable {P : Program} {E : Ent} {N : Nat} {Q : Exit → St → Prop} {st : St} {c : Code}

theorem AW.cutQ {α : Type} (S : α → St) (R : α → Prop) (h : AW P E N c (thenQ (fun st' => ∃ z, st' = S z ∧ R z) Q) st) (k : ∀ z, R z → Q .normal (S z)) : AW P E N c Q st := by
  refine h.mono fun e st' hq => ?_
  cases e with
  | normal =>
    obtain ⟨z, rfl, hz⟩ := hq; exact k z hz
  | _ => exact hq

theorem AW.lpB {α ζ β : Type} {id : Nat} (Sz : ζ → St) (J : ζ → Prop) (g : ζ → β) (S : α → St) (I : α → Prop) (μ : α → Nat) (f : Nat → α → β) (x0 : α) (hst : st = S x0) (h0 : I x0)
    (round : ∀ x k, I x → μ x ≤ k → f (μ x0 + 1) x0 = f (k + 1) x → AW P E N c (thenQ (fun st' => ∃ x', st' = S x' ∧ (I x' ∧ ∃ k, μ x' < k ∧ f (μ x0 + 1) x0 = f k x') ∧ μ x' < μ x) (blockQ id (thenQ (fun st' => ∃ z, st' = Sz z ∧ J z ∧ f (μ x0 + 1) x0 = g z) Q))) (S x))
    (next : ∀ z, J z → f (μ x0 + 1) x0 = g z → Q .normal (Sz z)) : AW P E N (.block id (.loop c)) Q st := by
  refine AW.cutQ Sz (fun z => J z ∧ f (μ x0 + 1) x0 = g z) (AW.block (AW.loop S (fun x => I x ∧ ∃ k, μ x < k ∧ f (μ x0 + 1) x0 = f k x) μ x0 hst ⟨h0, _, Nat.lt_succ_self _, rfl⟩ fun x hR => ?_)) fun z hz => next z hz.1 hz.2; obtain ⟨hI, k, hk, e⟩ := hR; obtain ⟨k, rfl⟩ : ∃ q, k = q + 1 := ⟨k - 1, by omega⟩; exact round x k hI (by omega) e

theorem AW.bk {α β : Type} {S : α → St} {I : α → Prop} {μ : α → Nat} {f : Nat → α → β} {r : β} {x : α} {k : Nat} (x' : α) (e : r = f k x') (hk : μ x ≤ k) (hI : I x') (hμ : μ x' < μ x) (hs : st = S x' := by kernel_rfl) :
    ∃ x', st = S x' ∧ (I x' ∧ ∃ k, μ x' < k ∧ r = f k x') ∧ μ x' < μ x := ⟨x', hs, ⟨hI, k, Nat.lt_of_lt_of_le hμ hk, e⟩, hμ⟩

theorem AW.adopt (s id : Nat) (t : Ty) (hs : st.env s = .nilsl) (hm : st.memf id = none) (h : AW P E N c Q ⟨(s, .arr id 1) :: st.slots, (id, .arr 1 t []) :: st.mem⟩) : AW P E N c Q st := by
  rintro a w ⟨β, hw⟩; refine h a w ⟨β, ?_⟩
  have hβ : β id = none := by
    cases e : β id with
    | none => rfl
    | some x =>
      obtain ⟨b, D⟩ := x; obtain ⟨⟨k, hk, _⟩, _⟩ := hw.dom id b D e; rw [hm] at hk; cases hk
  have hmem : ∀ i, i ≠ id → (St.memf ⟨(s, .arr id 1) :: st.slots, (id, .arr 1 t []) :: st.mem⟩) i = st.memf i := by
    intro i hi; show lookM _ i = _; simp only [lookM]; (have : Nat.beq i id = false := by rw [Bool.eq_false_iff]; intro e; exact hi (Nat.eq_of_beq_eq_true e)); rw [this, cond_false]; rfl
  have hid : (St.memf ⟨(s, .arr id 1) :: st.slots, (id, .arr 1 t []) :: st.mem⟩) id = some (.arr 1 t []) := by
    show lookM _ id = _; simp only [lookM]; rw [show Nat.beq id id = true from Nat.beq_refl id, cond_true]
  have hmono : ∀ i k, st.memf i = some k → ∃ k', (St.memf ⟨(s, .arr id 1) :: st.slots, (id, .arr 1 t []) :: st.mem⟩) i = some k' ∧ k.ep ≤ k'.ep ∧ (k.ep = k'.ep → k.alike k' ∧ β i = β i) := by
    intro i k hk; (have hi : i ≠ id := by rintro rfl; rw [hm] at hk; cases hk); exact ⟨k, by rw [hmem i hi]; exact hk, Nat.le_refl _, fun _ => ⟨k.alike_refl, rfl⟩⟩
  exact {
    defers := hw.defers, size := hw.size, hN := hw.hN, os := hw.os, tape := hw.tape, output := hw.output, grow := hw.grow, old := hw.old, inj := hw.inj
    dom := by
      intro i b D e; obtain ⟨⟨k, hk, hb⟩, h2⟩ := hw.dom i b D e; (have hi : i ≠ id := by rintro rfl; rw [hm] at hk; cases hk); exact ⟨⟨k, by rw [hmem i hi]; exact hk, hb⟩, h2⟩
    own := by
      intro b i e; obtain ⟨⟨k, hk, ht⟩, h2⟩ := hw.own b i e; (have hi : i ≠ id := by rintro rfl; rw [hm] at hk; cases hk); exact ⟨⟨k, by rw [hmem i hi]; exact hk, ht⟩, h2⟩
    blk := by
      intro i k hk; by_cases hi : i = id
      · subst hi; rw [hid] at hk; obtain rfl := Option.some.inj hk; exact ⟨by simp, .inl ⟨hβ, rfl⟩⟩
      · rw [hmem i hi] at hk; exact (hw.blk i k hk).mono (fun b hb => ⟨hb, rfl⟩) hmono rfl (fun _ _ _ => rfl) (fun _ _ hc => ⟨hc, rfl⟩)
    slot := by
      intro i; by_cases hi : i = s
      · subst hi
        have h1 : St.env ⟨(i, .arr id 1) :: st.slots, (id, .arr 1 t []) :: st.mem⟩ i = .arr id 1 := by
          show lookS _ i = _; simp only [lookS]; rw [show Nat.beq i i = true from Nat.beq_refl i, cond_true]
        have h2 := hw.slot i; rw [hs] at h2; rw [h1]; generalize slotV E a i = v at h2; cases h2; refine .arr _ _ _ ⟨_, hid, Nat.le_refl _⟩ rfl fun u xs hx => ?_; rw [hid] at hx; simp only [Option.some.injEq, Blk.arr.injEq, true_and] at hx; obtain ⟨rfl, hx⟩ := hx; obtain rfl := eq_of_heq hx; rw [hβ]; exact ⟨rfl, rfl, rfl⟩
      · have h1 : St.env ⟨(s, .arr id 1) :: st.slots, (id, .arr 1 t []) :: st.mem⟩ i = st.env i := by
          show lookS _ i = _; simp only [lookS]; (have : Nat.beq i s = false := by rw [Bool.eq_false_iff]; intro e; exact hi (Nat.eq_of_beq_eq_true e)); rw [this, cond_false]; rfl
        rw [h1]; exact (hw.slot i).mono (fun b hb => ⟨hb, rfl⟩) hmono
    par := by
      intro i c hc; (have hi : i ≠ id := by rintro rfl; rw [hid] at hc; cases hc); rw [hmem i hi] at hc
      exact hw.par i c hc }

end
end Go.Am
namespace Go.Am
open List
theorem getD_mem {α : Type} (l : List α) (i : Nat) (d : α) (h : i < l.length) : l.getD i d ∈ l := by
  rw [getD_eq_getElem?_getD, getElem?_eq_getElem h]; exact getElem_mem h
end Go.Am
namespace Go.Am
open List
theorem all_loop (L : Nat → Nat → Unit ⊕ Bool) (n : Nat) (bad : Nat → Bool)
    (hS : ∀ k i, L (k + 1) i = bif decide ((i : Int) < (n : Int)) then (bif bad i then .inr false else L k (i + 1)) else .inl ()) :
    ∀ k i, n - i < k → (L k i = .inl () ∧ ∀ j, i ≤ j → j < n → bad j = false) ∨ (L k i = .inr false ∧ ∃ j, i ≤ j ∧ j < n ∧ bad j = true) := by
  intro k
  induction k with
  | zero => intro i h; omega
  | succ k ih =>
    intro i h; rw [hS]; by_cases hi : i < n
    · rw [show decide ((i : Int) < (n : Int)) = true by simp; omega, cond_true]
      cases hb : bad i with
      | true => exact .inr ⟨rfl, i, Nat.le_refl _, hi, hb⟩
      | false =>
        rw [cond_false]; rcases ih (i + 1) (by omega) with ⟨h1, h2⟩ | ⟨h1, j, h2, h3, h4⟩
        · refine .inl ⟨h1, fun j hj hn => ?_⟩; by_cases e : j = i
          · rw [e]; exact hb
          · exact h2 j (by omega) hn
        · exact .inr ⟨h1, j, by omega, h3, h4⟩
    · rw [show decide ((i : Int) < (n : Int)) = false by simp; omega, cond_false]; exact .inl ⟨rfl, fun j hj hn => by omega⟩

end Go.Am
namespace Go.Am
open List
theorem lens : (∀ (α : Type) (l : List α) (i : Nat) (a : α), (l.set i a).length = l.length) ∧ (∀ (α : Type) (l m : List α), (l ++ m).length = l.length + m.length) ∧ (∀ (α : Type) (n : Nat) (a : α), (List.replicate n a).length = n) ∧
    (∀ (α : Type) (a : α) (l : List α), (a :: l).length = l.length + 1) ∧ (∀ (α : Type), ([] : List α).length = 0) ∧ (∀ (α : Type) (n : Nat) (l : List α), (l.take n).length = min n l.length) ∧ (∀ (α : Type) (n : Nat) (l : List α), (l.drop n).length = l.length - n) :=
  ⟨fun _ _ _ _ => length_set .., fun _ _ _ => length_append, fun _ _ _ => length_replicate, fun _ _ _ => length_cons, fun _ => length_nil, fun _ _ _ => length_take, fun _ _ _ => length_drop⟩
end Go.Am
