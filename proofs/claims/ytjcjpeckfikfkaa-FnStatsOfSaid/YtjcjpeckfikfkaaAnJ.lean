/-
  An, part J: a range over a function whose values are data that lie in memory.
-/
import Derived.Test.YtjcjpeckfikfkaaAnE
set_option linter.all false
namespace Go.Am
variable [U : Univ]
attribute [local irreducible] OFF

def isCells (w : World) (b : Nat) : Prop := ∃ c e f, w.heap[b]? = some (.cells c e f)

theorem RepC.inCells {A : Nat → Prop} {w : World} {t : Ty} {x : t.den} {cs : List Value} (h : RepC A w t x cs) : RepC (fun b => A b ∧ isCells w b) w t x cs := by
  refine RepC.rec (motive_1 := fun t x cs _ => RepC (fun b => A b ∧ isCells w b) w t x cs) (motive_2 := fun l cs _ => RepL (fun b => A b ∧ isCells w b) w l cs) ?_ ?_ ?_ ?_ ?_ ?_ ?_ ?_ h
  · intro k n lo hi; exact .int k n lo hi
  · intro b; exact .bool b
  · intro s h; exact .str s h
  · intro n x cs _ ih; exact .named n x cs ih
  · intro t; exact .nil t
  · intro t xs a cap css hl hcap hA hs hlen hc _ ih; refine .slice t xs a cap css hl hcap (fun h => ⟨hA h, ?_⟩) hs hlen hc ih; have hpos : 0 < xs.length := List.length_pos_iff.2 h; have h1 := hlen 0 hpos; have hsz := t.size_pos; obtain ⟨v, hv⟩ : ∃ v, (css 0)[0]? = some v := ⟨(css 0)[0]'(by omega), List.getElem?_eq_getElem (by omega)⟩; have := hc 0 0 v hpos hv
    unfold World.cell? at this
    split at this
    · rename_i c e f hh; exact ⟨c, e, f, hh⟩
    · cases this
  · exact .nil
  · intro t x r cs ds _ _ h k; exact .cons t x r cs ds h k

theorem RepV.inCells {A : Nat → Prop} {w : World} {t : Ty} {x : t.den} {v : Value} (h : RepV A w t x v) : RepV (fun b => A b ∧ isCells w b) w t x v := by
  cases h with
  | agg n x cs h => exact .agg n x cs h.inCells
  | one t x v ht h => exact .one t x v ht h.inCells

def PinAt (A : Nat → Prop) (w W : World) : Prop := ∀ b, A b → W.heap[b]? = w.heap[b]?

open Classical in
noncomputable def Ent.pin (E : Ent) (A : Nat → Prop) (w : World) : Ent := { E with obj := fun b => if A b ∧ E.w0.heap.size ≤ b then w.heap[b]? else E.obj b }

section
variable {E : Ent} {N : Nat} {env : Nat → SV} {mem : Nat → Option Blk} {a : Act} {w : World} {β : Bind} {P : Program} {C : Ctx} {Q Q' : Exit → St → Prop} {st st' : St}

def atData (E : Ent) (w : World) (β : Bind) (b : Nat) : Prop := allow E w β b ∧ isCells w b

theorem SimB.pin (h : SimB E N env mem a w β) : SimB (E.pin (atData E w β) w) N env mem a w β := by
  refine h.remark (E.pin (atData E w β) w) rfl rfl rfl rfl rfl a.defers ⟨fun d hd => ?_, h.defers.nodup, fun b o e => ?_⟩
  · obtain ⟨D, h1, h2, h3, h4, h5⟩ := h.defers.each d hd; refine ⟨D, h1, h2, h3, ?_, h5⟩; refine (if_neg ?_).trans h4; rintro ⟨⟨_, c, e, f, hh⟩, _⟩; rw [h5] at hh; cases hh
  · by_cases hb : atData E w β b ∧ E.w0.heap.size ≤ b
    · rw [show (E.pin (atData E w β) w).obj b = w.heap[b]? from if_pos hb] at e; exact ⟨⟨hb.1.1, hb.2⟩, e⟩
    · rw [show (E.pin (atData E w β) w).obj b = E.obj b from if_neg hb] at e; exact h.defers.objs b o e

theorem SimB.unpin {N' : Nat} {env' : Nat → SV} {mem' : Nat → Option Blk} {a' : Act} {w' : World} {β' : Bind} (h0 : SimB E N env mem a w β) (h : SimB (E.pin (atData E w β) w) N' env' mem' a' w' β') : SimB E N' env' mem' a' w' β' := by
  have key : ∀ b, atData E w β b ∧ E.w0.heap.size ≤ b → (E.pin (atData E w β) w).obj b = w.heap[b]? := fun b hb => if_pos hb; have key2 : ∀ b, ¬ (atData E w β b ∧ E.w0.heap.size ≤ b) → (E.pin (atData E w β) w).obj b = E.obj b := fun b hb => if_neg hb; have := h.remark E rfl rfl rfl rfl rfl a'.defers ⟨fun d hd => ?_, h.defers.nodup, fun b o e => ?_⟩
  · exact this
  · obtain ⟨D, h1, h2, h3, h4, h5⟩ := h.defers.each d hd; refine ⟨D, h1, h2, h3, ?_, h5⟩; by_cases hD : atData E w β D ∧ E.w0.heap.size ≤ D
    · rw [key D hD] at h4; obtain ⟨⟨_, c, e, f, hh⟩, _⟩ := hD; rw [hh] at h4; cases h4
    · rw [key2 D hD] at h4; exact h4
  · by_cases hD : atData E w β b ∧ E.w0.heap.size ≤ b
    · exact h.defers.objs b o (by rw [key b hD]; exact (h0.defers.objs b o e).2)
    · exact h.defers.objs b o (by rw [key2 b hD]; exact e)

theorem SimB.pinned {E' : Ent} {N' : Nat} {env' : Nat → SV} {mem' : Nat → Option Blk} {a' : Act} {w' : World} {β' : Bind} (h0 : SimB E N env mem a w β)
    (ho : ∀ b o, (E.pin (atData E w β) w).obj b = some o → E'.obj b = some o) (e0 : E'.w0 = E.w0) (e1 : E'.A0 = E.A0) (e2 : E'.bs = E.bs) (h : SimB E' N' env' mem' a' w' β') :
    ∀ b, atData E w β b → allow E' w' β' b ∧ w'.heap[b]? = w.heap[b]? := by
  intro b hb; by_cases hn : E.w0.heap.size ≤ b
  · obtain ⟨c, e, f, hh⟩ := hb.2; have := h.defers.objs b (.cells c e f) (ho b _ (by rw [show (E.pin (atData E w β) w).obj b = w.heap[b]? from if_pos ⟨hb, hn⟩]; exact hh)); exact ⟨this.1.1, this.2.trans hh.symm⟩
  · have hA : E.A0 b := by
      rcases hb.1.2.1 with h1 | h1
      · exact h1
      · exact absurd h1 hn
    obtain ⟨h1, h2⟩ := E.wf b hA; have o1 := h.old b (by rw [e0]; exact h1) (by rw [e2]; exact h2); rw [e0] at o1; refine ⟨⟨?_, .inl (by rw [e1]; exact hA), fun i C hi => ?_, ?_⟩, o1.trans (h0.old b h1 h2).symm⟩
    rotate_left 2
    · cases ho : β'.own b with
      | none => rfl
      | some i =>
        have := (h.own b i ho).2.2.1
        rw [e0] at this
        omega
    · have := h.grow
      rw [e0] at this
      omega
    · have := (h.dom i b C hi).2.2
      rw [e2, e0] at this
      rcases this with h3 | h3
      · exact h2 h3
      · omega

theorem capsOf {α : Type} {S : α → St} {E' : Ent} {tg : Nat} {gf : FuncId} {caps : List SV} {cvs : List Value} {ds : List Deferred} {x : α} {β' : Bind} {W : World} (htg' : tg < OFF) (hg : ∀ x, (S x).env tg = .clo gf caps) (hcv : a.tmps.getD tg undef = .func (.func gf) #[] cvs.toArray)
    (h : SimB E' N (S x).env (S x).memf { a with defers := ds } W β') : ∀ (i : Nat) (sv : SV) (v : Value), caps[i]? = some sv → cvs[i]? = some v → RepSV (allow E' W β') W β' (S x).memf sv v := by
  have hsl := h.slot tg; rw [hg x] at hsl
  have e : slotV E' { a with defers := ds } tg = .func (.func gf) #[] cvs.toArray := by
    unfold slotV; rw [if_pos htg']; exact hcv
  rw [e] at hsl; generalize hv : Value.func (.func gf) #[] cvs.toArray = v at hsl
  cases hsl with
  | clo _ _ vs hl hr =>
    simp only [Value.func.injEq, true_and] at hv; have : cvs = vs := by simpa using hv
    subst this
    exact hr

theorem IterOKg.weaken {g : FuncId} {cvs xs : List Value} {K K' : World → Prop} (h : IterOKg P g cvs xs K) (hk : ∀ W, K' W → K W) : IterOKg P g cvs xs K' :=
  fun L J Jx W h1 h2 h3 h4 => h L J Jx W (fun k W1 h => hk W1 (h1 k W1 h)) h2 h3 h4

theorem AW.rangeFuncQ {α : Type} (hro : E.ro = none) {tg p : Nat} {assign body : Code} {gf : FuncId} {gfn : Func} {caps : List SV} (hgf : P.funcs[gf]? = some gfn) (hname : (gfn.name == "runtime.NumGoroutine") = false) (hbody : gfn.body.isSome = true) (hp : Nat.blt p N = true) (htg : Nat.blt tg OFF = true)
    (S : α → St) (R : Nat → α → Prop) (els : List SV)
    (ks ms : List Nat) (hg : ∀ x, (S x).env tg = .clo gf caps) (x0 : α)
    (hit : ∀ (a : Act) (w : World) (β : Bind) (cvs : List Value), SimB E N (S x0).env (S x0).memf a w β → caps.length = cvs.length → (∀ (i : Nat) (sv : SV) (v : Value), caps[i]? = some sv → cvs[i]? = some v → RepSV (allow E w β) w β (S x0).memf sv v) →
      ∃ vals : List Value, els.length = vals.length ∧ IterOKg P gf cvs vals (fun W => PinAt (atData E w β) w W ∧ CapsAt S caps cvs W) ∧ ∀ (k : Nat) (sv : SV) (v : Value), els[k]? = some sv → vals[k]? = some v → ∀ β' mem', RepSV (atData E w β) w β' mem' sv v)
    (hst : st = S x0) (h0 : R 0 x0)
    (round : ∀ k x sv, els[k]? = some sv → R k x → ∀ E', AW P E' N assign (fun e st1 => match e with | .normal => ∀ E'', AW P E'' N body (roundQ Q ks ms S (R (k + 1))) st1 | _ => False) ((S x).round p sv))
    (done : ∀ x, R els.length x → Q .normal (S x)) : AW P E N (.rangeFunc (.tmp tg) #[p] assign body) Q st := by
  rintro a w ⟨β, hs⟩; subst hst; have htg' : tg < OFF := Nat.le_of_ble_eq_true htg
  obtain ⟨cvs, hcl, hcv, hcr⟩ : ∃ cvs : List Value, caps.length = cvs.length ∧ a.tmps.getD tg undef = .func (.func gf) #[] cvs.toArray ∧ ∀ (i : Nat) (sv : SV) (v : Value), caps[i]? = some sv → cvs[i]? = some v → RepSV (allow E w β) w β (S x0).memf sv v := by
    have := hs.slot tg
    rw [hg x0] at this
    unfold slotV at this
    rw [if_pos htg'] at this
    generalize a.tmps.getD tg undef = v at this
    cases this with
    | clo _ _ cvs hl hr => exact ⟨cvs, hl, rfl, hr⟩
  obtain ⟨vals, hlen, hiter, hrep⟩ := hit a w β cvs hs hcl hcr; have hs1 := hs.pin
  have main := rangeFuncK (E := E.pin (atData E w β) w) (P := P) (Q := Q) (show (E.pin (atData E w β) w).ro = none from hro) hgf hname hbody (Nat.le_of_ble_eq_true hp) htg' S R els vals cvs hlen x0 hs1 hcv (fun W => PinAt (atData E w β) w W ∧ CapsAt S caps cvs W)
    (fun E' ds x β' W h1 h2 h3 h4 h => ⟨fun b hb => (hs.pinned h1 h2 h3 h4 h b hb).2, _, x, β', capsOf htg' hg hcv h, h.blk⟩)
    (fun k sv v hk hv E' ds x β' W h1 h2 h3 h4 h => (hrep k sv v hk hv β' (S x).memf).mono (fun b hb => hs.pinned h1 h2 h3 h4 h b hb) (fun i k hk => ⟨k, hk, Nat.le_refl _, fun _ => ⟨k.alike_refl, rfl⟩⟩))
    ks ms hiter h0 round done
  refine wpIn_mono (F := E.fence) main ?_; rintro e a' w' ⟨st', ⟨β', h⟩, hq⟩; exact ⟨st', ⟨β', hs.unpin h⟩, hq⟩

theorem AW.rangeFuncP {α : Type} (hro : E.ro = none) {tg p : Nat} {assign body : Code} {gf : FuncId} {gfn : Func} {caps : List SV} (hgf : P.funcs[gf]? = some gfn) (hname : (gfn.name == "runtime.NumGoroutine") = false) (hbody : gfn.body.isSome = true) (hp : Nat.blt p N = true) (htg : Nat.blt tg OFF = true)
    (S : α → St) (R : Nat → α → Prop) (els : List SV)
    (ks ms : List Nat) (hg : ∀ x, (S x).env tg = .clo gf caps) (x0 : α)
    (hit : ∀ (a : Act) (w : World) (β : Bind) (cvs : List Value), SimB E N (S x0).env (S x0).memf a w β → caps.length = cvs.length → (∀ (i : Nat) (sv : SV) (v : Value), caps[i]? = some sv → cvs[i]? = some v → RepSV (allow E w β) w β (S x0).memf sv v) →
      ∃ vals : List Value, els.length = vals.length ∧ IterOKg P gf cvs vals (PinAt (atData E w β) w) ∧ ∀ (k : Nat) (sv : SV) (v : Value), els[k]? = some sv → vals[k]? = some v → ∀ β' mem', RepSV (atData E w β) w β' mem' sv v)
    (hst : st = S x0) (h0 : R 0 x0)
    (round : ∀ k x sv, els[k]? = some sv → R k x → ∀ E', AW P E' N assign (fun e st1 => match e with | .normal => ∀ E'', AW P E'' N body (roundQ Q ks ms S (R (k + 1))) st1 | _ => False) ((S x).round p sv))
    (done : ∀ x, R els.length x → Q .normal (S x)) : AW P E N (.rangeFunc (.tmp tg) #[p] assign body) Q st := by
  refine AW.rangeFuncQ hro hgf hname hbody hp htg S R els ks ms hg x0 (fun a w β cvs h1 h2 h3 => ?_) hst h0 round done; obtain ⟨vals, h4, h5, h6⟩ := hit a w β cvs h1 h2 h3; exact ⟨vals, h4, h5.weaken fun W h => h.1, h6⟩

theorem els_data {t : Ty} {xs : List t.den} {k : Nat} {sv : SV} (h : (xs.map (SV.data t))[k]? = some sv) : ∃ y, xs.drop k = y :: xs.drop (k + 1) ∧ sv = .data t y ∧ y ∈ xs := by
  rw [List.getElem?_map] at h
  cases hk : xs[k]? with
  | none => rw [hk] at h; cases h
  | some y =>
    rw [hk] at h; obtain ⟨hl, e⟩ := List.getElem?_eq_some_iff.1 hk; refine ⟨y, ?_, (Option.some.inj h).symm, List.mem_of_getElem? hk⟩; rw [List.drop_eq_getElem_cons hl, e]

end
end Go.Am
