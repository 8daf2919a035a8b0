/-
  Am, part D: operations that write nothing.
-/
import Derived.Test.YtdcnkekcdncelaaDoorAmC
import Derived.Laws.StructEq
set_option linter.all false
namespace Go.Am
open List
variable [U : Univ]

omit U in
theorem wrap_in {k : IntKind} {n : Int} (h : inR k n) : k.wrap n = n := by
  obtain ⟨h1, h2⟩ := h; cases k <;> simp [IntKind.min, IntKind.max, IntKind.wrap, IntKind.bits, IntKind.signed] at * <;> omega

omit U in
theorem wrap_range (k : IntKind) (n : Int) : inR k (k.wrap n) := by
  unfold inR; cases k <;> simp [IntKind.min, IntKind.max, IntKind.wrap, IntKind.bits, IntKind.signed] <;> omega

omit U in
theorem bits_range (op : BinOp) (k : IntKind) (a b : Int) : inR k (bits op k a b) := by
  unfold bits; exact wrap_range _ _

theorem Rd.eval_bind {α β : Type} (m : Nat → Option Blk) (x : Rd α) (f : α → Rd β) : (x.bind f).eval m = (x.eval m).bind fun y => (f y).eval m := by
  induction x with
  | ret a => rfl
  | fail => rfl
  | mem i k ih => simp only [Rd.bind, Rd.eval]; exact ih _

theorem Rd.bind_some {α β : Type} {m : Nat → Option Blk} {x : Rd α} {f : α → Rd β} {r : β} (h : (x.bind f).eval m = some r) :
    ∃ y, x.eval m = some y ∧ (f y).eval m = some r := by
  rw [Rd.eval_bind] at h; exact Option.bind_eq_some_iff.1 h

theorem Rd.mem_some {α : Type} {m : Nat → Option Blk} {i : Nat} {k : Option Blk → Rd α} {r : α} (h : (Rd.mem i k).eval m = some r) : (k (m i)).eval m = some r := h

theorem Rd.opt_some {α : Type} {m : Nat → Option Blk} {x : Option α} {r : α} (h : (Rd.opt x).eval m = some r) : x = some r := by
  cases x with
  | some a => simpa [Rd.opt, Rd.eval] using h
  | none => simp [Rd.opt, Rd.eval] at h

def zeroCells : Nat → Ty → List Value
  | _, .int k => [.int k 0]
  | _, .bool => [.bool false]
  | _, .str => [.string ByteArray.empty]
  | _, .slice _ => [.slice none 0 0]
  | f + 1, .named n => (U.tys n).flatMap (zeroCells f)
  | 0, .named _ => []

structure ArrAt (P : Program) (C : Ctx) (T e n : Nat) : Prop where
  pos : 1 ≤ n ∧ n ≤ 4096
  und : P.underlying T = some (.array n e)
  zero : ∃ i z, P.info? T = some i ∧ i.zero = some z ∧ ∀ t, C.ty e = some t → z.cells.toList = (List.replicate n (zeroCells fuel t)).flatten

structure TyOK (P : Program) (C : Ctx) (T : Nat) (t : Ty) : Prop where
  info : ∃ i z, P.info? T = some i ∧ i.size = t.size ∧ i.size ≤ 4096 ∧ i.bytes ≤ 4096 ∧ i.zero = some z ∧ ∀ A w, RepV A w t t.zero z
  und : match t with
    | .int k => P.underlying T = some (.int k)
    | .bool => P.underlying T = some .bool
    | .str => P.underlying T = some .string
    | .slice e => ∃ E, P.underlying T = some (.slice E) ∧ C.ty E = some e
    | .named n => ∃ fs, P.underlying T = some (.struct fs) ∧ fs.size = (U.tys n).length ∧ ∀ f t, (U.tys n)[f]? = some t → ∃ fd, fs[f]? = some fd ∧ C.ty fd.type = some t ∧ fd.offset = offsetOf n f
  zc : ∀ i z, P.info? T = some i → i.zero = some z → z.cells.toList = zeroCells fuel t
  eqs : match t with
    | .named n => U.cmp n = true → P.stoodInHeld T = false ∧ P.eqGuardType P.depth T = false ∧ ((P.fieldsOf T).toList.all fun f => f.name != "_") = true
    | _ => True
  arrs : ∀ B n, findA B U.arrs = some (T, n) → ArrAt P C B T n
  ptrs : ∀ B, findP B U.ptrs = some T → ∃ X, P.underlying B = some (.pointer X)
  ifcs : ∀ B, findP B U.ifcs = some T → ∃ X, P.underlying B = some (.interface X)

def CtxTy (P : Program) (C : Ctx) : Prop := ∀ T t, C.ty T = some t → TyOK P C T t

section
variable {E : Ent} {N : Nat} {env : Nat → SV} {mem : Nat → Option Blk} {a : Act} {w : World} {β : Bind} {P : Program} {C : Ctx}

theorem constSV_rep {A : Nat → Prop} (v : Value) : RepSV A w β mem (constSV v) v := by
  unfold constSV; split
  · split
    · rename_i h; exact .int _ _ h.1 h.2
    · exact .top _
  · exact .bool _
  · split
    · rename_i h; exact .str _ h
    · exact .top _
  · exact .nilsl
  · exact .nilptr
  · exact .err0
  · exact .top _

theorem SimB.peek (h : SimB E N env mem a w β) (t : Nat) : RepSV (allow E w β) w β mem (peek env t) (a.tmps.getD t undef) := by
  unfold Am.peek
  cases hb : Nat.blt t OFF with
  | false => exact .top _
  | true =>
    have hlt : t < OFF := Nat.le_of_ble_eq_true hb; have := h.slot t
    unfold slotV at this
    rw [if_pos hlt] at this
    exact this

theorem opv_rep (h : SimB E N env mem a w β) {x : Operand} {v : SV} {ps : List Prop} (he : opv env x = (v, ps)) (hp : ∀ p ∈ ps, p) :
    RepSV (allow E w β) w β mem v (a.eval x) := by
  cases x with
  | tmp t =>
    have hs := h.peek t; simp only [opv] at he; split at he
    · rename_i p u hu; simp only [Prod.mk.injEq] at he; obtain ⟨rfl, rfl⟩ := he; rw [hu] at hs
      cases hs with
      | cnd _ _ _ h1 h2 => exact h1 (hp p (by simp))
    · simp only [Prod.mk.injEq] at he; obtain ⟨rfl, rfl⟩ := he; exact hs
  | const c =>
    simp only [opv, Prod.mk.injEq] at he; obtain ⟨rfl, rfl⟩ := he; exact constSV_rep c
  | func f =>
    simp only [opv, Prod.mk.injEq] at he; obtain ⟨rfl, rfl⟩ := he; exact .clo f [] [] rfl (by intro i sv v h; simp at h)
  | global g =>
    simp only [opv, Prod.mk.injEq] at he; obtain ⟨rfl, rfl⟩ := he; exact .top _

def putE (env : Nat → SV) (dst : Option Nat) (v : SV) : Nat → SV :=
  match dst with
  | some d => upd env d v
  | none => env

theorem SimB.put (h : SimB E N env mem a w β) {dst : Option Nat} (hd : ∀ d, dst = some d → d < N) {sv : SV} {v : Value}
    (hv : RepSV (allow E w β) w β mem sv v) : SimB E N (putE env dst sv) mem (a.put dst v) w β := by
  cases dst with
  | none => exact h
  | some d =>
    have hlt : d < a.tmps.size := by rw [h.size]; exact hd d rfl
    exact { defers := h.defers, size := by simp [Act.put, h.size], hN := h.hN, os := h.os, tape := h.tape, output := h.output, grow := h.grow, old := h.old, dom := h.dom, inj := h.inj, own := h.own, par := h.par, blk := h.blk,
            slot := fun s => by
              by_cases hs : s = d
              · subst hs; simp only [putE, upd_same]
                have e : slotV E (a.put (some s) v) s = v := by
                  unfold slotV; rw [if_pos (by have := h.hN; have := h.size; omega)]; simp [Act.put, hlt]
                rw [e]; exact hv
              · simp only [putE, upd_ne _ _ hs]
                have e : slotV E (a.put (some d) v) s = slotV E a s := by
                  unfold slotV; simp [Act.put, Array.getElem?_setIfInBounds_ne (Ne.symm hs)]
                rw [e]
                exact h.slot s }

theorem intBin_rep {A : Nat → Prop} {wr : Bool} {op : BinOp} {k k' : IntKind} {n n' : Int} {r : SV} {ob : List Prop} (T : Nat) (h : intBin wr k k' n n' op = some (r, ob)) (hob : ∀ p ∈ ob, p)
    (lo : k.min ≤ n) (hi : n ≤ k.max) : ∃ z, (binOp op T (.int k n) (.int k' n')).run P w = .ok z w ∧ RepSV A w β mem r z := by
  have fit : ∀ {k : IntKind} {m : Int}, inR k m → RepSV A w β mem (.int k m) (.int k m) := fun h => .int _ _ h.1 h.2; (have hmin : k.min ≤ 0 := by cases k <;> decide); have hmax : 0 ≤ k.max := by cases k <;> decide
  have lele' : ∀ {x y : Int}, 0 ≤ x → 0 < y → x % y ≤ x := by
    intro x y hx hy; have h1 := Int.emod_def x y; have h2 := Int.mul_nonneg (Int.le_of_lt hy) (Int.ediv_nonneg hx (Int.le_of_lt hy)); omega
  have lele : ∀ {x y : Int}, 0 ≤ x → x % y ≤ x := by
    intro x y hx; rcases Int.lt_trichotomy y 0 with h3 | h3 | h3
    · rw [← Int.emod_neg]; exact lele' hx (by omega)
    · subst h3; simp
    · exact lele' hx h3
  cases op <;> simp only [intBin] at h
  case shl =>
    split at h <;> simp only [Option.some.injEq, Prod.mk.injEq] at h <;> obtain ⟨rfl, rfl⟩ := h
    · have hb := hob _ (mem_singleton.2 rfl); exact ⟨_, by rw [binOp_shl, shift_shl k k' n n' hb.1 hb.2]; rfl, fit (wrap_range k _)⟩
    · have hb := hob _ (mem_cons_self ..); have hr := hob _ (mem_cons_of_mem _ (mem_singleton.2 rfl)); exact ⟨_, by rw [binOp_shl, shift_shl k k' n n' hb.1 hb.2, wrap_in hr]; rfl, fit hr⟩
  case shr =>
    simp only [Option.some.injEq, Prod.mk.injEq] at h; obtain ⟨rfl, rfl⟩ := h; have hb := hob _ (mem_singleton.2 rfl); refine ⟨_, by rw [binOp_shr, shift_shr k k' n n' hb.1 hb.2]; rfl, ?_⟩; have hpos : (0 : Int) < 2 ^ n'.toNat := Int.pow_pos (by decide); refine .int _ _ ?_ ?_
    · rw [Int.le_ediv_iff_mul_le hpos]
      exact Int.le_trans (by
        have : k.min * 2 ^ n'.toNat ≤ k.min * 1 := Int.mul_le_mul_of_nonpos_left hmin (by omega)
        simpa using this) lo
    · rcases Int.lt_or_le n 0 with hn | hn
      · have := Int.ediv_neg_of_neg_of_pos hn hpos; omega
      · have := Int.ediv_le_self (2 ^ n'.toNat) hn; omega
  all_goals
    split at h
    case isFalse => simp at h
    rename_i hk; subst hk
  case add =>
    split at h <;> simp only [Option.some.injEq, Prod.mk.injEq] at h <;> obtain ⟨rfl, rfl⟩ := h
    · exact ⟨_, by rw [binOp_add]; rfl, fit (wrap_range _ _)⟩
    · have hr := hob _ (mem_singleton.2 rfl); exact ⟨_, by rw [binOp_add]; simp only [Op.intArith, wrap_in hr]; rfl, fit hr⟩
  case sub =>
    split at h <;> simp only [Option.some.injEq, Prod.mk.injEq] at h <;> obtain ⟨rfl, rfl⟩ := h
    · exact ⟨_, by rw [binOp_sub]; rfl, fit (wrap_range _ _)⟩
    · have hr := hob _ (mem_singleton.2 rfl); exact ⟨_, by rw [binOp_sub]; simp only [Op.intArith, wrap_in hr]; rfl, fit hr⟩
  case mul =>
    split at h <;> simp only [Option.some.injEq, Prod.mk.injEq] at h <;> obtain ⟨rfl, rfl⟩ := h
    · exact ⟨_, by rw [binOp_mul]; rfl, fit (wrap_range _ _)⟩
    · have hr := hob _ (mem_singleton.2 rfl); exact ⟨_, by rw [binOp_mul]; simp only [Op.intArith, wrap_in hr]; rfl, fit hr⟩
  case quo =>
    split at h <;> simp only [Option.some.injEq, Prod.mk.injEq] at h <;> obtain ⟨rfl, rfl⟩ := h
    · have hr := hob _ (mem_singleton.2 rfl); exact ⟨_, by rw [binOp_quo]; simp only [Op.intDiv, if_neg hr]; rfl, fit (wrap_range _ _)⟩
    · have hr := hob _ (mem_singleton.2 rfl)
      have hin : inR k' (n / n') := by
        have h1 := Int.ediv_le_self n' hr.1; have h2 := Int.ediv_nonneg hr.1 (Int.le_of_lt hr.2); exact ⟨by omega, by omega⟩
      refine ⟨_, ?_, fit hin⟩; rw [binOp_quo]; simp only [Op.intDiv, if_neg (show ¬ n' = 0 by omega)]; rw [Int.tdiv_eq_ediv_of_nonneg hr.1, wrap_in hin]; rfl
  case rem =>
    split at h <;> simp only [Option.some.injEq, Prod.mk.injEq] at h <;> obtain ⟨rfl, rfl⟩ := h
    · have hr := hob _ (mem_singleton.2 rfl); refine ⟨_, by rw [binOp_rem]; simp only [Op.intDiv, if_neg hr]; rfl, fit ⟨?_, ?_⟩⟩
      · rcases Int.lt_or_le n 0 with hn | hn
        · (have e : n.tmod n' = -((-n).tmod n') := by rw [Int.neg_tmod]; omega); have e2 := Int.tmod_eq_emod_of_nonneg (a := -n) (b := n') (by omega); have := lele (x := -n) (y := n') (by omega); omega
        · have := Int.tmod_nonneg n' hn; omega
      · rcases Int.lt_or_le n 0 with hn | hn
        · (have e : n.tmod n' = -((-n).tmod n') := by rw [Int.neg_tmod]; omega); have := Int.tmod_nonneg (a := -n) n' (by omega); omega
        · have := Int.tmod_eq_emod_of_nonneg hn (b := n'); have := lele (x := n) (y := n') hn; omega
    · have hr := hob _ (mem_singleton.2 rfl)
      have hin : inR k' (n % n') := by
        have h1 := lele' hr.1 hr.2; have h2 := Int.emod_nonneg n (show n' ≠ 0 by omega); exact ⟨by omega, by omega⟩
      refine ⟨_, ?_, fit hin⟩; rw [binOp_rem]; simp only [Op.intDiv, if_neg (show ¬ n' = 0 by omega)]; rw [Int.tmod_eq_emod_of_nonneg hr.1]; rfl
  all_goals
    simp only [Option.some.injEq, Prod.mk.injEq] at h; obtain ⟨rfl, rfl⟩ := h
  case and => exact ⟨_, by rw [binOp_and, intBits_and]; rfl, fit (bits_range _ _ _ _)⟩
  case or => exact ⟨_, by rw [binOp_or, intBits_or]; rfl, fit (bits_range _ _ _ _)⟩
  case xor => exact ⟨_, by rw [binOp_xor, intBits_xor]; rfl, fit (bits_range _ _ _ _)⟩
  case andNot => exact ⟨_, by rw [binOp_andNot, intBits_andNot]; rfl, fit (bits_range _ _ _ _)⟩
  case eql => exact ⟨_, by rw [binOp_eql]; rfl, .bool _⟩
  case neq => exact ⟨_, by rw [binOp_neq]; rfl, .bool _⟩
  case lss => exact ⟨_, by rw [binOp_lss]; rfl, .bool _⟩
  case leq => exact ⟨_, by rw [binOp_leq]; rfl, .bool _⟩
  case gtr => exact ⟨_, by rw [binOp_gtr]; rfl, .bool _⟩
  case geq => exact ⟨_, by rw [binOp_geq]; rfl, .bool _⟩

end
end Go.Am
