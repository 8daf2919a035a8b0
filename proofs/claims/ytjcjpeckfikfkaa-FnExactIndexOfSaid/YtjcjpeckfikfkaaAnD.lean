/-
  An, part D: a nil slice in a variable becomes an array of one's own.
-/
import Derived.Test.YtjcjpeckfikfkaaAnC
set_option linter.all false
namespace Go.Am
variable [U : Univ]

section
variable {E : Ent} {N : Nat} {P : Program} {c : Code} {Q : Exit → St → Prop} {st : St}

end
end Go.Am

namespace Go.Am
variable [U : Univ]
section
variable {C : Ctx} {st : St}

end
end Go.Am

namespace Go.Am
def R64 (x : Int) : Prop := -9223372036854775808 ≤ x ∧ x ≤ 9223372036854775807
def IX (i l : Int) : Prop := 0 ≤ i ∧ i < l
theorem R64.of {x : Int} (h : -9223372036854775808 ≤ x ∧ x ≤ 9223372036854775807) : R64 x := h
theorem IX.of {i l : Int} (h : 0 ≤ i ∧ i < l) : IX i l := h
end Go.Am

namespace Go.Am
class BP (b : Bool) (P N : outParam Prop) : Prop where
  pos : b = true → P
  neg : b = false → N

instance (priority := low) (b : Bool) : BP b (b = true) (b = false) := ⟨id, id⟩
instance (p : Prop) [Decidable p] : BP (decide p) p (¬ p) := ⟨of_decide_eq_true, of_decide_eq_false⟩
instance (a b : Int) : BP (a == b) (a = b) (a ≠ b) := ⟨beq_pos, beq_neg⟩
instance (a b : Int) : BP (a != b) (a ≠ b) (a = b) := ⟨bne_pos, bne_neg⟩
instance (b : Bool) (P N : Prop) [h : BP b P N] : BP (!b) N P := ⟨fun e => h.neg (not_pos e), fun e => h.pos (not_neg e)⟩
instance (c a : Bool) (P N Q M : Prop) [h : BP c P N] [k : BP a Q M] : BP (bif c then a else false) (P ∧ Q) (N ∨ M) := ⟨fun e => (and_pos e).imp h.pos k.pos, fun e => (and_neg e).imp h.neg k.neg⟩
instance (c a : Bool) (P N Q M : Prop) [h : BP c P N] [k : BP a Q M] : BP (bif c then true else a) (P ∨ Q) (N ∧ M) := ⟨fun e => (or_pos e).imp h.pos k.pos, fun e => (or_neg e).imp h.neg k.neg⟩
end Go.Am

namespace Go.Am
variable [U : Univ]
section
variable {P : Program} {E : Ent} {N : Nat} {C : Ctx} {Q : Exit → St → Prop} {st : St} {c : Code} {ops : Array Oper}

theorem AW.r0 (hC : CtxOK P C) {id : Nat} (ks ms : List Nat) (st' : St) (ob : List Prop) (hob : AllP ob) (hq : Q .normal st') (h : Am.region C false [] N ops ks ms st = some (st', ob) := by kernel_rfl) : AW P E N (.region id ops false) Q st :=
  AW.reg hC false [] ks ms st' ob h hob hq

theorem AW.r1 (hC : CtxOK P C) {id : Nat} (ks ms : List Nat) (st' : St) (hq : Q .normal st') (h : Am.region C false [] N ops ks ms st = some (st', []) := by kernel_rfl) : AW P E N (.region id ops false) Q st :=
  AW.reg hC false [] ks ms st' [] h trivial hq

theorem AW.d0 (hC : CtxOK P C) (hm : P.follows .mixedOrders = true) {id : Nat} (ks ms : List Nat) (st' : St) (ob : List Prop) (hob : AllP ob) (hq : Q .normal st') (h : Am.regionAny C false [] N ops ks ms st = some (st', ob) := by kernel_rfl) : AW P E N (.region id ops true) Q st :=
  AW.regD hC hm false [] ks ms st' ob h hob hq

theorem AW.d1 (hC : CtxOK P C) (hm : P.follows .mixedOrders = true) {id : Nat} (ks ms : List Nat) (st' : St) (hq : Q .normal st') (h : Am.regionAny C false [] N ops ks ms st = some (st', []) := by kernel_rfl) : AW P E N (.region id ops true) Q st :=
  AW.regD hC hm false [] ks ms st' [] h trivial hq

theorem AW.kp (ks ms : List Nat) (st' : St) (hc : AW P E N c Q st') (h : Am.keep ks ms st.env st.memf = some st' := by kernel_rfl) : AW P E N c Q st := AW.keep ks ms st' h hc

theorem AW.r0U (hC : CtxOK P C) {id : Nat} (ks ms : List Nat) (s : List (Nat × SV)) (m : List (Nat × Blk)) (ob : List Prop) (hob : AllP ob) (hq : Q .normal (st.up ks ms s m)) (h : Am.region C false [] N ops ks ms st = some (st.up ks ms s m, ob) := by kernel_rfl) : AW P E N (.region id ops false) Q st :=
  AW.reg hC false [] ks ms _ ob h hob hq

theorem AW.r1U (hC : CtxOK P C) {id : Nat} (ks ms : List Nat) (s : List (Nat × SV)) (m : List (Nat × Blk)) (hq : Q .normal (st.up ks ms s m)) (h : Am.region C false [] N ops ks ms st = some (st.up ks ms s m, []) := by kernel_rfl) : AW P E N (.region id ops false) Q st :=
  AW.reg hC false [] ks ms _ [] h trivial hq

theorem AW.d0U (hC : CtxOK P C) (hm : P.follows .mixedOrders = true) {id : Nat} (ks ms : List Nat) (s : List (Nat × SV)) (m : List (Nat × Blk)) (ob : List Prop) (hob : AllP ob) (hq : Q .normal (st.up ks ms s m)) (h : Am.regionAny C false [] N ops ks ms st = some (st.up ks ms s m, ob) := by kernel_rfl) : AW P E N (.region id ops true) Q st :=
  AW.regD hC hm false [] ks ms _ ob h hob hq

theorem AW.kpU (ks ms : List Nat) (s : List (Nat × SV)) (m : List (Nat × Blk)) (hc : AW P E N c Q (st.up ks ms s m)) (h : Am.keep ks ms st.env st.memf = some (st.up ks ms s m) := by kernel_rfl) : AW P E N c Q st := AW.keep ks ms _ h hc

theorem AW.cd {t : Nat} (b : Bool) {x y : Code} (ht : b = true → AW P E N x Q st) (hf : b = false → AW P E N y Q st) (hb : peek st.env t = .bool b := by kernel_rfl) : AW P E N (.cond (.tmp t) x y) Q st := AW.cond hb ht hf

theorem AW.rS (t : Ty) {sp : FnSpec} {vars : List ResultVar} {tvs : List TV} {r v : t.den} (e : r = v) (h : (endOf C st.env sp.ps sp.rs vars).eval st.memf = some ([⟨t, v⟩], []) := by kernel_rfl)
    (hf : sp.fn tvs = [⟨t, r⟩] := by exact rfl) (hg : sp.bx tvs = [] := by exact rfl) : retQ C sp vars tvs .ret st := AW.retE (β := t.den) (fun v => [⟨t, v⟩]) (fun _ => []) e h hf hg

theorem AW.cdE {t : Nat} {b : Bool} {Pr Ne : Prop} [BP b Pr Ne] {α : Type} {r u v : α} {x y : Code} (e : r = bif b then u else v) (ht : Pr → r = u → AW P E N x Q st) (hf : Ne → r = v → AW P E N y Q st) (hb : peek st.env t = .bool b := by kernel_rfl) : AW P E N (.cond (.tmp t) x y) Q st :=
  AW.cond hb (fun h => ht (BP.pos h) (e.trans (by rw [h]; rfl))) (fun h => hf (BP.neg h) (e.trans (by rw [h]; rfl)))

end
end Go.Am
