/-
  An, part O: slices of pointers at variables of the call's own; one round of a loop, unrolled.
-/
import Derived.Test.YtodcdgolcbdkgaaAnM
import Derived.LoopNIn
set_option linter.all false
namespace Go.Am
variable [U : Univ]
attribute [local irreducible] OFF

section
variable {E : Ent} {N : Nat} {P : Program} {ops : Array Oper} {Q : Exit → St → Prop} {st : St} {a : Act} {w : World} {β : Bind} {env : Nat → SV} {mem : Nat → Option Blk}

def AWR (P : Program) (E : Ent) (N : Nat) (c : Code) (Q : Exit → St → Prop) : Nat → St → Prop
  | 0, _ => False
  | m + 1, st => AW P E N c (thenQ (AWR P E N c Q m) Q) st

theorem AWR.step {c : Code} {m : Nat} (h : AW P E N c (thenQ (AWR P E N c Q m) Q) st) : AWR P E N c Q (m + 1) st := h

theorem AWR.rounds {c : Code} : ∀ (m : Nat) {st : St} {a : Act} {w : World}, AWR P E N c Q m st → Sim E N st.env st.memf a w → Code.roundsIn E.fence 0 P c (CQ E N Q) m a w := by
  intro m
  induction m with
  | zero => intro st a w h; exact h.elim
  | succ m ih =>
    intro st a w h hs
    rw [roundsIn_succ]
    refine wpIn_mono (F := E.fence) (h a w hs) ?_
    rintro e a1 w1 ⟨st1, hs1, hq⟩
    cases e with
    | normal => exact ih hq hs1
    | exit id => exact ⟨st1, hs1, hq⟩
    | goto l => exact ⟨st1, hs1, hq⟩
    | ret => exact ⟨st1, hs1, hq⟩
    | panic ch => exact ⟨st1, hs1, hq⟩
    | outgrown => exact ⟨st1, hs1, hq⟩

theorem AW.unroll (m : Nat) {c : Code} (h : AWR P E N c Q m st) : AW P E N (.loop c) Q st := fun _ _ hs => wpIn_loop_rounds m (AWR.rounds m h hs)

theorem AWO.one {i : Nat} {rest : List Nat} {d : Nat} {op : Op} {type : TypeId} {pos : String} {after : Array Edge} {l : List Nat} {sv : SV}
    (hl : l = i :: rest) (ho : ops[i]? = some ⟨some d, op, type, pos, after, none⟩) (hd : dstOK N (some d) = true) (hnd : ∀ c, op ≠ .defer c)
    (hrun : ∀ (a : Act) (w : World) (β : Bind), SimB E N st.env st.memf a w β → ∃ v, (execOp a.eval ⟨some d, op, type, pos, after, none⟩).run P w = .ok (.value v) w ∧ RepSV (allow E w β) w β st.memf sv v)
    (h : AWO P E N ops rest Q ⟨(d, sv) :: st.slots, st.mem⟩) : AWO P E N ops l Q st := by
  rintro a w ⟨β, hs⟩
  subst hl
  have hdN : ∀ d', some d = some d' → d' < N := by
    intro d' e
    cases e
    exact Nat.le_of_ble_eq_true hd
  obtain ⟨v, hr, hv⟩ := hrun a w β hs
  rw [wpOpsIn_cons]
  unfold wpOpIn
  simp only [ho]
  rw [if_pos (by rfl)]
  refine ⟨fun _ _ => trivial, ?_⟩
  rw [Oper.semAt_eq _ _ _ hnd, hr]
  refine h _ _ ⟨β, ?_⟩
  have henv : (⟨(d, sv) :: st.slots, st.mem⟩ : St).env = putE st.env (some d) sv := by
    funext s
    show lookS _ s = _
    simp only [lookS, putE]
    rfl
  rw [henv]
  exact hs.put hdN hv

structure PSl (P : Program) (T e : TypeId) : Prop where
  und : P.underlying T = some (.slice e)
  info : ∃ i z, P.info? e = some i ∧ i.size = 1 ∧ i.zero = some z

theorem AWO.bslLen {T e : TypeId} (hT : PSl P T e) {i : Nat} {rest : List Nat} {d : Nat} {x : Operand} {type : TypeId} {pos : String} {after : Array Edge} {l : List Nat} {id ep off len : Nat}
    (hl : l = i :: rest) (ho : ops[i]? = some ⟨some d, .call ⟨.builtin .len, #[x], #[T]⟩, type, pos, after, none⟩) (hd : dstOK N (some d) = true) (hx : opv st.env x = (.bsl id ep off len, [])) (hb : Nat.ble len 1000 = true)
    (h : AWO P E N ops rest Q ⟨(d, .int .i64 ((len : Nat) : Int)) :: st.slots, st.mem⟩) : AWO P E N ops l Q st := by
  have hb := Nat.le_of_ble_eq_true hb
  refine AWO.one hl ho hd (fun c e => by cases e) (fun a w β hs => ?_) h
  have hxr := opv_rep hs hx (fun p hp => by cases hp)
  generalize hxe : a.eval x = xv at hxr
  cases hxr with
  | bsl _ _ _ _ b cap hle hm hc =>
    refine ⟨.int .i64 ((len : Nat) : Int), ?_, .int _ _ (by show (-9223372036854775808 : Int) ≤ _; omega) (by show _ ≤ (9223372036854775807 : Int); omega)⟩
    have e1 : (Builtin.len_ #[T] type #[.slice (some ⟨b, off, none⟩) len cap]).run P w = .ok (.int .i64 ((len : Nat) : Int)) w := by
      simp [Builtin.len_, run_underlying hT.und, goInt]
    simp only [execOp, resolve, Sem.run_bind, Sem.run_pure, Result.andThen_ok, List.map_toArray, List.map_cons, List.map_nil, hxe]
    simp [invoke, builtin, e1]

theorem AWO.bslAt {T e : TypeId} (hT : PSl P T e) {i : Nat} {rest : List Nat} {d : Nat} {x y : Operand} {type : TypeId} {pos : String} {after : Array Edge} {l : List Nat} {id ep off len k : Nat}
    (hl : l = i :: rest) (ho : ops[i]? = some ⟨some d, .indexAddr T x y, type, pos, after, none⟩) (hd : dstOK N (some d) = true) (hx : opv st.env x = (.bsl id ep off len, [])) (hy : opv st.env y = (.int .i64 ((k : Nat) : Int), [])) (hk : Nat.blt k len = true)
    (h : AWO P E N ops rest Q ⟨(d, .ref id ep (off + k)) :: st.slots, st.mem⟩) : AWO P E N ops l Q st := by
  have hk := Nat.le_of_ble_eq_true hk
  refine AWO.one hl ho hd (fun c e => by cases e) (fun a w β hs => ?_) h
  have hxr := opv_rep hs hx (fun p hp => by cases hp)
  have hyr := opv_rep hs hy (fun p hp => by cases hp)
  generalize hxe : a.eval x = xv at hxr
  generalize hye : a.eval y = yv at hyr
  obtain ⟨z, zz, hi, hsz, hz⟩ := hT.info
  cases hyr with
  | int _ _ lo hi2 =>
  cases hxr with
  | bsl _ _ _ _ b cap hle hm hc =>
    refine ⟨.pointer (some ⟨b, off + k, none⟩), ?_, .ref _ _ _ b hm hc⟩
    have e1 : (Instr.indexAt T (.slice (some ⟨b, off, none⟩) len cap) (.int .i64 ((k : Nat) : Int))).run P w = .ok (.pointer (some ⟨b, off + k, none⟩)) w := by
      have : (0 : Int) ≤ ((k : Nat) : Int) ∧ ((k : Nat) : Int) < ((len : Nat) : Int) := by omega
      simp [Instr.indexAt, run_underlying hT.und, asIntOf, this, sizeOf, typeInfo, hi, hsz, Addr.add_lit]
      intro h'
      omega
    simp [execOp, hxe, hye, e1]

theorem AWO.bslCut {T e : TypeId} (hT : PSl P T e) {i : Nat} {rest : List Nat} {d : Nat} {x y : Operand} {type : TypeId} {pos : String} {after : Array Edge} {l : List Nat} {id ep off len k : Nat}
    (hl : l = i :: rest) (ho : ops[i]? = some ⟨some d, .slice T x none (some y) none, type, pos, after, none⟩) (hd : dstOK N (some d) = true) (hx : opv st.env x = (.bsl id ep off len, [])) (hy : opv st.env y = (.int .i64 ((k : Nat) : Int), [])) (hk : Nat.ble k len = true)
    (h : AWO P E N ops rest Q ⟨(d, .bsl id ep off k) :: st.slots, st.mem⟩) : AWO P E N ops l Q st := by
  have hk := Nat.le_of_ble_eq_true hk
  refine AWO.one hl ho hd (fun c e => by cases e) (fun a w β hs => ?_) h
  have hxr := opv_rep hs hx (fun p hp => by cases hp)
  have hyr := opv_rep hs hy (fun p hp => by cases hp)
  generalize hxe : a.eval x = xv at hxr
  generalize hye : a.eval y = yv at hyr
  obtain ⟨z, zz, hi, hsz, hz⟩ := hT.info
  cases hyr with
  | int _ _ lo hi2 =>
  cases hxr with
  | bsl _ _ _ _ b cap hle hm hc =>
    refine ⟨.slice (some ⟨b, off, none⟩) k cap, ?_, .bsl _ _ _ _ b cap (by omega) hm hc⟩
    have hsz' : (sizeOf e).run P w = .ok 1 w := by simp [sizeOf, typeInfo, hi, hsz]
    have e1 := run_sliceAt (P := P) (w := w) hT.und hsz' (some ⟨b, off, none⟩) len cap none (some (.i64, ((k : Nat) : Int))) 0 k rfl (by simp [loN]) (by simp) (by simp) (Nat.zero_le _) (by omega)
    simp [Addr.add_lit] at e1
    simp [execOp, hxe, hye, e1]

theorem AWO.bslMake {T e : TypeId} (hT : PSl P T e) {i : Nat} {rest : List Nat} {d id : Nat} {x : Operand} {type : TypeId} {pos : String} {after : Array Edge} {l : List Nat} {sv : SV} {i0 ep0 off0 : Nat}
    (hl : l = i :: rest) (ho : ops[i]? = some ⟨some d, .buildSlice T 1 #[(0, x)], type, pos, after, none⟩) (hd : dstOK N (some d) = true) (hx : opv st.env x = (sv, [])) (hsv : sv = .ref i0 ep0 off0) (hm : st.memf id = none)
    (h : AWO P E N ops rest Q ⟨(d, .bsl id 1 0 1) :: st.slots, (id, .box 1 [sv]) :: st.mem⟩) : AWO P E N ops l Q st := by
  rintro a w ⟨β, hs⟩
  subst hl hsv
  have hdN : ∀ d', some d = some d' → d' < N := by
    intro d' e
    cases e
    exact Nat.le_of_ble_eq_true hd
  have hxr := opv_rep hs hx (fun p hp => by cases hp)
  generalize hxe : a.eval x = xv at hxr
  obtain ⟨z, zz, hi, hsz, hz⟩ := hT.info
  have hone : xv.oneCell' = true ∧ xv.cells = #[xv] := by cases hxr; exact ⟨rfl, rfl⟩
  have hsz' : ∀ w, (sizeOf e).run P w = .ok 1 w := fun w => by simp [sizeOf, typeInfo, hi, hsz]
  have hzv : ∀ w, (zeroValue e).run P w = .ok zz w := fun w => by simp [zeroValue, typeInfo, hi, hz]
  have hfill : ∀ zs : Array Value, Instr.fill (fun i => some (i * 1, 1)) ((Array.range (1 * 1)).map (zs[· % zs.size]!)) [(0, xv)] = some #[xv] := by
    intro zs
    have h1 : Array.range (1 * 1) = #[0] := rfl
    rw [h1]
    simp [Instr.fill, hone.2]
  have hrun : (execOp a.eval ⟨some d, .buildSlice T 1 #[(0, x)], type, pos, after, none⟩).run P w = .ok (.value (.slice (some ⟨w.heap.size, 0, none⟩) 1 1)) (w.alloc (.cells #[xv] e)) := by
    have e2 : (Instr.buildSlice T 1 #[(0, xv)]).run P w = .ok (.slice (some ⟨w.heap.size, 0, none⟩) 1 1) (w.alloc (.cells #[xv] e)) := by
      simp only [Instr.buildSlice, Sem.run_bind, run_underlying hT.und, Result.andThen_ok, hsz']
      rw [if_neg (by decide), if_neg (by decide)]
      simp only [Sem.run_bind, Sem.run_pure, hzv, Result.andThen_ok, hfill, run_newRow]
    simp [execOp, hxe, e2]
  rw [wpOpsIn_cons]
  unfold wpOpIn
  simp only [ho]
  rw [if_pos (by rfl)]
  refine ⟨fun _ _ => trivial, ?_⟩
  rw [Oper.semAt_eq _ _ _ (fun c e => by cases e), hrun]
  have h1 := hs.alloc (id := id) (k := .box 1 [.ref i0 ep0 off0]) #[xv] e 1 ⟨by show (1 : Nat) ≠ 0; decide, fun k0 hk0 => by rw [hm] at hk0; cases hk0⟩ (fun w' β' mem' hA hmm hb hh =>
    ⟨w.heap.size, 1, #[xv], e, hb, hh, rfl, fun j sv hj => by
      cases j with
      | zero =>
        obtain rfl := Option.some.inj hj
        exact ⟨xv, rfl, hone.1, hxr.mono hA hmm⟩
      | succ j => cases hj⟩)
  refine h (a.put (some d) (.slice (some ⟨w.heap.size, 0, none⟩) 1 1)) (w.alloc (.cells #[xv] e)) ⟨β.set id (some (w.heap.size, 1)), ?_⟩
  have henv : (⟨(d, .bsl id 1 0 1) :: st.slots, (id, .box 1 [.ref i0 ep0 off0]) :: st.mem⟩ : St).env = putE st.env (some d) (.bsl id 1 0 1) := by
    funext s
    show lookS _ s = _
    simp only [lookS, putE]
    rfl
  have hmemf : (⟨(d, .bsl id 1 0 1) :: st.slots, (id, .box 1 [.ref i0 ep0 off0]) :: st.mem⟩ : St).memf = setm st.memf id (.box 1 [.ref i0 ep0 off0]) := by
    funext y
    show lookM _ y = _
    simp only [lookM, setm]
    rfl
  rw [henv, hmemf]
  refine h1.put hdN (.bsl _ _ _ _ _ 1 (Nat.le_refl _) ⟨_, setm_same _ _ _, Nat.le_refl _⟩ fun cells hc => ⟨1, Bind.set_same _ _ _⟩)

end
end Go.Am
