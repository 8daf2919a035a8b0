/-
  A part of the proof of this claim (AvC): what functions of the program compute, and plain facts of that. No conditions.
-/
import Derived.Test.YtbcgmoaipneoeaaAv8
set_option linter.all false
namespace Go.Proofs.Ytbcgmoaipneoeaa
open Go Go.Am
noncomputable section

def ivalidWidths_l0 (ws : List Int) : Nat → Nat → Unit ⊕ Bool
 | 0, v15 => .inl ()
 | k + 1, v15 => (bif (decide (((v15 : Nat) : Int) < ((List.length ws : Nat) : Int))) then (bif (!(validWidth (List.getD ws v15 0))) then (.inr false) else (ivalidWidths_l0 ws k (v15 + 1))) else (.inl ()))

def ivalidWidths (ws : List Int) : Bool := (bif (bif (decide (((List.length ws : Nat) : Int) < 1)) then true else (decide (4 < ((List.length ws : Nat) : Int)))) then false else (Sum.elim (fun _ => true) (fun r => r) (ivalidWidths_l0 ws ((List.length ws) - 0 + 1) 0)))

def ivalidWidths_sp : FnSpec := mkSpec [.val (.slice (.int .i64))] [.val .bool] (fun (ws : List Int) => True) (fun (ws : List Int) => [⟨.bool, (ivalidWidths ws)⟩])

theorem ivalidWidths_ok : FnOK Try.prog 27 ivalidWidths_sp := by
 have hC : CtxOK Try.prog (mkCtx tyL [(36, validWidth_sp)]) := CtxOK.cons validWidth_ok (CtxOK.nil tyOK)
 refine FnOK.of_body Try.func27 (by kernel_rfl) rfl (C := (mkCtx tyL [(36, validWidth_sp)])) hC.ty (by kernel_rfl) ?_
 intro (ws : List Int) hwf hpre E
 have hpre : True := hpre
 have hw_ws : Wf ⟨(.slice (.int .i64)), (ws : List Int)⟩ := hwf _ (List.Mem.head _)
 have hl_ws : ((List.length ws : Nat) : Int) ≤ 9223372036854775807 := hw_ws.len
 have e0 : ivalidWidths ws = ivalidWidths ws := rfl
 refine AW.seq (AW.r1 hC [0] [] ⟨[(0, sD9 ws)], []⟩ ?_)
 refine AW.seq (AW.seq (AW.r0 hC [0, 12] [] ⟨[(0, sD9 ws), (12, sB (bif (decide (((List.length ws : Nat) : Int) < 1)) then true else (decide (4 < ((List.length ws : Nat) : Int)))))], []⟩ [(((decide (((List.length ws : Nat) : Int) < 1)) = false) → (((decide (((List.length ws : Nat) : Int) < 1)) = false))), (((decide (((List.length ws : Nat) : Int) < 1)) = false) → (((decide (((List.length ws : Nat) : Int) < 1)) = false))), (((decide (((List.length ws : Nat) : Int) < 1)) = false) → (((decide (((List.length ws : Nat) : Int) < 1)) = false)))] ?_ ?_))
 ·
  refine ⟨?_, ?_, ?_, trivial⟩
  ·
   intro g1
   have g1p0 : ¬ (((List.length ws : Nat) : Int) < 1) := (of_decide_eq_false g1)
   first | assumption | exact ⟨by assumption, by assumption⟩
  ·
   intro g2
   have g2p0 : ¬ (((List.length ws : Nat) : Int) < 1) := (of_decide_eq_false g2)
   first | assumption | exact ⟨by assumption, by assumption⟩
  ·
   intro g3
   have g3p0 : ¬ (((List.length ws : Nat) : Int) < 1) := (of_decide_eq_false g3)
   first | assumption | exact ⟨by assumption, by assumption⟩
 refine AW.cd (bif (decide (((List.length ws : Nat) : Int) < 1)) then true else (decide (4 < ((List.length ws : Nat) : Int)))) ?_ ?_
 ·
  intro h4
  have h4q : (((List.length ws : Nat) : Int) < 1) ∨ (4 < ((List.length ws : Nat) : Int)) := (Or.imp (fun h => (of_decide_eq_true h)) (fun h => (of_decide_eq_true h)) (Go.Am.or_pos h4))
  have e5 := e0.trans (Go.Am.bif_t h4)
  refine AW.seq (AW.r1 hC [2] [] ⟨[(2, sB false)], []⟩ ?_)
  exact AW.ret (AW.rB false e5)
 ·
  intro h6
  have h6q : (¬ (((List.length ws : Nat) : Int) < 1)) ∧ (¬ (4 < ((List.length ws : Nat) : Int))) := (And.imp (fun h => (of_decide_eq_false h)) (fun h => (of_decide_eq_false h)) (Go.Am.or_neg h6))
  have e7 := e0.trans (Go.Am.bif_f h6)
  refine AW.kp [0] [] ⟨[(0, sD9 ws)], []⟩ ?_
  refine AW.skip (AW.seq (AW.seq (AW.r1 hC [13, 14, 15] [] ⟨[(13, sD9 ws), (14, sI ((List.length ws : Nat) : Int)), (15, sI 0)], []⟩ ?_)))
  refine AW.cutQ (α := Unit) (fun x => ⟨[], []⟩) (fun x => (True) ∧ (ivalidWidths_l0 ws ((List.length ws) - 0 + 1) 0) = (.inl ())) ?_ ?_
  ·
   skip
   refine AW.block (AW.loop (α := Nat) (fun x => ⟨[(13, sD9 ws), (14, sI ((List.length ws : Nat) : Int)), (15, sI ((x : Nat) : Int))], []⟩) (fun x => (True) ∧ ∃ k, (List.length ws) - x < k ∧ (ivalidWidths_l0 ws ((List.length ws) - 0 + 1) 0) = ivalidWidths_l0 ws k x) (fun x => (List.length ws) - x) 0 (by kernel_rfl) ⟨?_, _, Nat.lt_succ_self _, rfl⟩ ?_)
   ·
    show True
    first | exact trivial | (refine ⟨?_, ?_⟩ <;> first | omega | simp) | omega | simp
   ·
    intro v15 hR
    obtain ⟨hI0, k37, hk35, e36⟩ := hR
    replace hI0 : True := hI0
    replace hk35 : (List.length ws) - v15 < k37 := hk35
    obtain ⟨k37q, rfl⟩ : ∃ k, k37 = k + 1 := ⟨k37 - 1, by omega⟩
    refine AW.seq (AW.r1 hC [13, 14, 15, 16] [] ⟨[(13, sD9 ws), (14, sI ((List.length ws : Nat) : Int)), (15, sI ((v15 : Nat) : Int)), (16, sB (decide (((v15 : Nat) : Int) < ((List.length ws : Nat) : Int))))], []⟩ ?_)
    refine AW.seq (AW.cd (decide (((v15 : Nat) : Int) < ((List.length ws : Nat) : Int))) ?_ ?_)
    ·
     intro h38
     have h38q := (of_decide_eq_true h38)
     have e39 := e36.trans (Go.Am.bif_t h38)
     refine AW.kp [13, 14, 15] [] ⟨[(13, sD9 ws), (14, sI ((List.length ws : Nat) : Int)), (15, sI ((v15 : Nat) : Int))], []⟩ ?_
     refine AW.skip (AW.seq (AW.block (AW.seq (AW.r0 hC [4, 13, 14, 15] [] ⟨[(4, sI (List.getD ws v15 0)), (13, sD9 ws), (14, sI ((List.length ws : Nat) : Int)), (15, sI ((v15 : Nat) : Int))], []⟩ [IX ((v15 : Nat) : Int) ((List.length ws : Nat) : Int)] ?_ ?_))))
     ·
      refine ⟨?_, trivial⟩
      ·
       refine IX.of ?_
       first | omega | (dsimp only; omega) | (simp only [lens] at *; omega)
     refine AW.seq (AW.r0 hC [13, 14, 15, 21] [] ⟨[(13, sD9 ws), (14, sI ((List.length ws : Nat) : Int)), (15, sI ((v15 : Nat) : Int)), (21, sB (!(validWidth (List.getD ws v15 0))))], []⟩ [(True)] ?_ ?_)
     ·
      refine ⟨?_, trivial⟩
      ·
       trivial
     refine AW.cd (!(validWidth (List.getD ws v15 0))) ?_ ?_
     ·
      intro h40
      have h40q := (Go.Am.not_pos h40)
      have e41 := e39.trans (Go.Am.bif_t h40)
      refine AW.seq (AW.r1 hC [2] [] ⟨[(2, sB false)], []⟩ ?_)
      refine AW.ret ?_
      have e42 := e7.trans (Go.Am.elim_r e41)
      exact AW.rB false e42
     ·
      intro h43
      have h43q := (Go.Am.not_neg h43)
      have e44 := e39.trans (Go.Am.bif_f h43)
      refine AW.kp [13, 14, 15] [] ⟨[(13, sD9 ws), (14, sI ((List.length ws : Nat) : Int)), (15, sI ((v15 : Nat) : Int))], []⟩ ?_
      refine AW.skip (AW.r0 hC [13, 14, 15] [] ⟨[(13, sD9 ws), (14, sI ((List.length ws : Nat) : Int)), (15, sI ((v15 + 1 : Nat) : Int))], []⟩ [R64 ((v15 + 1 : Nat) : Int)] ?_ ?_)
      ·
       refine ⟨?_, trivial⟩
       ·
        refine R64.of ?_
        first | omega | (dsimp only; omega) | (simp only [lens] at *; omega)
      refine AW.back (x := v15) (v15 + 1) (by kernel_rfl) ⟨?_, k37q, ?_, e44⟩ ?_
      ·
       show True
       first | assumption | exact trivial | (refine ⟨?_, ?_⟩ <;> first | omega | (simp only [lens] at *; omega)) | omega | (simp only [lens] at *; omega)
      ·
       show (List.length ws) - (v15 + 1) < k37q
       first | omega | (simp only [lens]; omega)
      ·
       show (List.length ws) - (v15 + 1) < (List.length ws) - v15
       first | omega | (simp only [lens]; omega)
    ·
     intro h45
     have h45q := (of_decide_eq_false h45)
     have e46 := e36.trans (Go.Am.bif_f h45)
     refine AW.kp [] [] ⟨[], []⟩ ?_
     refine AW.exit ?_
     refine AW.meet () (by kernel_rfl) ⟨?_, e46⟩
     show True
     first | assumption | exact trivial | omega
  ·
   intro x hR
   obtain ⟨hJ0, e47⟩ := hR
   replace hJ0 : True := hJ0
   have e48 := e7.trans (Go.Am.elim_l e47)
   refine AW.seq (AW.r1 hC [2] [] ⟨[(2, sB true)], []⟩ ?_)
   exact AW.ret (AW.rB true e48)

def validWidths_l0 (ws : List Int) : Nat → Nat → Unit ⊕ Bool
 | 0, i => .inl ()
 | k + 1, i => (bif (decide (((i : Nat) : Int) < ((List.length ws : Nat) : Int))) then (bif (!(inRange (List.getD ws i 0) 1 6)) then (.inr false) else (validWidths_l0 ws k (i + 1))) else (.inl ()))

def validWidths (ws : List Int) : Bool := (Sum.elim (fun _ => (inRange ((List.length ws : Nat) : Int) 1 4)) (fun r => r) (validWidths_l0 ws ((List.length ws) - 0 + 1) 0))

def validWidths_sp : FnSpec := mkSpec [.val (.slice (.int .i64))] [.val .bool] (fun (ws : List Int) => True) (fun (ws : List Int) => [⟨.bool, (validWidths ws)⟩])

theorem validWidths_ok : FnOK Try.prog 24 validWidths_sp := by
 have hC : CtxOK Try.prog (mkCtx tyL [(30, inRange_sp)]) := CtxOK.cons inRange_ok (CtxOK.nil tyOK)
 refine FnOK.of_body Try.func24 (by kernel_rfl) rfl (C := (mkCtx tyL [(30, inRange_sp)])) hC.ty (by kernel_rfl) ?_
 intro (ws : List Int) hwf hpre E
 have hpre : True := hpre
 have hw_ws : Wf ⟨(.slice (.int .i64)), (ws : List Int)⟩ := hwf _ (List.Mem.head _)
 have hl_ws : ((List.length ws : Nat) : Int) ≤ 9223372036854775807 := hw_ws.len
 have e0 : validWidths ws = validWidths ws := rfl
 refine AW.seq (AW.r1 hC [0] [] ⟨[(0, sD9 ws)], []⟩ ?_)
 refine AW.seq (AW.seq (AW.r1 hC [0, 3] [] ⟨[(0, sD9 ws), (3, sI 0)], []⟩ ?_))
 refine AW.cutQ (α := Unit) (fun x => ⟨[(0, sD9 ws)], []⟩) (fun x => (True) ∧ (validWidths_l0 ws ((List.length ws) - 0 + 1) 0) = (.inl ())) ?_ ?_
 ·
  skip
  refine AW.block (AW.loop (α := Nat) (fun x => ⟨[(0, sD9 ws), (3, sI ((x : Nat) : Int))], []⟩) (fun x => (True) ∧ ∃ k, (List.length ws) - x < k ∧ (validWidths_l0 ws ((List.length ws) - 0 + 1) 0) = validWidths_l0 ws k x) (fun x => (List.length ws) - x) 0 (by kernel_rfl) ⟨?_, _, Nat.lt_succ_self _, rfl⟩ ?_)
  ·
   show True
   first | exact trivial | (refine ⟨?_, ?_⟩ <;> first | omega | simp) | omega | simp
  ·
   intro i hR
   obtain ⟨hI0, k30, hk28, e29⟩ := hR
   replace hI0 : True := hI0
   replace hk28 : (List.length ws) - i < k30 := hk28
   obtain ⟨k30q, rfl⟩ : ∃ k, k30 = k + 1 := ⟨k30 - 1, by omega⟩
   refine AW.seq (AW.seq (AW.r1 hC [0, 3, 7] [] ⟨[(0, sD9 ws), (3, sI ((i : Nat) : Int)), (7, sB (decide (((i : Nat) : Int) < ((List.length ws : Nat) : Int))))], []⟩ ?_))
   refine AW.cd (decide (((i : Nat) : Int) < ((List.length ws : Nat) : Int))) ?_ ?_
   ·
    intro h31
    have h31q := (of_decide_eq_true h31)
    have e32 := e29.trans (Go.Am.bif_t h31)
    refine AW.kp [0, 3] [] ⟨[(0, sD9 ws), (3, sI ((i : Nat) : Int))], []⟩ ?_
    refine AW.skip (AW.seq (AW.block (AW.seq (AW.r0 hC [0, 3, 15] [] ⟨[(0, sD9 ws), (3, sI ((i : Nat) : Int)), (15, sB (!(inRange (List.getD ws i 0) 1 6)))], []⟩ [IX ((i : Nat) : Int) ((List.length ws : Nat) : Int), (True)] ?_ ?_))))
    ·
     refine ⟨?_, ?_, trivial⟩
     ·
      refine IX.of ?_
      first | omega | (dsimp only; omega) | (simp only [lens] at *; omega)
     ·
      trivial
    refine AW.cd (!(inRange (List.getD ws i 0) 1 6)) ?_ ?_
    ·
     intro h33
     have h33q := (Go.Am.not_pos h33)
     have e34 := e32.trans (Go.Am.bif_t h33)
     refine AW.seq (AW.r1 hC [2] [] ⟨[(2, sB false)], []⟩ ?_)
     refine AW.ret ?_
     have e35 := e0.trans (Go.Am.elim_r e34)
     exact AW.rB false e35
    ·
     intro h36
     have h36q := (Go.Am.not_neg h36)
     have e37 := e32.trans (Go.Am.bif_f h36)
     refine AW.kp [0, 3] [] ⟨[(0, sD9 ws), (3, sI ((i : Nat) : Int))], []⟩ ?_
     refine AW.skip (AW.r0 hC [0, 3] [] ⟨[(0, sD9 ws), (3, sI ((i + 1 : Nat) : Int))], []⟩ [R64 ((i + 1 : Nat) : Int)] ?_ ?_)
     ·
      refine ⟨?_, trivial⟩
      ·
       refine R64.of ?_
       first | omega | (dsimp only; omega) | (simp only [lens] at *; omega)
     refine AW.back (x := i) (i + 1) (by kernel_rfl) ⟨?_, k30q, ?_, e37⟩ ?_
     ·
      show True
      first | assumption | exact trivial | (refine ⟨?_, ?_⟩ <;> first | omega | (simp only [lens] at *; omega)) | omega | (simp only [lens] at *; omega)
     ·
      show (List.length ws) - (i + 1) < k30q
      first | omega | (simp only [lens]; omega)
     ·
      show (List.length ws) - (i + 1) < (List.length ws) - i
      first | omega | (simp only [lens]; omega)
   ·
    intro h38
    have h38q := (of_decide_eq_false h38)
    have e39 := e29.trans (Go.Am.bif_f h38)
    refine AW.kp [0] [] ⟨[(0, sD9 ws)], []⟩ ?_
    refine AW.exit ?_
    refine AW.meet () (by kernel_rfl) ⟨?_, e39⟩
    show True
    first | assumption | exact trivial | omega
 ·
  intro x hR
  obtain ⟨hJ0, e40⟩ := hR
  replace hJ0 : True := hJ0
  have e41 := e0.trans (Go.Am.elim_l e40)
  refine AW.seq (AW.r0 hC [2] [] ⟨[(2, sB (inRange ((List.length ws : Nat) : Int) 1 4))], []⟩ [(True)] ?_ ?_)
  ·
   refine ⟨?_, trivial⟩
   ·
    trivial
  exact AW.ret (AW.rB (inRange ((List.length ws : Nat) : Int) 1 4) e41)

def partsOfKind_j0 (kind : Int) : Bool :=
 (bif (kind == 2) then (kind == 2) else (kind == 3))

def partsOfKind_j1 (kind : Int) : Bool :=
 (bif (kind == 4) then (kind == 4) else (kind == 5))

def partsOfKind_j2 (kind : Int) : Bool :=
 (bif (kind == 7) then (kind == 7) else (kind == 8))

def partsOfKind (kind : Int) : Int × Int := (bif (kind == 1) then (0, 0) else (Go.Am.andThen (partsOfKind_j0 kind) (fun z => (fun (v7 : Bool) => (bif v7 then (1, 1) else (Go.Am.andThen (partsOfKind_j1 kind) (fun z => (fun (v10 : Bool) => (bif v10 then (1, 2) else (bif (kind == 6) then (0, 2) else (Go.Am.andThen (partsOfKind_j2 kind) (fun z => (fun (v15 : Bool) => (bif v15 then (0, 1) else (0, (-1)))) z))))) z)))) z)))

def partsOfKind_sp : FnSpec := mkSpec [.val (.int .i64)] [.val (.int .i64), .val (.int .i64)] (fun (kind : Int) => True) (fun (kind : Int) => [⟨(.int .i64), ((partsOfKind kind).1)⟩, ⟨(.int .i64), ((partsOfKind kind).2)⟩])

theorem partsOfKind_ok : FnOK Try.prog 37 partsOfKind_sp := by
 have hC : CtxOK Try.prog (mkCtx tyL []) := CtxOK.nil tyOK
 have hM : Try.prog.follows .mixedOrders = true := Try.checked.mixed
 refine FnOK.of_body Try.func37 (by kernel_rfl) rfl (C := (mkCtx tyL [])) hC.ty (by kernel_rfl) ?_
 intro (kind : Int) hwf hpre E
 have hpre : True := hpre
 have hw_kind : Wf ⟨(.int .i64), (kind : Int)⟩ := hwf _ (List.Mem.head _)
 have hr_kind : -9223372036854775808 ≤ kind ∧ kind ≤ 9223372036854775807 := hw_kind.int_inv
 have e0 : partsOfKind kind = partsOfKind kind := rfl
 refine AW.seq (AW.r1 hC [0] [] ⟨[(0, sI kind)], []⟩ ?_)
 refine AW.seq (AW.seq (AW.r1 hC [4] [] ⟨[(4, sI kind)], []⟩ ?_))
 refine AW.block (AW.seq (AW.r1 hC [4, 5] [] ⟨[(4, sI kind), (5, sB (kind == 1))], []⟩ ?_))
 refine AW.cd (kind == 1) ?_ ?_
 ·
  intro h1139
  have h1139q := (Go.Am.beq_pos h1139)
  have e1140 := e0.trans (Go.Am.bif_t h1139)
  refine AW.seq (AW.r1 hC [2, 3] [] ⟨[(2, sI 0), (3, sI 0)], []⟩ ?_)
  exact AW.ret (AW.retE (β := Int × Int) (fun v => [⟨(.int .i64), v.1⟩, ⟨(.int .i64), v.2⟩]) (fun v => []) (v := (0, 0)) e1140 (by kernel_rfl) rfl rfl)
 ·
  intro h1141
  have h1141q := (Go.Am.beq_neg h1141)
  have e1142 := e0.trans (Go.Am.bif_f h1141)
  refine AW.seq (AW.seq (AW.r1 hC [4, 7] [] ⟨[(4, sI kind), (7, sB (kind == 2))], []⟩ ?_))
  refine AW.cutQ (α := Bool) (fun x => ⟨[(4, sI kind), (7, sB x)], []⟩) (fun x => (True) ∧ (partsOfKind_j0 kind) = x) ?_ ?_
  ·
   skip
   have e1151 : (partsOfKind_j0 kind) = (partsOfKind_j0 kind) := rfl
   refine AW.cd (kind == 2) ?_ ?_
   ·
    intro h1152
    have h1152q := (Go.Am.beq_pos h1152)
    have e1153 := e1151.trans (Go.Am.bif_t h1152)
    refine AW.skip ?_
    refine AW.meet (kind == 2) (by kernel_rfl) ⟨?_, e1153⟩
    show True
    first | exact trivial | assumption | omega
   ·
    intro h1154
    have h1154q := (Go.Am.beq_neg h1154)
    have e1155 := e1151.trans (Go.Am.bif_f h1154)
    refine AW.r1 hC [4, 7] [] ⟨[(4, sI kind), (7, sB (kind == 3))], []⟩ ?_
    refine AW.meet (kind == 3) (by kernel_rfl) ⟨?_, e1155⟩
    show True
    first | exact trivial | assumption | omega
  ·
   intro v7 hR
   obtain ⟨hM0, e1156⟩ := hR
   replace hM0 : True := hM0
   have e1157 := e1142.trans (Go.Am.then_eq e1156)
   refine AW.cd v7 ?_ ?_
   ·
    intro h1325
    have h1325q : v7 = true := h1325
    have e1326 := e1157.trans (Go.Am.bif_t h1325)
    refine AW.seq (AW.r1 hC [2, 3] [] ⟨[(2, sI 1), (3, sI 1)], []⟩ ?_)
    exact AW.ret (AW.retE (β := Int × Int) (fun v => [⟨(.int .i64), v.1⟩, ⟨(.int .i64), v.2⟩]) (fun v => []) (v := (1, 1)) e1326 (by kernel_rfl) rfl rfl)
   ·
    intro h1327
    have h1327q : v7 = false := h1327
    have e1328 := e1157.trans (Go.Am.bif_f h1327)
    refine AW.seq (AW.seq (AW.r1 hC [4, 10] [] ⟨[(4, sI kind), (10, sB (kind == 4))], []⟩ ?_))
    refine AW.cutQ (α := Bool) (fun x => ⟨[(4, sI kind), (10, sB x)], []⟩) (fun x => (True) ∧ (partsOfKind_j1 kind) = x) ?_ ?_
    ·
     skip
     have e1337 : (partsOfKind_j1 kind) = (partsOfKind_j1 kind) := rfl
     refine AW.cd (kind == 4) ?_ ?_
     ·
      intro h1338
      have h1338q := (Go.Am.beq_pos h1338)
      have e1339 := e1337.trans (Go.Am.bif_t h1338)
      refine AW.skip ?_
      refine AW.meet (kind == 4) (by kernel_rfl) ⟨?_, e1339⟩
      show True
      first | exact trivial | assumption | omega
     ·
      intro h1340
      have h1340q := (Go.Am.beq_neg h1340)
      have e1341 := e1337.trans (Go.Am.bif_f h1340)
      refine AW.r1 hC [4, 10] [] ⟨[(4, sI kind), (10, sB (kind == 5))], []⟩ ?_
      refine AW.meet (kind == 5) (by kernel_rfl) ⟨?_, e1341⟩
      show True
      first | exact trivial | assumption | omega
    ·
     intro v10 hR
     obtain ⟨hM1, e1342⟩ := hR
     replace hM1 : True := hM1
     have e1343 := e1328.trans (Go.Am.then_eq e1342)
     refine AW.cd v10 ?_ ?_
     ·
      intro h1414
      have h1414q : v10 = true := h1414
      have e1415 := e1343.trans (Go.Am.bif_t h1414)
      refine AW.seq (AW.r1 hC [2, 3] [] ⟨[(2, sI 1), (3, sI 2)], []⟩ ?_)
      exact AW.ret (AW.retE (β := Int × Int) (fun v => [⟨(.int .i64), v.1⟩, ⟨(.int .i64), v.2⟩]) (fun v => []) (v := (1, 2)) e1415 (by kernel_rfl) rfl rfl)
     ·
      intro h1416
      have h1416q : v10 = false := h1416
      have e1417 := e1343.trans (Go.Am.bif_f h1416)
      refine AW.seq (AW.r1 hC [4, 13] [] ⟨[(4, sI kind), (13, sB (kind == 6))], []⟩ ?_)
      refine AW.cd (kind == 6) ?_ ?_
      ·
       intro h1449
       have h1449q := (Go.Am.beq_pos h1449)
       have e1450 := e1417.trans (Go.Am.bif_t h1449)
       refine AW.seq (AW.r1 hC [2, 3] [] ⟨[(2, sI 0), (3, sI 2)], []⟩ ?_)
       exact AW.ret (AW.retE (β := Int × Int) (fun v => [⟨(.int .i64), v.1⟩, ⟨(.int .i64), v.2⟩]) (fun v => []) (v := (0, 2)) e1450 (by kernel_rfl) rfl rfl)
      ·
       intro h1451
       have h1451q := (Go.Am.beq_neg h1451)
       have e1452 := e1417.trans (Go.Am.bif_f h1451)
       refine AW.seq (AW.seq (AW.r1 hC [4, 15] [] ⟨[(4, sI kind), (15, sB (kind == 7))], []⟩ ?_))
       refine AW.cutQ (α := Bool) (fun x => ⟨[(15, sB x)], []⟩) (fun x => (True) ∧ (partsOfKind_j2 kind) = x) ?_ ?_
       ·
        skip
        have e1461 : (partsOfKind_j2 kind) = (partsOfKind_j2 kind) := rfl
        refine AW.cd (kind == 7) ?_ ?_
        ·
         intro h1462
         have h1462q := (Go.Am.beq_pos h1462)
         have e1463 := e1461.trans (Go.Am.bif_t h1462)
         refine AW.kp [15] [] ⟨[(15, sB (kind == 7))], []⟩ ?_
         refine AW.skip ?_
         refine AW.meet (kind == 7) (by kernel_rfl) ⟨?_, e1463⟩
         show True
         first | exact trivial | assumption | omega
        ·
         intro h1464
         have h1464q := (Go.Am.beq_neg h1464)
         have e1465 := e1461.trans (Go.Am.bif_f h1464)
         refine AW.r1 hC [15] [] ⟨[(15, sB (kind == 8))], []⟩ ?_
         refine AW.meet (kind == 8) (by kernel_rfl) ⟨?_, e1465⟩
         show True
         first | exact trivial | assumption | omega
       ·
        intro v15 hR
        obtain ⟨hM2, e1466⟩ := hR
        replace hM2 : True := hM2
        have e1467 := e1452.trans (Go.Am.then_eq e1466)
        refine AW.cd v15 ?_ ?_
        ·
         intro h1473
         have h1473q : v15 = true := h1473
         have e1474 := e1467.trans (Go.Am.bif_t h1473)
         refine AW.seq (AW.r1 hC [2, 3] [] ⟨[(2, sI 0), (3, sI 1)], []⟩ ?_)
         exact AW.ret (AW.retE (β := Int × Int) (fun v => [⟨(.int .i64), v.1⟩, ⟨(.int .i64), v.2⟩]) (fun v => []) (v := (0, 1)) e1474 (by kernel_rfl) rfl rfl)
        ·
         intro h1475
         have h1475q : v15 = false := h1475
         have e1476 := e1467.trans (Go.Am.bif_f h1475)
         refine AW.kp [] [] ⟨[], []⟩ ?_
         refine AW.skip (AW.seq (AW.r1 hC [2, 3] [] ⟨[(2, sI 0), (3, sI (-1))], []⟩ ?_))
         exact AW.ret (AW.retE (β := Int × Int) (fun v => [⟨(.int .i64), v.1⟩, ⟨(.int .i64), v.2⟩]) (fun v => []) (v := (0, (-1))) e1476 (by kernel_rfl) rfl rfl)

def validGroupColumns_l0 (cols : List Int) (width : Int) : Nat → Int → Nat → Unit ⊕ Bool
 | 0, last, v13 => .inl ()
 | k + 1, last, v13 => (bif (decide (((v13 : Nat) : Int) < ((List.length cols : Nat) : Int))) then (bif (bif (decide ((List.getD cols v13 0) ≤ last)) then true else (decide (width ≤ (List.getD cols v13 0)))) then (.inr false) else (validGroupColumns_l0 cols width k (List.getD cols v13 0) (v13 + 1))) else (.inl ()))

def validGroupColumns (cols : List Int) (width : Int) : Bool := (bif (decide (6 ≤ ((List.length cols : Nat) : Int))) then false else (Sum.elim (fun _ => true) (fun r => r) (validGroupColumns_l0 cols width ((List.length cols) - 0 + 1) (-1) 0)))

def validGroupColumns_sp : FnSpec := mkSpec [.val (.slice (.int .i64)), .val (.int .i64)] [.val .bool] (fun (cols : List Int) (width : Int) => True) (fun (cols : List Int) (width : Int) => [⟨.bool, (validGroupColumns cols width)⟩])

theorem validGroupColumns_ok : FnOK Try.prog 41 validGroupColumns_sp := by
 have hC : CtxOK Try.prog (mkCtx tyL []) := CtxOK.nil tyOK
 refine FnOK.of_body Try.func41 (by kernel_rfl) rfl (C := (mkCtx tyL [])) hC.ty (by kernel_rfl) ?_
 intro (cols : List Int) (width : Int) hwf hpre E
 have hpre : True := hpre
 have hw_cols : Wf ⟨(.slice (.int .i64)), (cols : List Int)⟩ := hwf _ (List.Mem.head _)
 have hl_cols : ((List.length cols : Nat) : Int) ≤ 9223372036854775807 := hw_cols.len
 have hw_width : Wf ⟨(.int .i64), (width : Int)⟩ := hwf _ (List.Mem.tail _ (List.Mem.head _))
 have hr_width : -9223372036854775808 ≤ width ∧ width ≤ 9223372036854775807 := hw_width.int_inv
 have e0 : validGroupColumns cols width = validGroupColumns cols width := rfl
 refine AW.seq (AW.r1 hC [0, 1] [] ⟨[(0, sD9 cols), (1, sI width)], []⟩ ?_)
 refine AW.seq (AW.seq (AW.r1 hC [0, 1, 10] [] ⟨[(0, sD9 cols), (1, sI width), (10, sB (decide (6 ≤ ((List.length cols : Nat) : Int))))], []⟩ ?_))
 refine AW.cd (decide (6 ≤ ((List.length cols : Nat) : Int))) ?_ ?_
 ·
  intro h1
  have h1q := (of_decide_eq_true h1)
  have e2 := e0.trans (Go.Am.bif_t h1)
  refine AW.seq (AW.r1 hC [4] [] ⟨[(4, sB false)], []⟩ ?_)
  exact AW.ret (AW.rB false e2)
 ·
  intro h3
  have h3q := (of_decide_eq_false h3)
  have e4 := e0.trans (Go.Am.bif_f h3)
  refine AW.kp [0, 1] [] ⟨[(0, sD9 cols), (1, sI width)], []⟩ ?_
  refine AW.skip (AW.seq (AW.r1 hC [0, 1, 5] [] ⟨[(0, sD9 cols), (1, sI width), (5, sI (-1))], []⟩ ?_))
  refine AW.seq (AW.seq (AW.r1 hC [1, 5, 11, 12, 13] [] ⟨[(1, sI width), (5, sI (-1)), (11, sD9 cols), (12, sI ((List.length cols : Nat) : Int)), (13, sI 0)], []⟩ ?_))
  refine AW.cutQ (α := Unit) (fun x => ⟨[], []⟩) (fun x => (True) ∧ (validGroupColumns_l0 cols width ((List.length cols) - 0 + 1) (-1) 0) = (.inl ())) ?_ ?_
  ·
   skip
   refine AW.block (AW.loop (α := Int × Nat) (fun x => ⟨[(1, sI width), (5, sI x.1), (11, sD9 cols), (12, sI ((List.length cols : Nat) : Int)), (13, sI ((x.2 : Nat) : Int))], []⟩) (fun x => (True) ∧ ∃ k, (List.length cols) - x.2 < k ∧ (validGroupColumns_l0 cols width ((List.length cols) - 0 + 1) (-1) 0) = validGroupColumns_l0 cols width k x.1 x.2) (fun x => (List.length cols) - x.2) ((-1), 0) (by kernel_rfl) ⟨?_, _, Nat.lt_succ_self _, rfl⟩ ?_)
   ·
    show True
    first | exact trivial | (refine ⟨?_, ?_⟩ <;> first | omega | simp) | omega | simp
   ·
    intro x hR
    obtain ⟨last, v13⟩ := x
    obtain ⟨hI0, k34, hk32, e33⟩ := hR
    replace hI0 : True := hI0
    replace hk32 : (List.length cols) - v13 < k34 := hk32
    obtain ⟨k34q, rfl⟩ : ∃ k, k34 = k + 1 := ⟨k34 - 1, by omega⟩
    refine AW.seq (AW.r1 hC [1, 5, 11, 12, 13, 14] [] ⟨[(1, sI width), (5, sI last), (11, sD9 cols), (12, sI ((List.length cols : Nat) : Int)), (13, sI ((v13 : Nat) : Int)), (14, sB (decide (((v13 : Nat) : Int) < ((List.length cols : Nat) : Int))))], []⟩ ?_)
    refine AW.seq (AW.cd (decide (((v13 : Nat) : Int) < ((List.length cols : Nat) : Int))) ?_ ?_)
    ·
     intro h35
     have h35q := (of_decide_eq_true h35)
     have e36 := e33.trans (Go.Am.bif_t h35)
     refine AW.kp [1, 5, 11, 12, 13] [] ⟨[(1, sI width), (5, sI last), (11, sD9 cols), (12, sI ((List.length cols : Nat) : Int)), (13, sI ((v13 : Nat) : Int))], []⟩ ?_
     refine AW.skip (AW.seq (AW.block (AW.seq (AW.r0 hC [1, 5, 7, 11, 12, 13] [] ⟨[(1, sI width), (5, sI last), (7, sI (List.getD cols v13 0)), (11, sD9 cols), (12, sI ((List.length cols : Nat) : Int)), (13, sI ((v13 : Nat) : Int))], []⟩ [IX ((v13 : Nat) : Int) ((List.length cols : Nat) : Int)] ?_ ?_))))
     ·
      refine ⟨?_, trivial⟩
      ·
       refine IX.of ?_
       first | omega | (dsimp only; omega) | (simp only [lens] at *; omega)
     refine AW.seq (AW.seq (AW.r0 hC [1, 7, 11, 12, 13, 24] [] ⟨[(1, sI width), (7, sI (List.getD cols v13 0)), (11, sD9 cols), (12, sI ((List.length cols : Nat) : Int)), (13, sI ((v13 : Nat) : Int)), (24, sB (bif (decide ((List.getD cols v13 0) ≤ last)) then true else (decide (width ≤ (List.getD cols v13 0)))))], []⟩ [(((decide ((List.getD cols v13 0) ≤ last)) = false) → (((decide ((List.getD cols v13 0) ≤ last)) = false))), (((decide ((List.getD cols v13 0) ≤ last)) = false) → (((decide ((List.getD cols v13 0) ≤ last)) = false))), (((decide ((List.getD cols v13 0) ≤ last)) = false) → (((decide ((List.getD cols v13 0) ≤ last)) = false)))] ?_ ?_))
     ·
      refine ⟨?_, ?_, ?_, trivial⟩
      ·
       intro g37
       have g37p0 : ¬ ((List.getD cols v13 0) ≤ last) := (of_decide_eq_false g37)
       first | assumption | exact ⟨by assumption, by assumption⟩
      ·
       intro g38
       have g38p0 : ¬ ((List.getD cols v13 0) ≤ last) := (of_decide_eq_false g38)
       first | assumption | exact ⟨by assumption, by assumption⟩
      ·
       intro g39
       have g39p0 : ¬ ((List.getD cols v13 0) ≤ last) := (of_decide_eq_false g39)
       first | assumption | exact ⟨by assumption, by assumption⟩
     refine AW.cd (bif (decide ((List.getD cols v13 0) ≤ last)) then true else (decide (width ≤ (List.getD cols v13 0)))) ?_ ?_
     ·
      intro h40
      have h40q : ((List.getD cols v13 0) ≤ last) ∨ (width ≤ (List.getD cols v13 0)) := (Or.imp (fun h => (of_decide_eq_true h)) (fun h => (of_decide_eq_true h)) (Go.Am.or_pos h40))
      have e41 := e36.trans (Go.Am.bif_t h40)
      refine AW.seq (AW.r1 hC [4] [] ⟨[(4, sB false)], []⟩ ?_)
      refine AW.ret ?_
      have e42 := e4.trans (Go.Am.elim_r e41)
      exact AW.rB false e42
     ·
      intro h43
      have h43q : (¬ ((List.getD cols v13 0) ≤ last)) ∧ (¬ (width ≤ (List.getD cols v13 0))) := (And.imp (fun h => (of_decide_eq_false h)) (fun h => (of_decide_eq_false h)) (Go.Am.or_neg h43))
      have e44 := e36.trans (Go.Am.bif_f h43)
      refine AW.kp [1, 7, 11, 12, 13] [] ⟨[(1, sI width), (7, sI (List.getD cols v13 0)), (11, sD9 cols), (12, sI ((List.length cols : Nat) : Int)), (13, sI ((v13 : Nat) : Int))], []⟩ ?_
      refine AW.skip (AW.r1 hC [1, 5, 11, 12, 13] [] ⟨[(1, sI width), (5, sI (List.getD cols v13 0)), (11, sD9 cols), (12, sI ((List.length cols : Nat) : Int)), (13, sI ((v13 : Nat) : Int))], []⟩ ?_)
      refine AW.r0 hC [1, 5, 11, 12, 13] [] ⟨[(1, sI width), (5, sI (List.getD cols v13 0)), (11, sD9 cols), (12, sI ((List.length cols : Nat) : Int)), (13, sI ((v13 + 1 : Nat) : Int))], []⟩ [R64 ((v13 + 1 : Nat) : Int)] ?_ ?_
      ·
       refine ⟨?_, trivial⟩
       ·
        refine R64.of ?_
        first | omega | (dsimp only; omega) | (simp only [lens] at *; omega)
      refine AW.back (x := (last, v13)) ((List.getD cols v13 0), v13 + 1) (by kernel_rfl) ⟨?_, k34q, ?_, e44⟩ ?_
      ·
       show True
       first | assumption | exact trivial | (refine ⟨?_, ?_⟩ <;> first | omega | (simp only [lens] at *; omega)) | omega | (simp only [lens] at *; omega)
      ·
       show (List.length cols) - (v13 + 1) < k34q
       first | omega | (simp only [lens]; omega)
      ·
       show (List.length cols) - (v13 + 1) < (List.length cols) - v13
       first | omega | (simp only [lens]; omega)
    ·
     intro h45
     have h45q := (of_decide_eq_false h45)
     have e46 := e33.trans (Go.Am.bif_f h45)
     refine AW.kp [] [] ⟨[], []⟩ ?_
     refine AW.exit ?_
     refine AW.meet () (by kernel_rfl) ⟨?_, e46⟩
     show True
     first | assumption | exact trivial | omega
  ·
   intro x hR
   obtain ⟨hJ0, e47⟩ := hR
   replace hJ0 : True := hJ0
   have e48 := e4.trans (Go.Am.elim_l e47)
   refine AW.seq (AW.r1 hC [4] [] ⟨[(4, sB true)], []⟩ ?_)
   exact AW.ret (AW.rB true e48)

theorem vgc_len {cols : List Int} {w : Int} (h : validGroupColumns cols w = true) : ((List.length cols : Nat) : Int) ≤ 5 := by
 unfold validGroupColumns at h
 by_cases hc : (6 : Int) ≤ ((List.length cols : Nat) : Int)
 ·
  rw [decide_eq_true hc, cond_true] at h
  cases h
 ·
  omega

def widthOver_j0 (p : Pln) : Bool :=
 (bif ((Pln.Kind p) == 4) then ((Pln.Kind p) == 4) else ((Pln.Kind p) == 5))

def widthOver_j1 (p : Pln) (first : Int) (second : Int) : Unit ⊕ Int :=
 (bif ((Pln.Kind p) == 6) then (bif (first != second) then (.inr 0) else (.inl ())) else (bif ((Pln.Kind p) == 8) then (bif (!(validGroupColumns (Pln.Cols p) first)) then (.inr 0) else (.inr (((List.length (Pln.Cols p)) + 1 : Nat) : Int))) else (.inl ())))

def widthOver_j2 (p : Pln) (first : Int) (second : Int) (v14 : Bool) : Int ⊕ Int :=
 (bif v14 then (bif (decide (6 < (first + second))) then (.inr 0) else (.inl (first + second))) else (Sum.elim (fun _ => (.inl first)) (fun r => (.inr r)) (widthOver_j1 p first second)))

def widthOver_l0 (p : Pln) (width : Int) : Nat → Nat → Unit ⊕ Int
 | 0, v47 => .inl ()
 | k + 1, v47 => (bif (decide (((v47 : Nat) : Int) < ((List.length (Pln.Exprs p) : Nat) : Int))) then (bif (!(iValidExpr (List.getD (Pln.Exprs p) v47 Xpr.zero) width)) then (.inr 0) else (widthOver_l0 p width k (v47 + 1))) else (.inl ()))

def widthOver (p : Pln) (first : Int) (second : Int) : Int := (Go.Am.andThen (widthOver_j0 p) (fun z => (fun (v14 : Bool) => (Sum.elim (fun z => (fun (width : Int) => (Sum.elim (fun _ => (bif ((Pln.Kind p) == 3) then ((List.length (Pln.Exprs p) : Nat) : Int) else width)) (fun r => r) (widthOver_l0 p width ((List.length (Pln.Exprs p)) - 0 + 1) 0))) z) (fun r => r) (widthOver_j2 p first second v14))) z))

def widthOver_sp : FnSpec := mkSpec [.rd (.named 2), .val (.int .i64), .val (.int .i64)] [.val (.int .i64)] (fun (p : Pln) (first : Int) (second : Int) => (0 ≤ first ∧ first ≤ 6) ∧ (0 ≤ second ∧ second ≤ 6)) (fun (p : Pln) (first : Int) (second : Int) => [⟨(.int .i64), (widthOver p first second)⟩])

theorem widthOver_ok : FnOK Try.prog 38 widthOver_sp := by
 have hC : CtxOK Try.prog (mkCtx tyL [(41, validGroupColumns_sp), (42, iValidExpr_sp)]) := CtxOK.cons validGroupColumns_ok (CtxOK.cons iValidExpr_ok (CtxOK.nil tyOK))
 have hM : Try.prog.follows .mixedOrders = true := Try.checked.mixed
 refine FnOK.of_body Try.func38 (by kernel_rfl) rfl (C := (mkCtx tyL [(41, validGroupColumns_sp), (42, iValidExpr_sp)])) hC.ty (by kernel_rfl) ?_
 intro (p : Pln) (first : Int) (second : Int) hwf hpre E
 have hpre : (0 ≤ first ∧ first ≤ 6) ∧ (0 ≤ second ∧ second ≤ 6) := hpre
 have hw_p : Wf ⟨(.named 2), (p : Pln)⟩ := hwf _ (List.Mem.head _)
 obtain ⟨hr_p_Kind, hr_p_Table, hl_p_Exprs, hl_p_Cols, hl_p_Kids⟩ := Pln.wfl hw_p
 have hw_first : Wf ⟨(.int .i64), (first : Int)⟩ := hwf _ (List.Mem.tail _ (List.Mem.head _))
 have hr_first : -9223372036854775808 ≤ first ∧ first ≤ 9223372036854775807 := hw_first.int_inv
 have hw_second : Wf ⟨(.int .i64), (second : Int)⟩ := hwf _ (List.Mem.tail _ (List.Mem.tail _ (List.Mem.head _)))
 have hr_second : -9223372036854775808 ≤ second ∧ second ≤ 9223372036854775807 := hw_second.int_inv
 have e0 : widthOver p first second = widthOver p first second := rfl
 refine AW.seq (AW.r1 hC [0, 1, 2] [] ⟨[(0, sR8 p), (1, sI first), (2, sI second)], []⟩ ?_)
 refine AW.seq (AW.r1 hC [0, 1, 2, 7] [] ⟨[(0, sR8 p), (1, sI first), (2, sI second), (7, sI first)], []⟩ ?_)
 refine AW.seq (AW.seq (AW.r1 hC [0, 1, 2, 7, 13] [] ⟨[(0, sR8 p), (1, sI first), (2, sI second), (7, sI first), (13, sI (Pln.Kind p))], []⟩ ?_))
 refine AW.block (AW.seq (AW.seq (AW.r1 hC [0, 1, 2, 7, 13, 14] [] ⟨[(0, sR8 p), (1, sI first), (2, sI second), (7, sI first), (13, sI (Pln.Kind p)), (14, sB ((Pln.Kind p) == 4))], []⟩ ?_)))
 refine AW.cutQ (α := Bool) (fun x => ⟨[(0, sR8 p), (1, sI first), (2, sI second), (7, sI first), (13, sI (Pln.Kind p)), (14, sB x)], []⟩) (fun x => (True) ∧ (widthOver_j0 p) = x) ?_ ?_
 ·
  skip
  have e681 : (widthOver_j0 p) = (widthOver_j0 p) := rfl
  refine AW.cd ((Pln.Kind p) == 4) ?_ ?_
  ·
   intro h682
   have h682q := (Go.Am.beq_pos h682)
   have e683 := e681.trans (Go.Am.bif_t h682)
   refine AW.skip ?_
   refine AW.meet ((Pln.Kind p) == 4) (by kernel_rfl) ⟨?_, e683⟩
   show True
   first | exact trivial | assumption | omega
  ·
   intro h684
   have h684q := (Go.Am.beq_neg h684)
   have e685 := e681.trans (Go.Am.bif_f h684)
   refine AW.r1 hC [0, 1, 2, 7, 13, 14] [] ⟨[(0, sR8 p), (1, sI first), (2, sI second), (7, sI first), (13, sI (Pln.Kind p)), (14, sB ((Pln.Kind p) == 5))], []⟩ ?_
   refine AW.meet ((Pln.Kind p) == 5) (by kernel_rfl) ⟨?_, e685⟩
   show True
   first | exact trivial | assumption | omega
 ·
  intro v14 hR
  obtain ⟨hM0, e686⟩ := hR
  replace hM0 : True := hM0
  have e687 := e0.trans (Go.Am.then_eq e686)
  refine AW.cutQ (α := Int) (fun x => ⟨[(0, sR8 p), (7, sI x)], []⟩) (fun x => (True) ∧ (widthOver_j2 p first second v14) = (.inl x)) ?_ ?_
  ·
   skip
   have e1072 : (widthOver_j2 p first second v14) = (widthOver_j2 p first second v14) := rfl
   refine AW.cd v14 ?_ ?_
   ·
    intro h1073
    have h1073q : v14 = true := h1073
    have e1074 := e1072.trans (Go.Am.bif_t h1073)
    refine AW.seq (AW.r0 hC [0, 7] [] ⟨[(0, sR8 p), (7, sI (first + second))], []⟩ [R64 (first + second)] ?_ ?_)
    ·
     refine ⟨?_, trivial⟩
     ·
      refine R64.of ?_
      first | omega | (dsimp only; omega) | (simp only [lens] at *; omega)
    refine AW.seq (AW.r1 hC [0, 7, 21] [] ⟨[(0, sR8 p), (7, sI (first + second)), (21, sB (decide (6 < (first + second))))], []⟩ ?_)
    refine AW.cd (decide (6 < (first + second))) ?_ ?_
    ·
     intro h1081
     have h1081q := (of_decide_eq_true h1081)
     have e1082 := e1074.trans (Go.Am.bif_t h1081)
     refine AW.seq (AW.r1 hC [6] [] ⟨[(6, sI 0)], []⟩ ?_)
     refine AW.ret ?_
     have e1083 := e687.trans (Go.Am.elim_r e1082)
     exact AW.rI 0 e1083
    ·
     intro h1084
     have h1084q := (of_decide_eq_false h1084)
     have e1085 := e1074.trans (Go.Am.bif_f h1084)
     refine AW.kp [0, 7] [] ⟨[(0, sR8 p), (7, sI (first + second))], []⟩ ?_
     refine AW.skip ?_
     refine AW.meet (first + second) (by kernel_rfl) ⟨?_, e1085⟩
     show True
     first | exact trivial | assumption | omega
   ·
    intro h1086
    have h1086q : v14 = false := h1086
    have e1087 := e1072.trans (Go.Am.bif_f h1086)
    refine AW.seq (AW.r1 hC [0, 1, 2, 7, 13, 22] [] ⟨[(0, sR8 p), (1, sI first), (2, sI second), (7, sI first), (13, sI (Pln.Kind p)), (22, sB ((Pln.Kind p) == 6))], []⟩ ?_)
    refine AW.cutQ (α := Unit) (fun x => ⟨[(0, sR8 p), (7, sI first)], []⟩) (fun x => (True) ∧ (widthOver_j1 p first second) = (.inl ())) ?_ ?_
    ·
     skip
     have e1204 : (widthOver_j1 p first second) = (widthOver_j1 p first second) := rfl
     refine AW.cd ((Pln.Kind p) == 6) ?_ ?_
     ·
      intro h1205
      have h1205q := (Go.Am.beq_pos h1205)
      have e1206 := e1204.trans (Go.Am.bif_t h1205)
      refine AW.seq (AW.r1 hC [0, 7, 26] [] ⟨[(0, sR8 p), (7, sI first), (26, sB (first != second))], []⟩ ?_)
      refine AW.cd (first != second) ?_ ?_
      ·
       intro h1214
       have h1214q := (Go.Am.bne_pos h1214)
       have e1215 := e1206.trans (Go.Am.bif_t h1214)
       refine AW.seq (AW.r1 hC [6] [] ⟨[(6, sI 0)], []⟩ ?_)
       refine AW.ret ?_
       have e1216 := e1087.trans (Go.Am.elim_r e1215)
       have e1217 := e687.trans (Go.Am.elim_r e1216)
       exact AW.rI 0 e1217
      ·
       intro h1218
       have h1218q := (Go.Am.bne_neg h1218)
       have e1219 := e1206.trans (Go.Am.bif_f h1218)
       refine AW.kp [0, 7] [] ⟨[(0, sR8 p), (7, sI first)], []⟩ ?_
       refine AW.skip ?_
       refine AW.meet () (by kernel_rfl) ⟨?_, e1219⟩
       show True
       first | exact trivial | assumption | omega
     ·
      intro h1220
      have h1220q := (Go.Am.beq_neg h1220)
      have e1221 := e1204.trans (Go.Am.bif_f h1220)
      refine AW.seq (AW.r1 hC [0, 7, 27] [] ⟨[(0, sR8 p), (7, sI first), (27, sB ((Pln.Kind p) == 8))], []⟩ ?_)
      refine AW.cd ((Pln.Kind p) == 8) ?_ ?_
      ·
       intro h1244
       have h1244q := (Go.Am.beq_pos h1244)
       have e1245 := e1221.trans (Go.Am.bif_t h1244)
       refine AW.seq (AW.seq (AW.r0 hC [0, 35] [] ⟨[(0, sR8 p), (35, sB (!(validGroupColumns (Pln.Cols p) first)))], []⟩ [(True)] ?_ ?_))
       ·
        refine ⟨?_, trivial⟩
        ·
         trivial
       refine AW.cd (!(validGroupColumns (Pln.Cols p) first)) ?_ ?_
       ·
        intro h1253
        have h1253q := (Go.Am.not_pos h1253)
        have e1254 := e1245.trans (Go.Am.bif_t h1253)
        refine AW.seq (AW.r1 hC [6] [] ⟨[(6, sI 0)], []⟩ ?_)
        refine AW.ret ?_
        have e1255 := e1087.trans (Go.Am.elim_r e1254)
        have e1256 := e687.trans (Go.Am.elim_r e1255)
        exact AW.rI 0 e1256
       ·
        intro h1257
        have h1257q := (Go.Am.not_neg h1257)
        have e1258 := e1245.trans (Go.Am.bif_f h1257)
        refine AW.kp [0] [] ⟨[(0, sR8 p)], []⟩ ?_
        refine AW.skip (AW.seq (AW.r0 hC [6] [] ⟨[(6, sI (((List.length (Pln.Cols p)) + 1 : Nat) : Int))], []⟩ [R64 (((List.length (Pln.Cols p)) + 1 : Nat) : Int)] ?_ ?_))
        ·
         refine ⟨?_, trivial⟩
         ·
          refine R64.of ?_
          have := vgc_len (by first | exact h1257q | exact h1244q)
          omega
        refine AW.ret ?_
        have e1259 := e1087.trans (Go.Am.elim_r e1258)
        have e1260 := e687.trans (Go.Am.elim_r e1259)
        exact AW.rI (((List.length (Pln.Cols p)) + 1 : Nat) : Int) e1260
      ·
       intro h1261
       have h1261q := (Go.Am.beq_neg h1261)
       have e1262 := e1221.trans (Go.Am.bif_f h1261)
       refine AW.kp [0, 7] [] ⟨[(0, sR8 p), (7, sI first)], []⟩ ?_
       refine AW.skip ?_
       refine AW.meet () (by kernel_rfl) ⟨?_, e1262⟩
       show True
       first | exact trivial | assumption | omega
    ·
     intro x hR
     obtain ⟨hM1, e1263⟩ := hR
     replace hM1 : True := hM1
     have e1264 := e1087.trans (Go.Am.elim_l e1263)
     refine AW.meet first (by kernel_rfl) ⟨?_, e1264⟩
     show True
     first | exact trivial | assumption | omega
  ·
   intro width hR
   obtain ⟨hM2, e1265⟩ := hR
   replace hM2 : True := hM2
   have e1266 := e687.trans (Go.Am.elim_l e1265)
   refine AW.seq (AW.seq (AW.r1 hC [0, 7, 46, 47] [] ⟨[(0, sR8 p), (7, sI width), (46, sI ((List.length (Pln.Exprs p) : Nat) : Int)), (47, sI 0)], []⟩ ?_))
   refine AW.cutQ (α := Unit) (fun x => ⟨[(0, sR8 p), (7, sI width)], []⟩) (fun x => (True) ∧ (widthOver_l0 p width ((List.length (Pln.Exprs p)) - 0 + 1) 0) = (.inl ())) ?_ ?_
   ·
    skip
    refine AW.block (AW.loop (α := Nat) (fun x => ⟨[(0, sR8 p), (7, sI width), (46, sI ((List.length (Pln.Exprs p) : Nat) : Int)), (47, sI ((x : Nat) : Int))], []⟩) (fun x => (True) ∧ ∃ k, (List.length (Pln.Exprs p)) - x < k ∧ (widthOver_l0 p width ((List.length (Pln.Exprs p)) - 0 + 1) 0) = widthOver_l0 p width k x) (fun x => (List.length (Pln.Exprs p)) - x) 0 (by kernel_rfl) ⟨?_, _, Nat.lt_succ_self _, rfl⟩ ?_)
    ·
     show True
     first | exact trivial | (refine ⟨?_, ?_⟩ <;> first | omega | simp) | omega | simp
    ·
     intro v47 hR
     obtain ⟨hI0, k1365, hk1363, e1364⟩ := hR
     replace hI0 : True := hI0
     replace hk1363 : (List.length (Pln.Exprs p)) - v47 < k1365 := hk1363
     obtain ⟨k1365q, rfl⟩ : ∃ k, k1365 = k + 1 := ⟨k1365 - 1, by omega⟩
     refine AW.seq (AW.r1 hC [0, 7, 46, 47, 48] [] ⟨[(0, sR8 p), (7, sI width), (46, sI ((List.length (Pln.Exprs p) : Nat) : Int)), (47, sI ((v47 : Nat) : Int)), (48, sB (decide (((v47 : Nat) : Int) < ((List.length (Pln.Exprs p) : Nat) : Int))))], []⟩ ?_)
     refine AW.seq (AW.cd (decide (((v47 : Nat) : Int) < ((List.length (Pln.Exprs p) : Nat) : Int))) ?_ ?_)
     ·
      intro h1370
      have h1370q := (of_decide_eq_true h1370)
      have e1371 := e1364.trans (Go.Am.bif_t h1370)
      refine AW.kp [0, 7, 46, 47] [] ⟨[(0, sR8 p), (7, sI width), (46, sI ((List.length (Pln.Exprs p) : Nat) : Int)), (47, sI ((v47 : Nat) : Int))], []⟩ ?_
      refine AW.skip (AW.seq (AW.block (AW.seq (AW.r1 hC [0, 7, 8, 46, 47] [] ⟨[(0, sR8 p), (7, sI width), (8, sI ((v47 : Nat) : Int)), (46, sI ((List.length (Pln.Exprs p) : Nat) : Int)), (47, sI ((v47 : Nat) : Int))], []⟩ ?_))))
      refine AW.seq (AW.r0 hC [0, 7, 46, 47, 59] [] ⟨[(0, sR8 p), (7, sI width), (46, sI ((List.length (Pln.Exprs p) : Nat) : Int)), (47, sI ((v47 : Nat) : Int)), (59, sB (!(iValidExpr (List.getD (Pln.Exprs p) v47 Xpr.zero) width)))], []⟩ [IX ((v47 : Nat) : Int) ((List.length (Pln.Exprs p) : Nat) : Int), (True)] ?_ ?_)
      ·
       refine ⟨?_, ?_, trivial⟩
       ·
        refine IX.of ?_
        first | omega | (dsimp only; omega) | (simp only [lens] at *; omega)
       ·
        trivial
      refine AW.cd (!(iValidExpr (List.getD (Pln.Exprs p) v47 Xpr.zero) width)) ?_ ?_
      ·
       intro h1391
       have h1391q := (Go.Am.not_pos h1391)
       have e1392 := e1371.trans (Go.Am.bif_t h1391)
       refine AW.seq (AW.r1 hC [6] [] ⟨[(6, sI 0)], []⟩ ?_)
       refine AW.ret ?_
       have e1393 := e1266.trans (Go.Am.elim_r e1392)
       exact AW.rI 0 e1393
      ·
       intro h1394
       have h1394q := (Go.Am.not_neg h1394)
       have e1395 := e1371.trans (Go.Am.bif_f h1394)
       refine AW.kp [0, 7, 46, 47] [] ⟨[(0, sR8 p), (7, sI width), (46, sI ((List.length (Pln.Exprs p) : Nat) : Int)), (47, sI ((v47 : Nat) : Int))], []⟩ ?_
       refine AW.skip (AW.r0 hC [0, 7, 46, 47] [] ⟨[(0, sR8 p), (7, sI width), (46, sI ((List.length (Pln.Exprs p) : Nat) : Int)), (47, sI ((v47 + 1 : Nat) : Int))], []⟩ [R64 ((v47 + 1 : Nat) : Int)] ?_ ?_)
       ·
        refine ⟨?_, trivial⟩
        ·
         refine R64.of ?_
         first | omega | (dsimp only; omega) | (simp only [lens] at *; omega)
       refine AW.back (x := v47) (v47 + 1) (by kernel_rfl) ⟨?_, k1365q, ?_, e1395⟩ ?_
       ·
        show True
        first | assumption | exact trivial | (refine ⟨?_, ?_⟩ <;> first | omega | (simp only [lens] at *; omega)) | omega | (simp only [lens] at *; omega)
       ·
        show (List.length (Pln.Exprs p)) - (v47 + 1) < k1365q
        first | omega | (simp only [lens]; omega)
       ·
        show (List.length (Pln.Exprs p)) - (v47 + 1) < (List.length (Pln.Exprs p)) - v47
        first | omega | (simp only [lens]; omega)
     ·
      intro h1396
      have h1396q := (of_decide_eq_false h1396)
      have e1397 := e1364.trans (Go.Am.bif_f h1396)
      refine AW.kp [0, 7] [] ⟨[(0, sR8 p), (7, sI width)], []⟩ ?_
      refine AW.exit ?_
      refine AW.meet () (by kernel_rfl) ⟨?_, e1397⟩
      show True
      first | assumption | exact trivial | omega
   ·
    intro x hR
    obtain ⟨hJ0, e1398⟩ := hR
    replace hJ0 : True := hJ0
    have e1399 := e1266.trans (Go.Am.elim_l e1398)
    refine AW.seq (AW.seq (AW.r1 hC [0, 7, 65] [] ⟨[(0, sR8 p), (7, sI width), (65, sB ((Pln.Kind p) == 3))], []⟩ ?_))
    refine AW.cd ((Pln.Kind p) == 3) ?_ ?_
    ·
     intro h1405
     have h1405q := (Go.Am.beq_pos h1405)
     have e1406 := e1399.trans (Go.Am.bif_t h1405)
     refine AW.seq (AW.r1 hC [6] [] ⟨[(6, sI ((List.length (Pln.Exprs p) : Nat) : Int))], []⟩ ?_)
     exact AW.ret (AW.rI ((List.length (Pln.Exprs p) : Nat) : Int) e1406)
    ·
     intro h1407
     have h1407q := (Go.Am.beq_neg h1407)
     have e1408 := e1399.trans (Go.Am.bif_f h1407)
     refine AW.kp [7] [] ⟨[(7, sI width)], []⟩ ?_
     refine AW.skip (AW.seq (AW.r1 hC [6] [] ⟨[(6, sI width)], []⟩ ?_))
     exact AW.ret (AW.rI width e1408)

def onlyFields_j0 (p : Pln) : Bool :=
 (bif ((Pln.Kind p) == 4) then ((Pln.Kind p) == 4) else ((Pln.Kind p) == 5))

def onlyFields_j1 (p : Pln) : Nat :=
 (bif ((Pln.Kind p) == 3) then List.length (Pln.Exprs p) else 0)

def onlyFields_j2 (p : Pln) : Nat :=
 (bif ((Pln.Kind p) == 2) then 1 else (Go.Am.andThen (onlyFields_j1 p) (fun z => (fun (exprs : Nat) => exprs) z)))

def onlyFields_j3 (p : Pln) : Nat × Nat :=
 (bif ((Pln.Kind p) == 6) then (2, 0) else (Go.Am.andThen (onlyFields_j2 p) (fun z => (fun (exprs : Nat) => (1, exprs)) z)))

def onlyFields_j4 (p : Pln) (v9 : Bool) : Nat × Nat :=
 (bif v9 then (2, 1) else (Go.Am.andThen (onlyFields_j3 p) (fun z => (fun (kids : Nat) (exprs : Nat) => (kids, exprs)) z.1 z.2)))

def onlyFields_j5 (p : Pln) : Nat × Nat :=
 (bif ((Pln.Kind p) == 1) then (0, 0) else (Go.Am.andThen (onlyFields_j0 p) (fun z => (fun (v9 : Bool) => (Go.Am.andThen (onlyFields_j4 p v9) (fun z => (fun (kids : Nat) (exprs : Nat) => (kids, exprs)) z.1 z.2))) z)))

def onlyFields (p : Pln) : Bool := (Go.Am.andThen (onlyFields_j5 p) (fun z => (fun (kids : Nat) (exprs : Nat) => (bif (bif (bif (bif (inRange (Pln.Kind p) 1 8) then (((List.length (Pln.Kids p) : Nat) : Int) == ((kids : Nat) : Int)) else false) then (((List.length (Pln.Exprs p) : Nat) : Int) == ((exprs : Nat) : Int)) else false) then (bif ((Pln.Table p) == 0) then true else ((Pln.Kind p) == 1)) else false) then (bif (((List.length (Pln.Cols p) : Nat) : Int) == 0) then true else ((Pln.Kind p) == 8)) else false)) z.1 z.2))

def onlyFields_sp : FnSpec := mkSpec [.val (.named 2)] [.val .bool] (fun (p : Pln) => True) (fun (p : Pln) => [⟨.bool, (onlyFields p)⟩])

theorem onlyFields_ok : FnOK Try.prog 31 onlyFields_sp := by
 have hC : CtxOK Try.prog (mkCtx tyL [(30, inRange_sp)]) := CtxOK.cons inRange_ok (CtxOK.nil tyOK)
 have hM : Try.prog.follows .mixedOrders = true := Try.checked.mixed
 refine FnOK.of_body Try.func31 (by kernel_rfl) rfl (C := (mkCtx tyL [(30, inRange_sp)])) hC.ty (by kernel_rfl) ?_
 intro (p : Pln) hwf hpre E
 have hpre : True := hpre
 have hw_p : Wf ⟨(.named 2), (p : Pln)⟩ := hwf _ (List.Mem.head _)
 obtain ⟨hr_p_Kind, hr_p_Table, hl_p_Exprs, hl_p_Cols, hl_p_Kids⟩ := Pln.wfl hw_p
 have e0 : onlyFields p = onlyFields p := rfl
 refine AW.seq (AW.r1 hC [1] [4] ⟨[(1, .ref 4 1 0)], [(4, .box 1 [sI (Pln.Kind p), sI (Pln.Table p), sD10 (Pln.Exprs p), sD9 (Pln.Cols p), sD11 (Pln.Kids p)])]⟩ ?_)
 refine AW.seq (AW.r1 hC [1, 3] [4] ⟨[(1, .ref 4 1 0), (3, sI 1)], [(4, .box 1 [sI (Pln.Kind p), sI (Pln.Table p), sD10 (Pln.Exprs p), sD9 (Pln.Cols p), sD11 (Pln.Kids p)])]⟩ ?_)
 refine AW.seq (AW.r1 hC [1, 3, 4] [4] ⟨[(1, .ref 4 1 0), (3, sI 1), (4, sI 0)], [(4, .box 1 [sI (Pln.Kind p), sI (Pln.Table p), sD10 (Pln.Exprs p), sD9 (Pln.Cols p), sD11 (Pln.Kids p)])]⟩ ?_)
 refine AW.seq (AW.seq (AW.r1 hC [1, 3, 4, 6] [4] ⟨[(1, .ref 4 1 0), (3, sI 1), (4, sI 0), (6, sI (Pln.Kind p))], [(4, .box 1 [sI (Pln.Kind p), sI (Pln.Table p), sD10 (Pln.Exprs p), sD9 (Pln.Cols p), sD11 (Pln.Kids p)])]⟩ ?_))
 refine AW.block (AW.seq (AW.r1 hC [1, 3, 4, 6, 7] [4] ⟨[(1, .ref 4 1 0), (3, sI 1), (4, sI 0), (6, sI (Pln.Kind p)), (7, sB ((Pln.Kind p) == 1))], [(4, .box 1 [sI (Pln.Kind p), sI (Pln.Table p), sD10 (Pln.Exprs p), sD9 (Pln.Cols p), sD11 (Pln.Kids p)])]⟩ ?_))
 refine AW.cutQ (α := Nat × Nat) (fun x => ⟨[(1, .ref 4 1 0), (3, sI ((x.1 : Nat) : Int)), (4, sI ((x.2 : Nat) : Int))], [(4, .box 1 [sI (Pln.Kind p), sI (Pln.Table p), sD10 (Pln.Exprs p), sD9 (Pln.Cols p), sD11 (Pln.Kids p)])]⟩) (fun x => (True) ∧ (onlyFields_j5 p) = x) ?_ ?_
 ·
  skip
  have e3099 : (onlyFields_j5 p) = (onlyFields_j5 p) := rfl
  refine AW.cd ((Pln.Kind p) == 1) ?_ ?_
  ·
   intro h3100
   have h3100q := (Go.Am.beq_pos h3100)
   have e3101 := e3099.trans (Go.Am.bif_t h3100)
   refine AW.r1 hC [1, 3, 4] [4] ⟨[(1, .ref 4 1 0), (3, sI 0), (4, sI 0)], [(4, .box 1 [sI (Pln.Kind p), sI (Pln.Table p), sD10 (Pln.Exprs p), sD9 (Pln.Cols p), sD11 (Pln.Kids p)])]⟩ ?_
   refine AW.meet (0, 0) (by kernel_rfl) ⟨?_, e3101⟩
   show True
   first | exact trivial | assumption | omega
  ·
   intro h3102
   have h3102q := (Go.Am.beq_neg h3102)
   have e3103 := e3099.trans (Go.Am.bif_f h3102)
   refine AW.seq (AW.seq (AW.r1 hC [1, 3, 4, 6, 9] [4] ⟨[(1, .ref 4 1 0), (3, sI 1), (4, sI 0), (6, sI (Pln.Kind p)), (9, sB ((Pln.Kind p) == 4))], [(4, .box 1 [sI (Pln.Kind p), sI (Pln.Table p), sD10 (Pln.Exprs p), sD9 (Pln.Cols p), sD11 (Pln.Kids p)])]⟩ ?_))
   refine AW.cutQ (α := Bool) (fun x => ⟨[(1, .ref 4 1 0), (3, sI 1), (4, sI 0), (6, sI (Pln.Kind p)), (9, sB x)], [(4, .box 1 [sI (Pln.Kind p), sI (Pln.Table p), sD10 (Pln.Exprs p), sD9 (Pln.Cols p), sD11 (Pln.Kids p)])]⟩) (fun x => (True) ∧ (onlyFields_j0 p) = x) ?_ ?_
   ·
    skip
    have e3112 : (onlyFields_j0 p) = (onlyFields_j0 p) := rfl
    refine AW.cd ((Pln.Kind p) == 4) ?_ ?_
    ·
     intro h3113
     have h3113q := (Go.Am.beq_pos h3113)
     have e3114 := e3112.trans (Go.Am.bif_t h3113)
     refine AW.skip ?_
     refine AW.meet ((Pln.Kind p) == 4) (by kernel_rfl) ⟨?_, e3114⟩
     show True
     first | exact trivial | assumption | omega
    ·
     intro h3115
     have h3115q := (Go.Am.beq_neg h3115)
     have e3116 := e3112.trans (Go.Am.bif_f h3115)
     refine AW.r1 hC [1, 3, 4, 6, 9] [4] ⟨[(1, .ref 4 1 0), (3, sI 1), (4, sI 0), (6, sI (Pln.Kind p)), (9, sB ((Pln.Kind p) == 5))], [(4, .box 1 [sI (Pln.Kind p), sI (Pln.Table p), sD10 (Pln.Exprs p), sD9 (Pln.Cols p), sD11 (Pln.Kids p)])]⟩ ?_
     refine AW.meet ((Pln.Kind p) == 5) (by kernel_rfl) ⟨?_, e3116⟩
     show True
     first | exact trivial | assumption | omega
   ·
    intro v9 hR
    obtain ⟨hM0, e3117⟩ := hR
    replace hM0 : True := hM0
    have e3118 := e3103.trans (Go.Am.then_eq e3117)
    refine AW.cutQ (α := Nat × Nat) (fun x => ⟨[(1, .ref 4 1 0), (3, sI ((x.1 : Nat) : Int)), (4, sI ((x.2 : Nat) : Int))], [(4, .box 1 [sI (Pln.Kind p), sI (Pln.Table p), sD10 (Pln.Exprs p), sD9 (Pln.Cols p), sD11 (Pln.Kids p)])]⟩) (fun x => (True) ∧ (onlyFields_j4 p v9) = x) ?_ ?_
    ·
     skip
     have e3517 : (onlyFields_j4 p v9) = (onlyFields_j4 p v9) := rfl
     refine AW.cd v9 ?_ ?_
     ·
      intro h3518
      have h3518q : v9 = true := h3518
      have e3519 := e3517.trans (Go.Am.bif_t h3518)
      refine AW.seq (AW.r1 hC [1, 3] [4] ⟨[(1, .ref 4 1 0), (3, sI 2)], [(4, .box 1 [sI (Pln.Kind p), sI (Pln.Table p), sD10 (Pln.Exprs p), sD9 (Pln.Cols p), sD11 (Pln.Kids p)])]⟩ ?_)
      refine AW.r1 hC [1, 3, 4] [4] ⟨[(1, .ref 4 1 0), (3, sI 2), (4, sI 1)], [(4, .box 1 [sI (Pln.Kind p), sI (Pln.Table p), sD10 (Pln.Exprs p), sD9 (Pln.Cols p), sD11 (Pln.Kids p)])]⟩ ?_
      refine AW.meet (2, 1) (by kernel_rfl) ⟨?_, e3519⟩
      show True
      first | exact trivial | assumption | omega
     ·
      intro h3520
      have h3520q : v9 = false := h3520
      have e3521 := e3517.trans (Go.Am.bif_f h3520)
      refine AW.seq (AW.r1 hC [1, 3, 4, 6, 12] [4] ⟨[(1, .ref 4 1 0), (3, sI 1), (4, sI 0), (6, sI (Pln.Kind p)), (12, sB ((Pln.Kind p) == 6))], [(4, .box 1 [sI (Pln.Kind p), sI (Pln.Table p), sD10 (Pln.Exprs p), sD9 (Pln.Cols p), sD11 (Pln.Kids p)])]⟩ ?_)
      refine AW.cutQ (α := Nat × Nat) (fun x => ⟨[(1, .ref 4 1 0), (3, sI ((x.1 : Nat) : Int)), (4, sI ((x.2 : Nat) : Int))], [(4, .box 1 [sI (Pln.Kind p), sI (Pln.Table p), sD10 (Pln.Exprs p), sD9 (Pln.Cols p), sD11 (Pln.Kids p)])]⟩) (fun x => (True) ∧ (onlyFields_j3 p) = x) ?_ ?_
      ·
       skip
       have e3650 : (onlyFields_j3 p) = (onlyFields_j3 p) := rfl
       refine AW.cd ((Pln.Kind p) == 6) ?_ ?_
       ·
        intro h3651
        have h3651q := (Go.Am.beq_pos h3651)
        have e3652 := e3650.trans (Go.Am.bif_t h3651)
        refine AW.r1 hC [1, 3, 4] [4] ⟨[(1, .ref 4 1 0), (3, sI 2), (4, sI 0)], [(4, .box 1 [sI (Pln.Kind p), sI (Pln.Table p), sD10 (Pln.Exprs p), sD9 (Pln.Cols p), sD11 (Pln.Kids p)])]⟩ ?_
        refine AW.meet (2, 0) (by kernel_rfl) ⟨?_, e3652⟩
        show True
        first | exact trivial | assumption | omega
       ·
        intro h3653
        have h3653q := (Go.Am.beq_neg h3653)
        have e3654 := e3650.trans (Go.Am.bif_f h3653)
        refine AW.seq (AW.r1 hC [1, 3, 4, 6, 14] [4] ⟨[(1, .ref 4 1 0), (3, sI 1), (4, sI 0), (6, sI (Pln.Kind p)), (14, sB ((Pln.Kind p) == 2))], [(4, .box 1 [sI (Pln.Kind p), sI (Pln.Table p), sD10 (Pln.Exprs p), sD9 (Pln.Cols p), sD11 (Pln.Kids p)])]⟩ ?_)
        refine AW.cutQ (α := Nat) (fun x => ⟨[(1, .ref 4 1 0), (3, sI 1), (4, sI ((x : Nat) : Int))], [(4, .box 1 [sI (Pln.Kind p), sI (Pln.Table p), sD10 (Pln.Exprs p), sD9 (Pln.Cols p), sD11 (Pln.Kids p)])]⟩) (fun x => (True) ∧ (onlyFields_j2 p) = x) ?_ ?_
        ·
         skip
         have e3693 : (onlyFields_j2 p) = (onlyFields_j2 p) := rfl
         refine AW.cd ((Pln.Kind p) == 2) ?_ ?_
         ·
          intro h3694
          have h3694q := (Go.Am.beq_pos h3694)
          have e3695 := e3693.trans (Go.Am.bif_t h3694)
          refine AW.r1 hC [1, 3, 4] [4] ⟨[(1, .ref 4 1 0), (3, sI 1), (4, sI 1)], [(4, .box 1 [sI (Pln.Kind p), sI (Pln.Table p), sD10 (Pln.Exprs p), sD9 (Pln.Cols p), sD11 (Pln.Kids p)])]⟩ ?_
          refine AW.meet 1 (by kernel_rfl) ⟨?_, e3695⟩
          show True
          first | exact trivial | assumption | omega
         ·
          intro h3696
          have h3696q := (Go.Am.beq_neg h3696)
          have e3697 := e3693.trans (Go.Am.bif_f h3696)
          refine AW.seq (AW.r1 hC [1, 3, 4, 16] [4] ⟨[(1, .ref 4 1 0), (3, sI 1), (4, sI 0), (16, sB ((Pln.Kind p) == 3))], [(4, .box 1 [sI (Pln.Kind p), sI (Pln.Table p), sD10 (Pln.Exprs p), sD9 (Pln.Cols p), sD11 (Pln.Kids p)])]⟩ ?_)
          refine AW.cutQ (α := Nat) (fun x => ⟨[(1, .ref 4 1 0), (3, sI 1), (4, sI ((x : Nat) : Int))], [(4, .box 1 [sI (Pln.Kind p), sI (Pln.Table p), sD10 (Pln.Exprs p), sD9 (Pln.Cols p), sD11 (Pln.Kids p)])]⟩) (fun x => (True) ∧ (onlyFields_j1 p) = x) ?_ ?_
          ·
           skip
           have e3706 : (onlyFields_j1 p) = (onlyFields_j1 p) := rfl
           refine AW.cd ((Pln.Kind p) == 3) ?_ ?_
           ·
            intro h3707
            have h3707q := (Go.Am.beq_pos h3707)
            have e3708 := e3706.trans (Go.Am.bif_t h3707)
            refine AW.r1 hC [1, 3, 4] [4] ⟨[(1, .ref 4 1 0), (3, sI 1), (4, sI ((List.length (Pln.Exprs p) : Nat) : Int))], [(4, .box 1 [sI (Pln.Kind p), sI (Pln.Table p), sD10 (Pln.Exprs p), sD9 (Pln.Cols p), sD11 (Pln.Kids p)])]⟩ ?_
            refine AW.meet (List.length (Pln.Exprs p)) (by kernel_rfl) ⟨?_, e3708⟩
            show True
            first | exact trivial | assumption | omega
           ·
            intro h3709
            have h3709q := (Go.Am.beq_neg h3709)
            have e3710 := e3706.trans (Go.Am.bif_f h3709)
            refine AW.kp [1, 3, 4] [4] ⟨[(1, .ref 4 1 0), (3, sI 1), (4, sI 0)], [(4, .box 1 [sI (Pln.Kind p), sI (Pln.Table p), sD10 (Pln.Exprs p), sD9 (Pln.Cols p), sD11 (Pln.Kids p)])]⟩ ?_
            refine AW.skip ?_
            refine AW.meet 0 (by kernel_rfl) ⟨?_, e3710⟩
            show True
            first | exact trivial | assumption | omega
          ·
           intro exprs hR
           obtain ⟨hM1, e3711⟩ := hR
           replace hM1 : True := hM1
           have e3712 := e3697.trans (Go.Am.then_eq e3711)
           refine AW.meet exprs (by kernel_rfl) ⟨?_, e3712⟩
           show True
           first | exact trivial | assumption | omega
        ·
         intro exprs hR
         obtain ⟨hM2, e3713⟩ := hR
         replace hM2 : True := hM2
         have e3714 := e3654.trans (Go.Am.then_eq e3713)
         refine AW.meet (1, exprs) (by kernel_rfl) ⟨?_, e3714⟩
         show True
         first | exact trivial | assumption | omega
      ·
       intro x hR
       obtain ⟨kids, exprs⟩ := x
       obtain ⟨hM3, e3715⟩ := hR
       replace hM3 : True := hM3
       have e3716 := e3521.trans (Go.Am.then_eq e3715)
       refine AW.meet (kids, exprs) (by kernel_rfl) ⟨?_, e3716⟩
       show True
       first | exact trivial | assumption | omega
    ·
     intro x hR
     obtain ⟨kids, exprs⟩ := x
     obtain ⟨hM4, e3717⟩ := hR
     replace hM4 : True := hM4
     have e3718 := e3118.trans (Go.Am.then_eq e3717)
     refine AW.meet (kids, exprs) (by kernel_rfl) ⟨?_, e3718⟩
     show True
     first | exact trivial | assumption | omega
 ·
  intro x hR
  obtain ⟨kids, exprs⟩ := x
  obtain ⟨hM5, e3719⟩ := hR
  replace hM5 : True := hM5
  have e3720 := e0.trans (Go.Am.then_eq e3719)
  refine AW.seq (AW.r0 hC [2] [] ⟨[(2, sB (bif (bif (bif (bif (inRange (Pln.Kind p) 1 8) then (((List.length (Pln.Kids p) : Nat) : Int) == ((kids : Nat) : Int)) else false) then (((List.length (Pln.Exprs p) : Nat) : Int) == ((exprs : Nat) : Int)) else false) then (bif ((Pln.Table p) == 0) then true else ((Pln.Kind p) == 1)) else false) then (bif (((List.length (Pln.Cols p) : Nat) : Int) == 0) then true else ((Pln.Kind p) == 8)) else false))], []⟩ [(True), (((inRange (Pln.Kind p) 1 8) = true) → (((inRange (Pln.Kind p) 1 8) = true))), (((inRange (Pln.Kind p) 1 8) = true) → (((inRange (Pln.Kind p) 1 8) = true))), (((inRange (Pln.Kind p) 1 8) = true) → (((inRange (Pln.Kind p) 1 8) = true))), (((inRange (Pln.Kind p) 1 8) = true) → (((inRange (Pln.Kind p) 1 8) = true))), (((inRange (Pln.Kind p) 1 8) = true) → (((inRange (Pln.Kind p) 1 8) = true))), (((bif (inRange (Pln.Kind p) 1 8) then (((List.length (Pln.Kids p) : Nat) : Int) == ((kids : Nat) : Int)) else false) = true) → (((bif (inRange (Pln.Kind p) 1 8) then (((List.length (Pln.Kids p) : Nat) : Int) == ((kids : Nat) : Int)) else false) = true))), (((bif (inRange (Pln.Kind p) 1 8) then (((List.length (Pln.Kids p) : Nat) : Int) == ((kids : Nat) : Int)) else false) = true) → (((bif (inRange (Pln.Kind p) 1 8) then (((List.length (Pln.Kids p) : Nat) : Int) == ((kids : Nat) : Int)) else false) = true))), (((bif (inRange (Pln.Kind p) 1 8) then (((List.length (Pln.Kids p) : Nat) : Int) == ((kids : Nat) : Int)) else false) = true) → (((bif (inRange (Pln.Kind p) 1 8) then (((List.length (Pln.Kids p) : Nat) : Int) == ((kids : Nat) : Int)) else false) = true))), (((bif (inRange (Pln.Kind p) 1 8) then (((List.length (Pln.Kids p) : Nat) : Int) == ((kids : Nat) : Int)) else false) = true) → (((bif (inRange (Pln.Kind p) 1 8) then (((List.length (Pln.Kids p) : Nat) : Int) == ((kids : Nat) : Int)) else false) = true))), (((bif (inRange (Pln.Kind p) 1 8) then (((List.length (Pln.Kids p) : Nat) : Int) == ((kids : Nat) : Int)) else false) = true) → (((bif (inRange (Pln.Kind p) 1 8) then (((List.length (Pln.Kids p) : Nat) : Int) == ((kids : Nat) : Int)) else false) = true))), (((bif (bif (inRange (Pln.Kind p) 1 8) then (((List.length (Pln.Kids p) : Nat) : Int) == ((kids : Nat) : Int)) else false) then (((List.length (Pln.Exprs p) : Nat) : Int) == ((exprs : Nat) : Int)) else false) = true) → (((bif (bif (inRange (Pln.Kind p) 1 8) then (((List.length (Pln.Kids p) : Nat) : Int) == ((kids : Nat) : Int)) else false) then (((List.length (Pln.Exprs p) : Nat) : Int) == ((exprs : Nat) : Int)) else false) = true))), (((bif (bif (inRange (Pln.Kind p) 1 8) then (((List.length (Pln.Kids p) : Nat) : Int) == ((kids : Nat) : Int)) else false) then (((List.length (Pln.Exprs p) : Nat) : Int) == ((exprs : Nat) : Int)) else false) = true) → (((bif (bif (inRange (Pln.Kind p) 1 8) then (((List.length (Pln.Kids p) : Nat) : Int) == ((kids : Nat) : Int)) else false) then (((List.length (Pln.Exprs p) : Nat) : Int) == ((exprs : Nat) : Int)) else false) = true))), (((bif (bif (inRange (Pln.Kind p) 1 8) then (((List.length (Pln.Kids p) : Nat) : Int) == ((kids : Nat) : Int)) else false) then (((List.length (Pln.Exprs p) : Nat) : Int) == ((exprs : Nat) : Int)) else false) = true) → (((bif (bif (inRange (Pln.Kind p) 1 8) then (((List.length (Pln.Kids p) : Nat) : Int) == ((kids : Nat) : Int)) else false) then (((List.length (Pln.Exprs p) : Nat) : Int) == ((exprs : Nat) : Int)) else false) = true))), ((((bif (bif (inRange (Pln.Kind p) 1 8) then (((List.length (Pln.Kids p) : Nat) : Int) == ((kids : Nat) : Int)) else false) then (((List.length (Pln.Exprs p) : Nat) : Int) == ((exprs : Nat) : Int)) else false) = true) ∧ (((Pln.Table p) == 0) = false)) → ((((bif (bif (inRange (Pln.Kind p) 1 8) then (((List.length (Pln.Kids p) : Nat) : Int) == ((kids : Nat) : Int)) else false) then (((List.length (Pln.Exprs p) : Nat) : Int) == ((exprs : Nat) : Int)) else false) = true) ∧ (((Pln.Table p) == 0) = false)))), ((((bif (bif (inRange (Pln.Kind p) 1 8) then (((List.length (Pln.Kids p) : Nat) : Int) == ((kids : Nat) : Int)) else false) then (((List.length (Pln.Exprs p) : Nat) : Int) == ((exprs : Nat) : Int)) else false) = true) ∧ (((Pln.Table p) == 0) = false)) → ((((bif (bif (inRange (Pln.Kind p) 1 8) then (((List.length (Pln.Kids p) : Nat) : Int) == ((kids : Nat) : Int)) else false) then (((List.length (Pln.Exprs p) : Nat) : Int) == ((exprs : Nat) : Int)) else false) = true) ∧ (((Pln.Table p) == 0) = false)))), (((bif (bif (inRange (Pln.Kind p) 1 8) then (((List.length (Pln.Kids p) : Nat) : Int) == ((kids : Nat) : Int)) else false) then (((List.length (Pln.Exprs p) : Nat) : Int) == ((exprs : Nat) : Int)) else false) = true) → (((bif (bif (inRange (Pln.Kind p) 1 8) then (((List.length (Pln.Kids p) : Nat) : Int) == ((kids : Nat) : Int)) else false) then (((List.length (Pln.Exprs p) : Nat) : Int) == ((exprs : Nat) : Int)) else false) = true))), (((bif (bif (inRange (Pln.Kind p) 1 8) then (((List.length (Pln.Kids p) : Nat) : Int) == ((kids : Nat) : Int)) else false) then (((List.length (Pln.Exprs p) : Nat) : Int) == ((exprs : Nat) : Int)) else false) = true) → ((((Pln.Table p) == 0) = false) → ((((bif (bif (inRange (Pln.Kind p) 1 8) then (((List.length (Pln.Kids p) : Nat) : Int) == ((kids : Nat) : Int)) else false) then (((List.length (Pln.Exprs p) : Nat) : Int) == ((exprs : Nat) : Int)) else false) = true) ∧ (((Pln.Table p) == 0) = false))))), (((bif (bif (inRange (Pln.Kind p) 1 8) then (((List.length (Pln.Kids p) : Nat) : Int) == ((kids : Nat) : Int)) else false) then (((List.length (Pln.Exprs p) : Nat) : Int) == ((exprs : Nat) : Int)) else false) = true) → (((bif (bif (inRange (Pln.Kind p) 1 8) then (((List.length (Pln.Kids p) : Nat) : Int) == ((kids : Nat) : Int)) else false) then (((List.length (Pln.Exprs p) : Nat) : Int) == ((exprs : Nat) : Int)) else false) = true))), (((bif (bif (bif (inRange (Pln.Kind p) 1 8) then (((List.length (Pln.Kids p) : Nat) : Int) == ((kids : Nat) : Int)) else false) then (((List.length (Pln.Exprs p) : Nat) : Int) == ((exprs : Nat) : Int)) else false) then (bif ((Pln.Table p) == 0) then true else ((Pln.Kind p) == 1)) else false) = true) → (((bif (bif (bif (inRange (Pln.Kind p) 1 8) then (((List.length (Pln.Kids p) : Nat) : Int) == ((kids : Nat) : Int)) else false) then (((List.length (Pln.Exprs p) : Nat) : Int) == ((exprs : Nat) : Int)) else false) then (bif ((Pln.Table p) == 0) then true else ((Pln.Kind p) == 1)) else false) = true))), (((bif (bif (bif (inRange (Pln.Kind p) 1 8) then (((List.length (Pln.Kids p) : Nat) : Int) == ((kids : Nat) : Int)) else false) then (((List.length (Pln.Exprs p) : Nat) : Int) == ((exprs : Nat) : Int)) else false) then (bif ((Pln.Table p) == 0) then true else ((Pln.Kind p) == 1)) else false) = true) → (((bif (bif (bif (inRange (Pln.Kind p) 1 8) then (((List.length (Pln.Kids p) : Nat) : Int) == ((kids : Nat) : Int)) else false) then (((List.length (Pln.Exprs p) : Nat) : Int) == ((exprs : Nat) : Int)) else false) then (bif ((Pln.Table p) == 0) then true else ((Pln.Kind p) == 1)) else false) = true))), (((bif (bif (bif (inRange (Pln.Kind p) 1 8) then (((List.length (Pln.Kids p) : Nat) : Int) == ((kids : Nat) : Int)) else false) then (((List.length (Pln.Exprs p) : Nat) : Int) == ((exprs : Nat) : Int)) else false) then (bif ((Pln.Table p) == 0) then true else ((Pln.Kind p) == 1)) else false) = true) → (((bif (bif (bif (inRange (Pln.Kind p) 1 8) then (((List.length (Pln.Kids p) : Nat) : Int) == ((kids : Nat) : Int)) else false) then (((List.length (Pln.Exprs p) : Nat) : Int) == ((exprs : Nat) : Int)) else false) then (bif ((Pln.Table p) == 0) then true else ((Pln.Kind p) == 1)) else false) = true))), (((bif (bif (bif (inRange (Pln.Kind p) 1 8) then (((List.length (Pln.Kids p) : Nat) : Int) == ((kids : Nat) : Int)) else false) then (((List.length (Pln.Exprs p) : Nat) : Int) == ((exprs : Nat) : Int)) else false) then (bif ((Pln.Table p) == 0) then true else ((Pln.Kind p) == 1)) else false) = true) → (((bif (bif (bif (inRange (Pln.Kind p) 1 8) then (((List.length (Pln.Kids p) : Nat) : Int) == ((kids : Nat) : Int)) else false) then (((List.length (Pln.Exprs p) : Nat) : Int) == ((exprs : Nat) : Int)) else false) then (bif ((Pln.Table p) == 0) then true else ((Pln.Kind p) == 1)) else false) = true))), ((((bif (bif (bif (inRange (Pln.Kind p) 1 8) then (((List.length (Pln.Kids p) : Nat) : Int) == ((kids : Nat) : Int)) else false) then (((List.length (Pln.Exprs p) : Nat) : Int) == ((exprs : Nat) : Int)) else false) then (bif ((Pln.Table p) == 0) then true else ((Pln.Kind p) == 1)) else false) = true) ∧ ((((List.length (Pln.Cols p) : Nat) : Int) == 0) = false)) → ((((bif (bif (bif (inRange (Pln.Kind p) 1 8) then (((List.length (Pln.Kids p) : Nat) : Int) == ((kids : Nat) : Int)) else false) then (((List.length (Pln.Exprs p) : Nat) : Int) == ((exprs : Nat) : Int)) else false) then (bif ((Pln.Table p) == 0) then true else ((Pln.Kind p) == 1)) else false) = true) ∧ ((((List.length (Pln.Cols p) : Nat) : Int) == 0) = false)))), ((((bif (bif (bif (inRange (Pln.Kind p) 1 8) then (((List.length (Pln.Kids p) : Nat) : Int) == ((kids : Nat) : Int)) else false) then (((List.length (Pln.Exprs p) : Nat) : Int) == ((exprs : Nat) : Int)) else false) then (bif ((Pln.Table p) == 0) then true else ((Pln.Kind p) == 1)) else false) = true) ∧ ((((List.length (Pln.Cols p) : Nat) : Int) == 0) = false)) → ((((bif (bif (bif (inRange (Pln.Kind p) 1 8) then (((List.length (Pln.Kids p) : Nat) : Int) == ((kids : Nat) : Int)) else false) then (((List.length (Pln.Exprs p) : Nat) : Int) == ((exprs : Nat) : Int)) else false) then (bif ((Pln.Table p) == 0) then true else ((Pln.Kind p) == 1)) else false) = true) ∧ ((((List.length (Pln.Cols p) : Nat) : Int) == 0) = false)))), (((bif (bif (bif (inRange (Pln.Kind p) 1 8) then (((List.length (Pln.Kids p) : Nat) : Int) == ((kids : Nat) : Int)) else false) then (((List.length (Pln.Exprs p) : Nat) : Int) == ((exprs : Nat) : Int)) else false) then (bif ((Pln.Table p) == 0) then true else ((Pln.Kind p) == 1)) else false) = true) → (((bif (bif (bif (inRange (Pln.Kind p) 1 8) then (((List.length (Pln.Kids p) : Nat) : Int) == ((kids : Nat) : Int)) else false) then (((List.length (Pln.Exprs p) : Nat) : Int) == ((exprs : Nat) : Int)) else false) then (bif ((Pln.Table p) == 0) then true else ((Pln.Kind p) == 1)) else false) = true))), (((bif (bif (bif (inRange (Pln.Kind p) 1 8) then (((List.length (Pln.Kids p) : Nat) : Int) == ((kids : Nat) : Int)) else false) then (((List.length (Pln.Exprs p) : Nat) : Int) == ((exprs : Nat) : Int)) else false) then (bif ((Pln.Table p) == 0) then true else ((Pln.Kind p) == 1)) else false) = true) → (((((List.length (Pln.Cols p) : Nat) : Int) == 0) = false) → ((((bif (bif (bif (inRange (Pln.Kind p) 1 8) then (((List.length (Pln.Kids p) : Nat) : Int) == ((kids : Nat) : Int)) else false) then (((List.length (Pln.Exprs p) : Nat) : Int) == ((exprs : Nat) : Int)) else false) then (bif ((Pln.Table p) == 0) then true else ((Pln.Kind p) == 1)) else false) = true) ∧ ((((List.length (Pln.Cols p) : Nat) : Int) == 0) = false))))), (((bif (bif (bif (inRange (Pln.Kind p) 1 8) then (((List.length (Pln.Kids p) : Nat) : Int) == ((kids : Nat) : Int)) else false) then (((List.length (Pln.Exprs p) : Nat) : Int) == ((exprs : Nat) : Int)) else false) then (bif ((Pln.Table p) == 0) then true else ((Pln.Kind p) == 1)) else false) = true) → (((bif (bif (bif (inRange (Pln.Kind p) 1 8) then (((List.length (Pln.Kids p) : Nat) : Int) == ((kids : Nat) : Int)) else false) then (((List.length (Pln.Exprs p) : Nat) : Int) == ((exprs : Nat) : Int)) else false) then (bif ((Pln.Table p) == 0) then true else ((Pln.Kind p) == 1)) else false) = true)))] ?_ ?_)
  ·
   refine ⟨?_, ?_, ?_, ?_, ?_, ?_, ?_, ?_, ?_, ?_, ?_, ?_, ?_, ?_, ?_, ?_, ?_, ?_, ?_, ?_, ?_, ?_, ?_, ?_, ?_, ?_, ?_, ?_, trivial⟩
   ·
    trivial
   ·
    intro g3721
    have g3721p0 : (inRange (Pln.Kind p) 1 8) = true := g3721
    first | assumption | exact ⟨by assumption, by assumption⟩
   ·
    intro g3722
    have g3722p0 : (inRange (Pln.Kind p) 1 8) = true := g3722
    first | assumption | exact ⟨by assumption, by assumption⟩
   ·
    intro g3723
    have g3723p0 : (inRange (Pln.Kind p) 1 8) = true := g3723
    first | assumption | exact ⟨by assumption, by assumption⟩
   ·
    intro g3724
    have g3724p0 : (inRange (Pln.Kind p) 1 8) = true := g3724
    first | assumption | exact ⟨by assumption, by assumption⟩
   ·
    intro g3725
    have g3725p0 : (inRange (Pln.Kind p) 1 8) = true := g3725
    first | assumption | exact ⟨by assumption, by assumption⟩
   ·
    intro g3726
    have g3726p0 : ((inRange (Pln.Kind p) 1 8) = true) ∧ (((List.length (Pln.Kids p) : Nat) : Int) = ((kids : Nat) : Int)) := (And.imp (fun h => h) (fun h => (Go.Am.beq_pos h)) (Go.Am.and_pos g3726))
    first | assumption | exact ⟨by assumption, by assumption⟩
   ·
    intro g3727
    have g3727p0 : ((inRange (Pln.Kind p) 1 8) = true) ∧ (((List.length (Pln.Kids p) : Nat) : Int) = ((kids : Nat) : Int)) := (And.imp (fun h => h) (fun h => (Go.Am.beq_pos h)) (Go.Am.and_pos g3727))
    first | assumption | exact ⟨by assumption, by assumption⟩
   ·
    intro g3728
    have g3728p0 : ((inRange (Pln.Kind p) 1 8) = true) ∧ (((List.length (Pln.Kids p) : Nat) : Int) = ((kids : Nat) : Int)) := (And.imp (fun h => h) (fun h => (Go.Am.beq_pos h)) (Go.Am.and_pos g3728))
    first | assumption | exact ⟨by assumption, by assumption⟩
   ·
    intro g3729
    have g3729p0 : ((inRange (Pln.Kind p) 1 8) = true) ∧ (((List.length (Pln.Kids p) : Nat) : Int) = ((kids : Nat) : Int)) := (And.imp (fun h => h) (fun h => (Go.Am.beq_pos h)) (Go.Am.and_pos g3729))
    first | assumption | exact ⟨by assumption, by assumption⟩
   ·
    intro g3730
    have g3730p0 : ((inRange (Pln.Kind p) 1 8) = true) ∧ (((List.length (Pln.Kids p) : Nat) : Int) = ((kids : Nat) : Int)) := (And.imp (fun h => h) (fun h => (Go.Am.beq_pos h)) (Go.Am.and_pos g3730))
    first | assumption | exact ⟨by assumption, by assumption⟩
   ·
    intro g3731
    have g3731p0 : (((inRange (Pln.Kind p) 1 8) = true) ∧ (((List.length (Pln.Kids p) : Nat) : Int) = ((kids : Nat) : Int))) ∧ (((List.length (Pln.Exprs p) : Nat) : Int) = ((exprs : Nat) : Int)) := (And.imp (fun h => (And.imp (fun h => h) (fun h => (Go.Am.beq_pos h)) (Go.Am.and_pos h))) (fun h => (Go.Am.beq_pos h)) (Go.Am.and_pos g3731))
    first | assumption | exact ⟨by assumption, by assumption⟩
   ·
    intro g3732
    have g3732p0 : (((inRange (Pln.Kind p) 1 8) = true) ∧ (((List.length (Pln.Kids p) : Nat) : Int) = ((kids : Nat) : Int))) ∧ (((List.length (Pln.Exprs p) : Nat) : Int) = ((exprs : Nat) : Int)) := (And.imp (fun h => (And.imp (fun h => h) (fun h => (Go.Am.beq_pos h)) (Go.Am.and_pos h))) (fun h => (Go.Am.beq_pos h)) (Go.Am.and_pos g3732))
    first | assumption | exact ⟨by assumption, by assumption⟩
   ·
    intro g3733
    have g3733p0 : (((inRange (Pln.Kind p) 1 8) = true) ∧ (((List.length (Pln.Kids p) : Nat) : Int) = ((kids : Nat) : Int))) ∧ (((List.length (Pln.Exprs p) : Nat) : Int) = ((exprs : Nat) : Int)) := (And.imp (fun h => (And.imp (fun h => h) (fun h => (Go.Am.beq_pos h)) (Go.Am.and_pos h))) (fun h => (Go.Am.beq_pos h)) (Go.Am.and_pos g3733))
    first | assumption | exact ⟨by assumption, by assumption⟩
   ·
    intro g3734
    have g3734p0 : (((inRange (Pln.Kind p) 1 8) = true) ∧ (((List.length (Pln.Kids p) : Nat) : Int) = ((kids : Nat) : Int))) ∧ (((List.length (Pln.Exprs p) : Nat) : Int) = ((exprs : Nat) : Int)) := (And.imp (fun h => (And.imp (fun h => h) (fun h => (Go.Am.beq_pos h)) (Go.Am.and_pos h))) (fun h => (Go.Am.beq_pos h)) (Go.Am.and_pos (g3734).1))
    have g3734p1 : (Pln.Table p) ≠ 0 := (Go.Am.beq_neg (g3734).2)
    first | assumption | exact ⟨by assumption, by assumption⟩
   ·
    intro g3735
    have g3735p0 : (((inRange (Pln.Kind p) 1 8) = true) ∧ (((List.length (Pln.Kids p) : Nat) : Int) = ((kids : Nat) : Int))) ∧ (((List.length (Pln.Exprs p) : Nat) : Int) = ((exprs : Nat) : Int)) := (And.imp (fun h => (And.imp (fun h => h) (fun h => (Go.Am.beq_pos h)) (Go.Am.and_pos h))) (fun h => (Go.Am.beq_pos h)) (Go.Am.and_pos (g3735).1))
    have g3735p1 : (Pln.Table p) ≠ 0 := (Go.Am.beq_neg (g3735).2)
    first | assumption | exact ⟨by assumption, by assumption⟩
   ·
    intro g3736
    have g3736p0 : (((inRange (Pln.Kind p) 1 8) = true) ∧ (((List.length (Pln.Kids p) : Nat) : Int) = ((kids : Nat) : Int))) ∧ (((List.length (Pln.Exprs p) : Nat) : Int) = ((exprs : Nat) : Int)) := (And.imp (fun h => (And.imp (fun h => h) (fun h => (Go.Am.beq_pos h)) (Go.Am.and_pos h))) (fun h => (Go.Am.beq_pos h)) (Go.Am.and_pos g3736))
    first | assumption | exact ⟨by assumption, by assumption⟩
   ·
    intro g3737
    have g3737p0 : (((inRange (Pln.Kind p) 1 8) = true) ∧ (((List.length (Pln.Kids p) : Nat) : Int) = ((kids : Nat) : Int))) ∧ (((List.length (Pln.Exprs p) : Nat) : Int) = ((exprs : Nat) : Int)) := (And.imp (fun h => (And.imp (fun h => h) (fun h => (Go.Am.beq_pos h)) (Go.Am.and_pos h))) (fun h => (Go.Am.beq_pos h)) (Go.Am.and_pos g3737))
    intro g3738
    have g3738p0 : (Pln.Table p) ≠ 0 := (Go.Am.beq_neg g3738)
    first | assumption | exact ⟨by assumption, by assumption⟩
   ·
    intro g3739
    have g3739p0 : (((inRange (Pln.Kind p) 1 8) = true) ∧ (((List.length (Pln.Kids p) : Nat) : Int) = ((kids : Nat) : Int))) ∧ (((List.length (Pln.Exprs p) : Nat) : Int) = ((exprs : Nat) : Int)) := (And.imp (fun h => (And.imp (fun h => h) (fun h => (Go.Am.beq_pos h)) (Go.Am.and_pos h))) (fun h => (Go.Am.beq_pos h)) (Go.Am.and_pos g3739))
    first | assumption | exact ⟨by assumption, by assumption⟩
   ·
    intro g3740
    have g3740p0 : ((((inRange (Pln.Kind p) 1 8) = true) ∧ (((List.length (Pln.Kids p) : Nat) : Int) = ((kids : Nat) : Int))) ∧ (((List.length (Pln.Exprs p) : Nat) : Int) = ((exprs : Nat) : Int))) ∧ (((Pln.Table p) = 0) ∨ ((Pln.Kind p) = 1)) := (And.imp (fun h => (And.imp (fun h => (And.imp (fun h => h) (fun h => (Go.Am.beq_pos h)) (Go.Am.and_pos h))) (fun h => (Go.Am.beq_pos h)) (Go.Am.and_pos h))) (fun h => (Or.imp (fun h => (Go.Am.beq_pos h)) (fun h => (Go.Am.beq_pos h)) (Go.Am.or_pos h))) (Go.Am.and_pos g3740))
    first | assumption | exact ⟨by assumption, by assumption⟩
   ·
    intro g3741
    have g3741p0 : ((((inRange (Pln.Kind p) 1 8) = true) ∧ (((List.length (Pln.Kids p) : Nat) : Int) = ((kids : Nat) : Int))) ∧ (((List.length (Pln.Exprs p) : Nat) : Int) = ((exprs : Nat) : Int))) ∧ (((Pln.Table p) = 0) ∨ ((Pln.Kind p) = 1)) := (And.imp (fun h => (And.imp (fun h => (And.imp (fun h => h) (fun h => (Go.Am.beq_pos h)) (Go.Am.and_pos h))) (fun h => (Go.Am.beq_pos h)) (Go.Am.and_pos h))) (fun h => (Or.imp (fun h => (Go.Am.beq_pos h)) (fun h => (Go.Am.beq_pos h)) (Go.Am.or_pos h))) (Go.Am.and_pos g3741))
    first | assumption | exact ⟨by assumption, by assumption⟩
   ·
    intro g3742
    have g3742p0 : ((((inRange (Pln.Kind p) 1 8) = true) ∧ (((List.length (Pln.Kids p) : Nat) : Int) = ((kids : Nat) : Int))) ∧ (((List.length (Pln.Exprs p) : Nat) : Int) = ((exprs : Nat) : Int))) ∧ (((Pln.Table p) = 0) ∨ ((Pln.Kind p) = 1)) := (And.imp (fun h => (And.imp (fun h => (And.imp (fun h => h) (fun h => (Go.Am.beq_pos h)) (Go.Am.and_pos h))) (fun h => (Go.Am.beq_pos h)) (Go.Am.and_pos h))) (fun h => (Or.imp (fun h => (Go.Am.beq_pos h)) (fun h => (Go.Am.beq_pos h)) (Go.Am.or_pos h))) (Go.Am.and_pos g3742))
    first | assumption | exact ⟨by assumption, by assumption⟩
   ·
    intro g3743
    have g3743p0 : ((((inRange (Pln.Kind p) 1 8) = true) ∧ (((List.length (Pln.Kids p) : Nat) : Int) = ((kids : Nat) : Int))) ∧ (((List.length (Pln.Exprs p) : Nat) : Int) = ((exprs : Nat) : Int))) ∧ (((Pln.Table p) = 0) ∨ ((Pln.Kind p) = 1)) := (And.imp (fun h => (And.imp (fun h => (And.imp (fun h => h) (fun h => (Go.Am.beq_pos h)) (Go.Am.and_pos h))) (fun h => (Go.Am.beq_pos h)) (Go.Am.and_pos h))) (fun h => (Or.imp (fun h => (Go.Am.beq_pos h)) (fun h => (Go.Am.beq_pos h)) (Go.Am.or_pos h))) (Go.Am.and_pos g3743))
    first | assumption | exact ⟨by assumption, by assumption⟩
   ·
    intro g3744
    have g3744p0 : ((((inRange (Pln.Kind p) 1 8) = true) ∧ (((List.length (Pln.Kids p) : Nat) : Int) = ((kids : Nat) : Int))) ∧ (((List.length (Pln.Exprs p) : Nat) : Int) = ((exprs : Nat) : Int))) ∧ (((Pln.Table p) = 0) ∨ ((Pln.Kind p) = 1)) := (And.imp (fun h => (And.imp (fun h => (And.imp (fun h => h) (fun h => (Go.Am.beq_pos h)) (Go.Am.and_pos h))) (fun h => (Go.Am.beq_pos h)) (Go.Am.and_pos h))) (fun h => (Or.imp (fun h => (Go.Am.beq_pos h)) (fun h => (Go.Am.beq_pos h)) (Go.Am.or_pos h))) (Go.Am.and_pos (g3744).1))
    have g3744p1 : ((List.length (Pln.Cols p) : Nat) : Int) ≠ 0 := (Go.Am.beq_neg (g3744).2)
    first | assumption | exact ⟨by assumption, by assumption⟩
   ·
    intro g3745
    have g3745p0 : ((((inRange (Pln.Kind p) 1 8) = true) ∧ (((List.length (Pln.Kids p) : Nat) : Int) = ((kids : Nat) : Int))) ∧ (((List.length (Pln.Exprs p) : Nat) : Int) = ((exprs : Nat) : Int))) ∧ (((Pln.Table p) = 0) ∨ ((Pln.Kind p) = 1)) := (And.imp (fun h => (And.imp (fun h => (And.imp (fun h => h) (fun h => (Go.Am.beq_pos h)) (Go.Am.and_pos h))) (fun h => (Go.Am.beq_pos h)) (Go.Am.and_pos h))) (fun h => (Or.imp (fun h => (Go.Am.beq_pos h)) (fun h => (Go.Am.beq_pos h)) (Go.Am.or_pos h))) (Go.Am.and_pos (g3745).1))
    have g3745p1 : ((List.length (Pln.Cols p) : Nat) : Int) ≠ 0 := (Go.Am.beq_neg (g3745).2)
    first | assumption | exact ⟨by assumption, by assumption⟩
   ·
    intro g3746
    have g3746p0 : ((((inRange (Pln.Kind p) 1 8) = true) ∧ (((List.length (Pln.Kids p) : Nat) : Int) = ((kids : Nat) : Int))) ∧ (((List.length (Pln.Exprs p) : Nat) : Int) = ((exprs : Nat) : Int))) ∧ (((Pln.Table p) = 0) ∨ ((Pln.Kind p) = 1)) := (And.imp (fun h => (And.imp (fun h => (And.imp (fun h => h) (fun h => (Go.Am.beq_pos h)) (Go.Am.and_pos h))) (fun h => (Go.Am.beq_pos h)) (Go.Am.and_pos h))) (fun h => (Or.imp (fun h => (Go.Am.beq_pos h)) (fun h => (Go.Am.beq_pos h)) (Go.Am.or_pos h))) (Go.Am.and_pos g3746))
    first | assumption | exact ⟨by assumption, by assumption⟩
   ·
    intro g3747
    have g3747p0 : ((((inRange (Pln.Kind p) 1 8) = true) ∧ (((List.length (Pln.Kids p) : Nat) : Int) = ((kids : Nat) : Int))) ∧ (((List.length (Pln.Exprs p) : Nat) : Int) = ((exprs : Nat) : Int))) ∧ (((Pln.Table p) = 0) ∨ ((Pln.Kind p) = 1)) := (And.imp (fun h => (And.imp (fun h => (And.imp (fun h => h) (fun h => (Go.Am.beq_pos h)) (Go.Am.and_pos h))) (fun h => (Go.Am.beq_pos h)) (Go.Am.and_pos h))) (fun h => (Or.imp (fun h => (Go.Am.beq_pos h)) (fun h => (Go.Am.beq_pos h)) (Go.Am.or_pos h))) (Go.Am.and_pos g3747))
    intro g3748
    have g3748p0 : ((List.length (Pln.Cols p) : Nat) : Int) ≠ 0 := (Go.Am.beq_neg g3748)
    first | assumption | exact ⟨by assumption, by assumption⟩
   ·
    intro g3749
    have g3749p0 : ((((inRange (Pln.Kind p) 1 8) = true) ∧ (((List.length (Pln.Kids p) : Nat) : Int) = ((kids : Nat) : Int))) ∧ (((List.length (Pln.Exprs p) : Nat) : Int) = ((exprs : Nat) : Int))) ∧ (((Pln.Table p) = 0) ∨ ((Pln.Kind p) = 1)) := (And.imp (fun h => (And.imp (fun h => (And.imp (fun h => h) (fun h => (Go.Am.beq_pos h)) (Go.Am.and_pos h))) (fun h => (Go.Am.beq_pos h)) (Go.Am.and_pos h))) (fun h => (Or.imp (fun h => (Go.Am.beq_pos h)) (fun h => (Go.Am.beq_pos h)) (Go.Am.or_pos h))) (Go.Am.and_pos g3749))
    first | assumption | exact ⟨by assumption, by assumption⟩
  exact AW.ret (AW.rB (bif (bif (bif (bif (inRange (Pln.Kind p) 1 8) then (((List.length (Pln.Kids p) : Nat) : Int) == ((kids : Nat) : Int)) else false) then (((List.length (Pln.Exprs p) : Nat) : Int) == ((exprs : Nat) : Int)) else false) then (bif ((Pln.Table p) == 0) then true else ((Pln.Kind p) == 1)) else false) then (bif (((List.length (Pln.Cols p) : Nat) : Int) == 0) then true else ((Pln.Kind p) == 8)) else false) e3720)

def projectWidth_l0 (list : List Xpr) (width : Int) : Nat → Nat → Unit ⊕ Int
 | 0, i => .inl ()
 | k + 1, i => (bif (decide (((i : Nat) : Int) < ((List.length list : Nat) : Int))) then (bif (!(ValidExpr (List.getD list i Xpr.zero) width)) then (.inr 0) else (projectWidth_l0 list width k (i + 1))) else (.inl ()))

def projectWidth (list : List Xpr) (width : Int) : Int := (Sum.elim (fun _ => (bif (decide (6 < ((List.length list : Nat) : Int))) then 0 else ((List.length list : Nat) : Int))) (fun r => r) (projectWidth_l0 list width ((List.length list) - 0 + 1) 0))

def projectWidth_sp : FnSpec := mkSpec [.val (.slice (.named 1)), .val (.int .i64)] [.val (.int .i64)] (fun (list : List Xpr) (width : Int) => True) (fun (list : List Xpr) (width : Int) => [⟨(.int .i64), (projectWidth list width)⟩])

theorem projectWidth_ok : FnOK Try.prog 33 projectWidth_sp := by
 have hC : CtxOK Try.prog (mkCtx tyL [(32, ValidExpr_sp)]) := CtxOK.cons ValidExpr_ok (CtxOK.nil tyOK)
 refine FnOK.of_body Try.func33 (by kernel_rfl) rfl (C := (mkCtx tyL [(32, ValidExpr_sp)])) hC.ty (by kernel_rfl) ?_
 intro (list : List Xpr) (width : Int) hwf hpre E
 have hpre : True := hpre
 have hw_list : Wf ⟨(.slice (.named 1)), (list : List Xpr)⟩ := hwf _ (List.Mem.head _)
 have hl_list : ((List.length list : Nat) : Int) ≤ 9223372036854775807 := hw_list.len
 have hw_width : Wf ⟨(.int .i64), (width : Int)⟩ := hwf _ (List.Mem.tail _ (List.Mem.head _))
 have hr_width : -9223372036854775808 ≤ width ∧ width ≤ 9223372036854775807 := hw_width.int_inv
 have e0 : projectWidth list width = projectWidth list width := rfl
 refine AW.seq (AW.r1 hC [0, 1] [] ⟨[(0, sD10 list), (1, sI width)], []⟩ ?_)
 refine AW.seq (AW.seq (AW.r1 hC [0, 1, 5] [] ⟨[(0, sD10 list), (1, sI width), (5, sI 0)], []⟩ ?_))
 refine AW.cutQ (α := Unit) (fun x => ⟨[(0, sD10 list)], []⟩) (fun x => (True) ∧ (projectWidth_l0 list width ((List.length list) - 0 + 1) 0) = (.inl ())) ?_ ?_
 ·
  skip
  refine AW.block (AW.loop (α := Nat) (fun x => ⟨[(0, sD10 list), (1, sI width), (5, sI ((x : Nat) : Int))], []⟩) (fun x => (True) ∧ ∃ k, (List.length list) - x < k ∧ (projectWidth_l0 list width ((List.length list) - 0 + 1) 0) = projectWidth_l0 list width k x) (fun x => (List.length list) - x) 0 (by kernel_rfl) ⟨?_, _, Nat.lt_succ_self _, rfl⟩ ?_)
  ·
   show True
   first | exact trivial | (refine ⟨?_, ?_⟩ <;> first | omega | simp) | omega | simp
  ·
   intro i hR
   obtain ⟨hI0, k30, hk28, e29⟩ := hR
   replace hI0 : True := hI0
   replace hk28 : (List.length list) - i < k30 := hk28
   obtain ⟨k30q, rfl⟩ : ∃ k, k30 = k + 1 := ⟨k30 - 1, by omega⟩
   refine AW.seq (AW.seq (AW.r1 hC [0, 1, 5, 9] [] ⟨[(0, sD10 list), (1, sI width), (5, sI ((i : Nat) : Int)), (9, sB (decide (((i : Nat) : Int) < ((List.length list : Nat) : Int))))], []⟩ ?_))
   refine AW.cd (decide (((i : Nat) : Int) < ((List.length list : Nat) : Int))) ?_ ?_
   ·
    intro h31
    have h31q := (of_decide_eq_true h31)
    have e32 := e29.trans (Go.Am.bif_t h31)
    refine AW.kp [0, 1, 5] [] ⟨[(0, sD10 list), (1, sI width), (5, sI ((i : Nat) : Int))], []⟩ ?_
    refine AW.skip (AW.seq (AW.block (AW.seq (AW.r0 hC [0, 1, 5, 18] [] ⟨[(0, sD10 list), (1, sI width), (5, sI ((i : Nat) : Int)), (18, sB (!(ValidExpr (List.getD list i Xpr.zero) width)))], []⟩ [IX ((i : Nat) : Int) ((List.length list : Nat) : Int), (True)] ?_ ?_))))
    ·
     refine ⟨?_, ?_, trivial⟩
     ·
      refine IX.of ?_
      first | omega | (dsimp only; omega) | (simp only [lens] at *; omega)
     ·
      trivial
    refine AW.cd (!(ValidExpr (List.getD list i Xpr.zero) width)) ?_ ?_
    ·
     intro h33
     have h33q := (Go.Am.not_pos h33)
     have e34 := e32.trans (Go.Am.bif_t h33)
     refine AW.seq (AW.r1 hC [4] [] ⟨[(4, sI 0)], []⟩ ?_)
     refine AW.ret ?_
     have e35 := e0.trans (Go.Am.elim_r e34)
     exact AW.rI 0 e35
    ·
     intro h36
     have h36q := (Go.Am.not_neg h36)
     have e37 := e32.trans (Go.Am.bif_f h36)
     refine AW.kp [0, 1, 5] [] ⟨[(0, sD10 list), (1, sI width), (5, sI ((i : Nat) : Int))], []⟩ ?_
     refine AW.skip (AW.r0 hC [0, 1, 5] [] ⟨[(0, sD10 list), (1, sI width), (5, sI ((i + 1 : Nat) : Int))], []⟩ [R64 ((i + 1 : Nat) : Int)] ?_ ?_)
     ·
      refine ⟨?_, trivial⟩
      ·
       refine R64.of ?_
       first | omega | (dsimp only; omega) | (simp only [lens] at *; omega)
     refine AW.back (x := i) (i + 1) (by kernel_rfl) ⟨?_, k30q, ?_, e37⟩ ?_
     ·
      show True
      first | assumption | exact trivial | (refine ⟨?_, ?_⟩ <;> first | omega | (simp only [lens] at *; omega)) | omega | (simp only [lens] at *; omega)
     ·
      show (List.length list) - (i + 1) < k30q
      first | omega | (simp only [lens]; omega)
     ·
      show (List.length list) - (i + 1) < (List.length list) - i
      first | omega | (simp only [lens]; omega)
   ·
    intro h38
    have h38q := (of_decide_eq_false h38)
    have e39 := e29.trans (Go.Am.bif_f h38)
    refine AW.kp [0] [] ⟨[(0, sD10 list)], []⟩ ?_
    refine AW.exit ?_
    refine AW.meet () (by kernel_rfl) ⟨?_, e39⟩
    show True
    first | assumption | exact trivial | omega
 ·
  intro x hR
  obtain ⟨hJ0, e40⟩ := hR
  replace hJ0 : True := hJ0
  have e41 := e0.trans (Go.Am.elim_l e40)
  refine AW.seq (AW.seq (AW.r1 hC [0, 21] [] ⟨[(0, sD10 list), (21, sB (decide (6 < ((List.length list : Nat) : Int))))], []⟩ ?_))
  refine AW.cd (decide (6 < ((List.length list : Nat) : Int))) ?_ ?_
  ·
   intro h42
   have h42q := (of_decide_eq_true h42)
   have e43 := e41.trans (Go.Am.bif_t h42)
   refine AW.seq (AW.r1 hC [4] [] ⟨[(4, sI 0)], []⟩ ?_)
   exact AW.ret (AW.rI 0 e43)
  ·
   intro h44
   have h44q := (of_decide_eq_false h44)
   have e45 := e41.trans (Go.Am.bif_f h44)
   refine AW.kp [0] [] ⟨[(0, sD10 list)], []⟩ ?_
   refine AW.skip (AW.seq (AW.r1 hC [4] [] ⟨[(4, sI ((List.length list : Nat) : Int))], []⟩ ?_))
   exact AW.ret (AW.rI ((List.length list : Nat) : Int) e45)

def validCols_l0 (cols : List Int) (width : Int) : Nat → Nat → Unit ⊕ Bool
 | 0, i => .inl ()
 | k + 1, i => (bif (decide (((i : Nat) : Int) < ((List.length cols : Nat) : Int))) then (bif (bif (!(inRange (List.getD cols i 0) 0 (width - 1))) then true else (bif (decide (0 < ((i : Nat) : Int))) then (decide ((List.getD cols i 0) ≤ (List.getD cols (Int.toNat (((i : Nat) : Int) - 1)) 0))) else false)) then (.inr false) else (validCols_l0 cols width k (i + 1))) else (.inl ()))

def validCols (cols : List Int) (width : Int) : Bool := (Sum.elim (fun _ => true) (fun r => r) (validCols_l0 cols width ((List.length cols) - 0 + 1) 0))

def validCols_sp : FnSpec := mkSpec [.val (.slice (.int .i64)), .val (.int .i64)] [.val .bool] (fun (cols : List Int) (width : Int) => 0 ≤ width ∧ width ≤ 6) (fun (cols : List Int) (width : Int) => [⟨.bool, (validCols cols width)⟩])

theorem validCols_ok : FnOK Try.prog 34 validCols_sp := by
 have hC : CtxOK Try.prog (mkCtx tyL [(30, inRange_sp)]) := CtxOK.cons inRange_ok (CtxOK.nil tyOK)
 have hM : Try.prog.follows .mixedOrders = true := Try.checked.mixed
 refine FnOK.of_body Try.func34 (by kernel_rfl) rfl (C := (mkCtx tyL [(30, inRange_sp)])) hC.ty (by kernel_rfl) ?_
 intro (cols : List Int) (width : Int) hwf hpre E
 have hpre : 0 ≤ width ∧ width ≤ 6 := hpre
 have hw_cols : Wf ⟨(.slice (.int .i64)), (cols : List Int)⟩ := hwf _ (List.Mem.head _)
 have hl_cols : ((List.length cols : Nat) : Int) ≤ 9223372036854775807 := hw_cols.len
 have hw_width : Wf ⟨(.int .i64), (width : Int)⟩ := hwf _ (List.Mem.tail _ (List.Mem.head _))
 have hr_width : -9223372036854775808 ≤ width ∧ width ≤ 9223372036854775807 := hw_width.int_inv
 have e0 : validCols cols width = validCols cols width := rfl
 refine AW.seq (AW.r1 hC [0, 1] [] ⟨[(0, sD9 cols), (1, sI width)], []⟩ ?_)
 refine AW.seq (AW.seq (AW.r1 hC [0, 1, 5] [] ⟨[(0, sD9 cols), (1, sI width), (5, sI 0)], []⟩ ?_))
 refine AW.cutQ (α := Unit) (fun x => ⟨[], []⟩) (fun x => (True) ∧ (validCols_l0 cols width ((List.length cols) - 0 + 1) 0) = (.inl ())) ?_ ?_
 ·
  skip
  refine AW.block (AW.loop (α := Nat) (fun x => ⟨[(0, sD9 cols), (1, sI width), (5, sI ((x : Nat) : Int))], []⟩) (fun x => (True) ∧ ∃ k, (List.length cols) - x < k ∧ (validCols_l0 cols width ((List.length cols) - 0 + 1) 0) = validCols_l0 cols width k x) (fun x => (List.length cols) - x) 0 (by kernel_rfl) ⟨?_, _, Nat.lt_succ_self _, rfl⟩ ?_)
  ·
   show True
   first | exact trivial | (refine ⟨?_, ?_⟩ <;> first | omega | simp) | omega | simp
  ·
   intro i hR
   obtain ⟨hI0, k30, hk28, e29⟩ := hR
   replace hI0 : True := hI0
   replace hk28 : (List.length cols) - i < k30 := hk28
   obtain ⟨k30q, rfl⟩ : ∃ k, k30 = k + 1 := ⟨k30 - 1, by omega⟩
   refine AW.seq (AW.seq (AW.r1 hC [0, 1, 5, 9] [] ⟨[(0, sD9 cols), (1, sI width), (5, sI ((i : Nat) : Int)), (9, sB (decide (((i : Nat) : Int) < ((List.length cols : Nat) : Int))))], []⟩ ?_))
   refine AW.cd (decide (((i : Nat) : Int) < ((List.length cols : Nat) : Int))) ?_ ?_
   ·
    intro h31
    have h31q := (of_decide_eq_true h31)
    have e32 := e29.trans (Go.Am.bif_t h31)
    refine AW.kp [0, 1, 5] [] ⟨[(0, sD9 cols), (1, sI width), (5, sI ((i : Nat) : Int))], []⟩ ?_
    refine AW.skip (AW.seq (AW.block (AW.seq (AW.d0 hC hM [0, 1, 5, 35] [] ⟨[(0, sD9 cols), (1, sI width), (5, sI ((i : Nat) : Int)), (35, sB (bif (!(inRange (List.getD cols i 0) 0 (width - 1))) then true else (bif (decide (0 < ((i : Nat) : Int))) then (decide ((List.getD cols i 0) ≤ (List.getD cols (Int.toNat (((i : Nat) : Int) - 1)) 0))) else false)))], []⟩ [IX ((i : Nat) : Int) ((List.length cols : Nat) : Int), R64 (width - 1), (True), (((!(inRange (List.getD cols i 0) 0 (width - 1))) = false) → (((!(inRange (List.getD cols i 0) 0 (width - 1))) = false))), (((!(inRange (List.getD cols i 0) 0 (width - 1))) = false) → (((!(inRange (List.getD cols i 0) 0 (width - 1))) = false))), ((((!(inRange (List.getD cols i 0) 0 (width - 1))) = false) ∧ ((decide (0 < ((i : Nat) : Int))) = true)) → ((((!(inRange (List.getD cols i 0) 0 (width - 1))) = false) ∧ ((decide (0 < ((i : Nat) : Int))) = true)))), ((((!(inRange (List.getD cols i 0) 0 (width - 1))) = false) ∧ ((decide (0 < ((i : Nat) : Int))) = true)) → ((((!(inRange (List.getD cols i 0) 0 (width - 1))) = false) ∧ ((decide (0 < ((i : Nat) : Int))) = true)))), ((((!(inRange (List.getD cols i 0) 0 (width - 1))) = false) ∧ ((decide (0 < ((i : Nat) : Int))) = true)) → IX ((i : Nat) : Int) ((List.length cols : Nat) : Int)), ((((!(inRange (List.getD cols i 0) 0 (width - 1))) = false) ∧ ((decide (0 < ((i : Nat) : Int))) = true)) → ((((!(inRange (List.getD cols i 0) 0 (width - 1))) = false) ∧ ((decide (0 < ((i : Nat) : Int))) = true)))), ((((!(inRange (List.getD cols i 0) 0 (width - 1))) = false) ∧ ((decide (0 < ((i : Nat) : Int))) = true)) → ((((!(inRange (List.getD cols i 0) 0 (width - 1))) = false) ∧ ((decide (0 < ((i : Nat) : Int))) = true)))), ((((!(inRange (List.getD cols i 0) 0 (width - 1))) = false) ∧ ((decide (0 < ((i : Nat) : Int))) = true)) → R64 (((i : Nat) : Int) - 1)), ((((!(inRange (List.getD cols i 0) 0 (width - 1))) = false) ∧ ((decide (0 < ((i : Nat) : Int))) = true)) → ((((!(inRange (List.getD cols i 0) 0 (width - 1))) = false) ∧ ((decide (0 < ((i : Nat) : Int))) = true)))), ((((!(inRange (List.getD cols i 0) 0 (width - 1))) = false) ∧ ((decide (0 < ((i : Nat) : Int))) = true)) → ((((!(inRange (List.getD cols i 0) 0 (width - 1))) = false) ∧ ((decide (0 < ((i : Nat) : Int))) = true)))), ((((!(inRange (List.getD cols i 0) 0 (width - 1))) = false) ∧ ((decide (0 < ((i : Nat) : Int))) = true)) → IX (((i : Nat) : Int) - 1) ((List.length cols : Nat) : Int)), ((((!(inRange (List.getD cols i 0) 0 (width - 1))) = false) ∧ ((decide (0 < ((i : Nat) : Int))) = true)) → ((((!(inRange (List.getD cols i 0) 0 (width - 1))) = false) ∧ ((decide (0 < ((i : Nat) : Int))) = true)))), ((((!(inRange (List.getD cols i 0) 0 (width - 1))) = false) ∧ ((decide (0 < ((i : Nat) : Int))) = true)) → ((((!(inRange (List.getD cols i 0) 0 (width - 1))) = false) ∧ ((decide (0 < ((i : Nat) : Int))) = true)))), ((((!(inRange (List.getD cols i 0) 0 (width - 1))) = false) ∧ ((decide (0 < ((i : Nat) : Int))) = true)) → ((((!(inRange (List.getD cols i 0) 0 (width - 1))) = false) ∧ ((decide (0 < ((i : Nat) : Int))) = true)))), (((!(inRange (List.getD cols i 0) 0 (width - 1))) = false) → (((!(inRange (List.getD cols i 0) 0 (width - 1))) = false))), (((!(inRange (List.getD cols i 0) 0 (width - 1))) = false) → (((decide (0 < ((i : Nat) : Int))) = true) → ((((!(inRange (List.getD cols i 0) 0 (width - 1))) = false) ∧ ((decide (0 < ((i : Nat) : Int))) = true))))), (((!(inRange (List.getD cols i 0) 0 (width - 1))) = false) → (((!(inRange (List.getD cols i 0) 0 (width - 1))) = false)))] ?_ ?_))))
    ·
     refine ⟨?_, ?_, ?_, ?_, ?_, ?_, ?_, ?_, ?_, ?_, ?_, ?_, ?_, ?_, ?_, ?_, ?_, ?_, ?_, ?_, trivial⟩
     ·
      refine IX.of ?_
      first | omega | (dsimp only; omega) | (simp only [lens] at *; omega)
     ·
      refine R64.of ?_
      first | omega | (dsimp only; omega) | (simp only [lens] at *; omega)
     ·
      trivial
     ·
      intro g33
      have g33p0 : (inRange (List.getD cols i 0) 0 (width - 1)) = true := (Go.Am.not_neg g33)
      first | assumption | exact ⟨by assumption, by assumption⟩
     ·
      intro g34
      have g34p0 : (inRange (List.getD cols i 0) 0 (width - 1)) = true := (Go.Am.not_neg g34)
      first | assumption | exact ⟨by assumption, by assumption⟩
     ·
      intro g35
      have g35p0 : (inRange (List.getD cols i 0) 0 (width - 1)) = true := (Go.Am.not_neg (g35).1)
      have g35p1 : 0 < ((i : Nat) : Int) := (of_decide_eq_true (g35).2)
      first | assumption | exact ⟨by assumption, by assumption⟩
     ·
      intro g36
      have g36p0 : (inRange (List.getD cols i 0) 0 (width - 1)) = true := (Go.Am.not_neg (g36).1)
      have g36p1 : 0 < ((i : Nat) : Int) := (of_decide_eq_true (g36).2)
      first | assumption | exact ⟨by assumption, by assumption⟩
     ·
      intro g37
      have g37p0 : (inRange (List.getD cols i 0) 0 (width - 1)) = true := (Go.Am.not_neg (g37).1)
      have g37p1 : 0 < ((i : Nat) : Int) := (of_decide_eq_true (g37).2)
      refine IX.of ?_
      first | omega | (dsimp only; omega) | (simp only [lens] at *; omega)
     ·
      intro g38
      have g38p0 : (inRange (List.getD cols i 0) 0 (width - 1)) = true := (Go.Am.not_neg (g38).1)
      have g38p1 : 0 < ((i : Nat) : Int) := (of_decide_eq_true (g38).2)
      first | assumption | exact ⟨by assumption, by assumption⟩
     ·
      intro g39
      have g39p0 : (inRange (List.getD cols i 0) 0 (width - 1)) = true := (Go.Am.not_neg (g39).1)
      have g39p1 : 0 < ((i : Nat) : Int) := (of_decide_eq_true (g39).2)
      first | assumption | exact ⟨by assumption, by assumption⟩
     ·
      intro g40
      have g40p0 : (inRange (List.getD cols i 0) 0 (width - 1)) = true := (Go.Am.not_neg (g40).1)
      have g40p1 : 0 < ((i : Nat) : Int) := (of_decide_eq_true (g40).2)
      refine R64.of ?_
      first | omega | (dsimp only; omega) | (simp only [lens] at *; omega)
     ·
      intro g41
      have g41p0 : (inRange (List.getD cols i 0) 0 (width - 1)) = true := (Go.Am.not_neg (g41).1)
      have g41p1 : 0 < ((i : Nat) : Int) := (of_decide_eq_true (g41).2)
      first | assumption | exact ⟨by assumption, by assumption⟩
     ·
      intro g42
      have g42p0 : (inRange (List.getD cols i 0) 0 (width - 1)) = true := (Go.Am.not_neg (g42).1)
      have g42p1 : 0 < ((i : Nat) : Int) := (of_decide_eq_true (g42).2)
      first | assumption | exact ⟨by assumption, by assumption⟩
     ·
      intro g43
      have g43p0 : (inRange (List.getD cols i 0) 0 (width - 1)) = true := (Go.Am.not_neg (g43).1)
      have g43p1 : 0 < ((i : Nat) : Int) := (of_decide_eq_true (g43).2)
      refine IX.of ?_
      first | omega | (dsimp only; omega) | (simp only [lens] at *; omega)
     ·
      intro g44
      have g44p0 : (inRange (List.getD cols i 0) 0 (width - 1)) = true := (Go.Am.not_neg (g44).1)
      have g44p1 : 0 < ((i : Nat) : Int) := (of_decide_eq_true (g44).2)
      first | assumption | exact ⟨by assumption, by assumption⟩
     ·
      intro g45
      have g45p0 : (inRange (List.getD cols i 0) 0 (width - 1)) = true := (Go.Am.not_neg (g45).1)
      have g45p1 : 0 < ((i : Nat) : Int) := (of_decide_eq_true (g45).2)
      first | assumption | exact ⟨by assumption, by assumption⟩
     ·
      intro g46
      have g46p0 : (inRange (List.getD cols i 0) 0 (width - 1)) = true := (Go.Am.not_neg (g46).1)
      have g46p1 : 0 < ((i : Nat) : Int) := (of_decide_eq_true (g46).2)
      first | assumption | exact ⟨by assumption, by assumption⟩
     ·
      intro g47
      have g47p0 : (inRange (List.getD cols i 0) 0 (width - 1)) = true := (Go.Am.not_neg g47)
      first | assumption | exact ⟨by assumption, by assumption⟩
     ·
      intro g48
      have g48p0 : (inRange (List.getD cols i 0) 0 (width - 1)) = true := (Go.Am.not_neg g48)
      intro g49
      have g49p0 : 0 < ((i : Nat) : Int) := (of_decide_eq_true g49)
      first | assumption | exact ⟨by assumption, by assumption⟩
     ·
      intro g50
      have g50p0 : (inRange (List.getD cols i 0) 0 (width - 1)) = true := (Go.Am.not_neg g50)
      first | assumption | exact ⟨by assumption, by assumption⟩
    refine AW.cd (bif (!(inRange (List.getD cols i 0) 0 (width - 1))) then true else (bif (decide (0 < ((i : Nat) : Int))) then (decide ((List.getD cols i 0) ≤ (List.getD cols (Int.toNat (((i : Nat) : Int) - 1)) 0))) else false)) ?_ ?_
    ·
     intro h51
     have h51q : ((inRange (List.getD cols i 0) 0 (width - 1)) = false) ∨ ((0 < ((i : Nat) : Int)) ∧ ((List.getD cols i 0) ≤ (List.getD cols (Int.toNat (((i : Nat) : Int) - 1)) 0))) := (Or.imp (fun h => (Go.Am.not_pos h)) (fun h => (And.imp (fun h => (of_decide_eq_true h)) (fun h => (of_decide_eq_true h)) (Go.Am.and_pos h))) (Go.Am.or_pos h51))
     have e52 := e32.trans (Go.Am.bif_t h51)
     refine AW.seq (AW.r1 hC [4] [] ⟨[(4, sB false)], []⟩ ?_)
     refine AW.ret ?_
     have e53 := e0.trans (Go.Am.elim_r e52)
     exact AW.rB false e53
    ·
     intro h54
     have h54q : ((inRange (List.getD cols i 0) 0 (width - 1)) = true) ∧ ((¬ (0 < ((i : Nat) : Int))) ∨ (¬ ((List.getD cols i 0) ≤ (List.getD cols (Int.toNat (((i : Nat) : Int) - 1)) 0)))) := (And.imp (fun h => (Go.Am.not_neg h)) (fun h => (Or.imp (fun h => (of_decide_eq_false h)) (fun h => (of_decide_eq_false h)) (Go.Am.and_neg h))) (Go.Am.or_neg h54))
     have e55 := e32.trans (Go.Am.bif_f h54)
     refine AW.kp [0, 1, 5] [] ⟨[(0, sD9 cols), (1, sI width), (5, sI ((i : Nat) : Int))], []⟩ ?_
     refine AW.skip (AW.r0 hC [0, 1, 5] [] ⟨[(0, sD9 cols), (1, sI width), (5, sI ((i + 1 : Nat) : Int))], []⟩ [R64 ((i + 1 : Nat) : Int)] ?_ ?_)
     ·
      refine ⟨?_, trivial⟩
      ·
       refine R64.of ?_
       first | omega | (dsimp only; omega) | (simp only [lens] at *; omega)
     refine AW.back (x := i) (i + 1) (by kernel_rfl) ⟨?_, k30q, ?_, e55⟩ ?_
     ·
      show True
      first | assumption | exact trivial | (refine ⟨?_, ?_⟩ <;> first | omega | (simp only [lens] at *; omega)) | omega | (simp only [lens] at *; omega)
     ·
      show (List.length cols) - (i + 1) < k30q
      first | omega | (simp only [lens]; omega)
     ·
      show (List.length cols) - (i + 1) < (List.length cols) - i
      first | omega | (simp only [lens]; omega)
   ·
    intro h56
    have h56q := (of_decide_eq_false h56)
    have e57 := e29.trans (Go.Am.bif_f h56)
    refine AW.kp [] [] ⟨[], []⟩ ?_
    refine AW.exit ?_
    refine AW.meet () (by kernel_rfl) ⟨?_, e57⟩
    show True
    first | assumption | exact trivial | omega
 ·
  intro x hR
  obtain ⟨hJ0, e58⟩ := hR
  replace hJ0 : True := hJ0
  have e59 := e0.trans (Go.Am.elim_l e58)
  refine AW.seq (AW.r1 hC [4] [] ⟨[(4, sB true)], []⟩ ?_)
  exact AW.ret (AW.rB true e59)

end
end Go.Proofs.Ytbcgmoaipneoeaa
