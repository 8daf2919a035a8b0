/-
  A part of the proof of this claim (ApC): what functions of the program compute, and plain facts of that. No conditions.
-/
import Derived.Test.YtodcdgolcbdkgaaAp8
set_option linter.all false
namespace Go.Proofs.Ytodcdgolcbdkgaa
open Go Go.Am
open Go.Am.AW (seq r1U ret kpU cdE r0U r1 meet rI block rB bk exit lpB r0 kp cutQ cd d0U)
open List (length getD)
noncomputable section

def ivalidWidths_l0 (ws : List Int) : Nat → Nat → Unit ⊕ Bool
 | 0, v15 => .inl ()
 | k + 1, v15 => (bif (decide ((v15 : Int) < (length ws : Int))) then (bif (!(validWidth (getD ws v15 0))) then (.inr false) else (ivalidWidths_l0 ws k (v15 + 1))) else (.inl ()))

def ivalidWidths (ws : List Int) : Bool := (bif (bif (decide ((length ws : Int) < 1)) then true else (decide (4 < (length ws : Int)))) then false else (Sum.elim (fun _ => true) (fun r => r) (ivalidWidths_l0 ws ((length ws) - 0 + 1) 0)))

def ivalidWidths_sp : FnSpec := mkSpec [.val (.slice (.int .i64))] [.val .bool] (fun (ws : List Int) => True) (fun (ws : List Int) => [⟨.bool, (ivalidWidths ws)⟩])

theorem ivalidWidths_ok : FnOK Try.prog 94 ivalidWidths_sp := by
 have hC : CtxOK Try.prog (mkCtx tyL [(123, validWidth_sp)]) := CtxOK.cons validWidth_ok (CtxOK.nil tyOK); refine FnOK.of_body Try.func94 (by kernel_rfl) rfl (C := (mkCtx tyL [(123, validWidth_sp)])) hC.ty (by kernel_rfl) ?_; intro (ws : List Int) hwf hpre E; have e0 : ivalidWidths ws = ivalidWidths ws := rfl; refine seq (r1U hC [0] [] [] [] ?_); refine seq (seq (r0U hC [0, 12] [] [(12, sB (bif (decide ((length ws : Int) < 1)) then true else (decide (4 < (length ws : Int)))))] [] [(((decide ((length ws : Int) < 1)) = false) → (((decide ((length ws : Int) < 1)) = false))), (((decide ((length ws : Int) < 1)) = false) → (((decide ((length ws : Int) < 1)) = false))), (((decide ((length ws : Int) < 1)) = false) → (((decide ((length ws : Int) < 1)) = false)))] ?_ ?_))
 ·
  exact ⟨(by intro g1; assumption), (by intro g2; assumption), (by intro g3; assumption), trivial⟩
 refine cdE e0 ?_ ?_
 · intro h4q e5; refine seq (r1 hC [2] [] ⟨[(2, sB false)], []⟩ ?_); exact ret (rB _ e5)
 ·
  intro h6q e7; refine kpU [0] [] [] [] ?_; refine AW.skip (seq (seq (r1 hC [13, 14, 15] [] ⟨[(13, sD7 ws), (14, sI (length ws : Int)), (15, sI 0)], []⟩ ?_))); refine lpB (ζ := Unit) (fun x => ⟨[], []⟩) (fun x => True) (fun x => (.inl ())) (α := Nat) (fun x => ⟨[(13, sD7 ws), (14, sI (length ws : Int)), (15, sI (x : Int))], []⟩) (fun x => True) (fun x => (length ws) - x) (fun k x => ivalidWidths_l0 ws k x) 0 (by kernel_rfl) ?_ ?_ ?_
  · exact trivial
  ·
   intro v15 k37q hI0 hk35 e36; refine seq (r1U hC [13, 14, 15, 16] [] [(16, sB (decide ((v15 : Int) < (length ws : Int))))] [] ?_); refine seq (cdE e36 ?_ ?_)
   ·
    intro h38q e39; refine kpU [13, 14, 15] [] [] [] ?_; refine AW.skip (seq (block (seq (r0U hC [4, 13, 14, 15] [] [(4, sI (getD ws v15 0))] [] [IX (v15 : Int) (length ws : Int)] ?_ ?_))))
    ·
     exact ⟨IX.of (by omega), trivial⟩
    refine seq (r0U hC [13, 14, 15, 21] [] [(21, sB (!(validWidth (getD ws v15 0))))] [] [(True)] ?_ ?_)
    ·
     exact ⟨trivial, trivial⟩
    refine cdE e39 ?_ ?_
    · intro h40q e41; refine seq (r1 hC [2] [] ⟨[(2, sB false)], []⟩ ?_); refine ret ?_; have e42 := e7.trans (elim_r e41); exact rB _ e42
    ·
     intro h43q e44; refine kpU [13, 14, 15] [] [] [] ?_; refine AW.skip (r0U hC [13, 14, 15] [] [(15, sI ((v15 + 1 : Nat) : Int))] [] [R64 ((v15 + 1 : Nat) : Int)] ?_ ?_)
     ·
      exact ⟨R64.of (by omega), trivial⟩
     refine bk (v15 + 1) e44 hk35 ?_ ?_
     · assumption
     · omega
   · intro h45q e46; refine kp [] [] ⟨[], []⟩ ?_; refine exit ?_; refine meet () (by kernel_rfl) ⟨?_, e46⟩; assumption
  · intro x hJ0 e47; have e48 := e7.trans (elim_l e47); refine seq (r1 hC [2] [] ⟨[(2, sB true)], []⟩ ?_); exact ret (rB _ e48)

def validWidths_l0 (ws : List Int) : Nat → Nat → Unit ⊕ Bool
 | 0, i => .inl ()
 | k + 1, i => (bif (decide ((i : Int) < (length ws : Int))) then (bif (!(inRange (getD ws i 0) 1 6)) then (.inr false) else (validWidths_l0 ws k (i + 1))) else (.inl ()))

def validWidths (ws : List Int) : Bool := (Sum.elim (fun _ => (inRange (length ws : Int) 1 4)) (fun r => r) (validWidths_l0 ws ((length ws) - 0 + 1) 0))

def validWidths_sp : FnSpec := mkSpec [.val (.slice (.int .i64))] [.val .bool] (fun (ws : List Int) => True) (fun (ws : List Int) => [⟨.bool, (validWidths ws)⟩])

theorem validWidths_ok : FnOK Try.prog 111 validWidths_sp := by
 have hC : CtxOK Try.prog (mkCtx tyL [(88, inRange_sp)]) := CtxOK.cons inRange_ok (CtxOK.nil tyOK); refine FnOK.of_body Try.func111 (by kernel_rfl) rfl (C := (mkCtx tyL [(88, inRange_sp)])) hC.ty (by kernel_rfl) ?_; intro (ws : List Int) hwf hpre E; have hw_ws : Wf ⟨(.slice (.int .i64)), (ws : List Int)⟩ := hwf _ (List.Mem.head _); have hl_ws : (length ws : Int) ≤ 9223372036854775807 := hw_ws.len; have e0 : validWidths ws = validWidths ws := rfl; refine seq (r1U hC [0] [] [] [] ?_); refine seq (seq (r1U hC [0, 3] [] [(3, sI 0)] [] ?_)); refine lpB (ζ := Unit) (fun x => ⟨[(0, sD7 ws)], []⟩) (fun x => True) (fun x => (.inl ())) (α := Nat) (fun x => ⟨[(0, sD7 ws), (3, sI (x : Int))], []⟩) (fun x => True) (fun x => (length ws) - x) (fun k x => validWidths_l0 ws k x) 0 (by kernel_rfl) ?_ ?_ ?_
 · exact trivial
 ·
  intro i k30q hI0 hk28 e29; refine seq (seq (r1U hC [0, 3, 7] [] [(7, sB (decide ((i : Int) < (length ws : Int))))] [] ?_)); refine cdE e29 ?_ ?_
  ·
   intro h31q e32; refine kpU [0, 3] [] [] [] ?_; refine AW.skip (seq (block (seq (r0U hC [0, 3, 15] [] [(15, sB (!(inRange (getD ws i 0) 1 6)))] [] [IX (i : Int) (length ws : Int), (True)] ?_ ?_))))
   ·
    exact ⟨IX.of (by omega), trivial, trivial⟩
   refine cdE e32 ?_ ?_
   · intro h33q e34; refine seq (r1 hC [2] [] ⟨[(2, sB false)], []⟩ ?_); refine ret ?_; have e35 := e0.trans (elim_r e34); exact rB _ e35
   ·
    intro h36q e37; refine kpU [0, 3] [] [] [] ?_; refine AW.skip (r0U hC [0, 3] [] [(3, sI ((i + 1 : Nat) : Int))] [] [R64 ((i + 1 : Nat) : Int)] ?_ ?_)
    ·
     exact ⟨R64.of (by omega), trivial⟩
    refine bk (i + 1) e37 hk28 ?_ ?_
    · assumption
    · omega
  · intro h38q e39; refine kpU [0] [] [] [] ?_; refine exit ?_; refine meet () (by kernel_rfl) ⟨?_, e39⟩; assumption
 ·
  intro x hJ0 e40; have e41 := e0.trans (elim_l e40); refine seq (r0 hC [2] [] ⟨[(2, sB (inRange (length ws : Int) 1 4))], []⟩ [(True)] ?_ ?_)
  ·
   exact ⟨trivial, trivial⟩
  exact ret (rB _ e41)

def partsOfKind_j0 (kind : Int) : Bool :=
 (bif (kind == 2) then (kind == 2) else (kind == 3))

def partsOfKind_j1 (kind : Int) : Bool :=
 (bif (kind == 4) then (kind == 4) else (kind == 5))

def partsOfKind_j2 (kind : Int) : Bool :=
 (bif (kind == 7) then (kind == 7) else (kind == 8))

def partsOfKind (kind : Int) : Int × Int := (bif (kind == 1) then (0, 0) else (andThen (partsOfKind_j0 kind) (fun z => (fun (v7 : Bool) => (bif v7 then (1, 1) else (andThen (partsOfKind_j1 kind) (fun z => (fun (v10 : Bool) => (bif v10 then (1, 2) else (bif (kind == 6) then (0, 2) else (andThen (partsOfKind_j2 kind) (fun z => (fun (v15 : Bool) => (bif v15 then (0, 1) else (0, (-1)))) z))))) z)))) z)))

def partsOfKind_sp : FnSpec := mkSpec [.val (.int .i64)] [.val (.int .i64), .val (.int .i64)] (fun (kind : Int) => True) (fun (kind : Int) => [⟨(.int .i64), ((partsOfKind kind).1)⟩, ⟨(.int .i64), ((partsOfKind kind).2)⟩])

theorem partsOfKind_ok : FnOK Try.prog 124 partsOfKind_sp := by
 have hC : CtxOK Try.prog (mkCtx tyL []) := CtxOK.nil tyOK; refine FnOK.of_body Try.func124 (by kernel_rfl) rfl (C := (mkCtx tyL [])) hC.ty (by kernel_rfl) ?_; intro (kind : Int) hwf hpre E; have e0 : partsOfKind kind = partsOfKind kind := rfl; refine seq (r1U hC [0] [] [] [] ?_); refine seq (seq (r1 hC [4] [] ⟨[(4, sI kind)], []⟩ ?_)); refine block (seq (r1U hC [4, 5] [] [(5, sB (kind == 1))] [] ?_)); refine cdE e0 ?_ ?_
 · intro h1139q e1140; refine seq (r1 hC [2, 3] [] ⟨[(2, sI 0), (3, sI 0)], []⟩ ?_); exact ret (AW.retE (β := Int × Int) (fun v => [⟨(.int .i64), v.1⟩, ⟨(.int .i64), v.2⟩]) (fun v => []) (v := (0, 0)) e1140 (by kernel_rfl) rfl rfl)
 ·
  intro h1141q e1142; refine seq (seq (r1U hC [4, 7] [] [(7, sB (kind == 2))] [] ?_)); refine cutQ (α := Bool) (fun x => ⟨[(4, sI kind), (7, sB x)], []⟩) (fun x => (True) ∧ (partsOfKind_j0 kind) = x) ?_ ?_
  ·
   skip; have e1151 : (partsOfKind_j0 kind) = (partsOfKind_j0 kind) := rfl; refine cd (kind == 2) ?_ ?_
   · intro h1152; have h1152q := (beq_pos h1152); have e1153 := e1151.trans (bif_t h1152); refine AW.skip ?_; refine meet (kind == 2) (by kernel_rfl) ⟨?_, e1153⟩; exact trivial
   · intro h1154; have h1154q := (beq_neg h1154); have e1155 := e1151.trans (bif_f h1154); refine r1U hC [4, 7] [] [(7, sB (kind == 3))] [] ?_; refine meet (kind == 3) (by kernel_rfl) ⟨?_, e1155⟩; exact trivial
  ·
   intro v7 hR; obtain ⟨hM0, e1156⟩ := hR; replace hM0 : True := hM0; have e1157 := e1142.trans (then_eq e1156); refine cdE e1157 ?_ ?_
   · intro h1325q e1326; refine seq (r1 hC [2, 3] [] ⟨[(2, sI 1), (3, sI 1)], []⟩ ?_); exact ret (AW.retE (β := Int × Int) (fun v => [⟨(.int .i64), v.1⟩, ⟨(.int .i64), v.2⟩]) (fun v => []) (v := (1, 1)) e1326 (by kernel_rfl) rfl rfl)
   ·
    intro h1327q e1328; refine seq (seq (r1U hC [4, 10] [] [(10, sB (kind == 4))] [] ?_)); refine cutQ (α := Bool) (fun x => ⟨[(4, sI kind), (10, sB x)], []⟩) (fun x => (True) ∧ (partsOfKind_j1 kind) = x) ?_ ?_
    ·
     skip; have e1337 : (partsOfKind_j1 kind) = (partsOfKind_j1 kind) := rfl; refine cd (kind == 4) ?_ ?_
     · intro h1338; have h1338q := (beq_pos h1338); have e1339 := e1337.trans (bif_t h1338); refine AW.skip ?_; refine meet (kind == 4) (by kernel_rfl) ⟨?_, e1339⟩; exact trivial
     · intro h1340; have h1340q := (beq_neg h1340); have e1341 := e1337.trans (bif_f h1340); refine r1U hC [4, 10] [] [(10, sB (kind == 5))] [] ?_; refine meet (kind == 5) (by kernel_rfl) ⟨?_, e1341⟩; exact trivial
    ·
     intro v10 hR; obtain ⟨hM1, e1342⟩ := hR; replace hM1 : True := hM1; have e1343 := e1328.trans (then_eq e1342); refine cdE e1343 ?_ ?_
     · intro h1414q e1415; refine seq (r1 hC [2, 3] [] ⟨[(2, sI 1), (3, sI 2)], []⟩ ?_); exact ret (AW.retE (β := Int × Int) (fun v => [⟨(.int .i64), v.1⟩, ⟨(.int .i64), v.2⟩]) (fun v => []) (v := (1, 2)) e1415 (by kernel_rfl) rfl rfl)
     ·
      intro h1416q e1417; refine seq (r1U hC [4, 13] [] [(13, sB (kind == 6))] [] ?_); refine cdE e1417 ?_ ?_
      · intro h1449q e1450; refine seq (r1 hC [2, 3] [] ⟨[(2, sI 0), (3, sI 2)], []⟩ ?_); exact ret (AW.retE (β := Int × Int) (fun v => [⟨(.int .i64), v.1⟩, ⟨(.int .i64), v.2⟩]) (fun v => []) (v := (0, 2)) e1450 (by kernel_rfl) rfl rfl)
      ·
       intro h1451q e1452; refine seq (seq (r1U hC [4, 15] [] [(15, sB (kind == 7))] [] ?_)); refine cutQ (α := Bool) (fun x => ⟨[(15, sB x)], []⟩) (fun x => (True) ∧ (partsOfKind_j2 kind) = x) ?_ ?_
       ·
        skip; have e1461 : (partsOfKind_j2 kind) = (partsOfKind_j2 kind) := rfl; refine cd (kind == 7) ?_ ?_
        · intro h1462; have h1462q := (beq_pos h1462); have e1463 := e1461.trans (bif_t h1462); refine kpU [15] [] [] [] ?_; refine AW.skip ?_; refine meet (kind == 7) (by kernel_rfl) ⟨?_, e1463⟩; exact trivial
        · intro h1464; have h1464q := (beq_neg h1464); have e1465 := e1461.trans (bif_f h1464); refine r1 hC [15] [] ⟨[(15, sB (kind == 8))], []⟩ ?_; refine meet (kind == 8) (by kernel_rfl) ⟨?_, e1465⟩; exact trivial
       ·
        intro v15 hR; obtain ⟨hM2, e1466⟩ := hR; replace hM2 : True := hM2; have e1467 := e1452.trans (then_eq e1466); refine cdE e1467 ?_ ?_
        · intro h1473q e1474; refine seq (r1 hC [2, 3] [] ⟨[(2, sI 0), (3, sI 1)], []⟩ ?_); exact ret (AW.retE (β := Int × Int) (fun v => [⟨(.int .i64), v.1⟩, ⟨(.int .i64), v.2⟩]) (fun v => []) (v := (0, 1)) e1474 (by kernel_rfl) rfl rfl)
        · intro h1475q e1476; refine kp [] [] ⟨[], []⟩ ?_; refine AW.skip (seq (r1 hC [2, 3] [] ⟨[(2, sI 0), (3, sI (-1))], []⟩ ?_)); exact ret (AW.retE (β := Int × Int) (fun v => [⟨(.int .i64), v.1⟩, ⟨(.int .i64), v.2⟩]) (fun v => []) (v := (0, (-1))) e1476 (by kernel_rfl) rfl rfl)

def validGroupColumns_l0 (cols : List Int) (width : Int) : Nat → Int → Nat → Unit ⊕ Bool
 | 0, last, v13 => .inl ()
 | k + 1, last, v13 => (bif (decide ((v13 : Int) < (length cols : Int))) then (bif (bif (decide ((getD cols v13 0) ≤ last)) then true else (decide (width ≤ (getD cols v13 0)))) then (.inr false) else (validGroupColumns_l0 cols width k (getD cols v13 0) (v13 + 1))) else (.inl ()))

def validGroupColumns (cols : List Int) (width : Int) : Bool := (bif (decide (6 ≤ (length cols : Int))) then false else (Sum.elim (fun _ => true) (fun r => r) (validGroupColumns_l0 cols width ((length cols) - 0 + 1) (-1) 0)))

def validGroupColumns_sp : FnSpec := mkSpec [.val (.slice (.int .i64)), .val (.int .i64)] [.val .bool] (fun (cols : List Int) (width : Int) => True) (fun (cols : List Int) (width : Int) => [⟨.bool, (validGroupColumns cols width)⟩])

theorem validGroupColumns_ok : FnOK Try.prog 151 validGroupColumns_sp := by
 have hC : CtxOK Try.prog (mkCtx tyL []) := CtxOK.nil tyOK; refine FnOK.of_body Try.func151 (by kernel_rfl) rfl (C := (mkCtx tyL [])) hC.ty (by kernel_rfl) ?_; intro (cols : List Int) (width : Int) hwf hpre E; have e0 : validGroupColumns cols width = validGroupColumns cols width := rfl; refine seq (r1U hC [0, 1] [] [] [] ?_); refine seq (seq (r1U hC [0, 1, 10] [] [(10, sB (decide (6 ≤ (length cols : Int))))] [] ?_)); refine cdE e0 ?_ ?_
 · intro h1q e2; refine seq (r1 hC [4] [] ⟨[(4, sB false)], []⟩ ?_); exact ret (rB _ e2)
 ·
  intro h3q e4; refine kpU [0, 1] [] [] [] ?_; refine AW.skip (seq (r1U hC [0, 1, 5] [] [(5, sI (-1))] [] ?_)); refine seq (seq (r1U hC [1, 5, 11, 12, 13] [] [(11, sD7 cols), (12, sI (length cols : Int)), (13, sI 0)] [] ?_)); refine lpB (ζ := Unit) (fun x => ⟨[], []⟩) (fun x => True) (fun x => (.inl ())) (α := Int × Nat) (fun x => ⟨[(1, sI width), (5, sI x.1), (11, sD7 cols), (12, sI (length cols : Int)), (13, sI ((x.2 : Nat) : Int))], []⟩) (fun x => True) (fun x => (length cols) - x.2) (fun k x => validGroupColumns_l0 cols width k x.1 x.2) ((-1), 0) (by kernel_rfl) ?_ ?_ ?_
  · exact trivial
  ·
   intro x k34q hI0 hk32 e33; obtain ⟨last, v13⟩ := x; refine seq (r1U hC [1, 5, 11, 12, 13, 14] [] [(14, sB (decide ((v13 : Int) < (length cols : Int))))] [] ?_); refine seq (cdE e33 ?_ ?_)
   ·
    intro h35q e36; refine kpU [1, 5, 11, 12, 13] [] [] [] ?_; refine AW.skip (seq (block (seq (r0U hC [1, 5, 7, 11, 12, 13] [] [(7, sI (getD cols v13 0))] [] [IX (v13 : Int) (length cols : Int)] ?_ ?_))))
    ·
     exact ⟨IX.of (by omega), trivial⟩
    refine seq (seq (r0U hC [1, 7, 11, 12, 13, 24] [] [(24, sB (bif (decide ((getD cols v13 0) ≤ last)) then true else (decide (width ≤ (getD cols v13 0)))))] [] [(((decide ((getD cols v13 0) ≤ last)) = false) → (((decide ((getD cols v13 0) ≤ last)) = false))), (((decide ((getD cols v13 0) ≤ last)) = false) → (((decide ((getD cols v13 0) ≤ last)) = false))), (((decide ((getD cols v13 0) ≤ last)) = false) → (((decide ((getD cols v13 0) ≤ last)) = false)))] ?_ ?_))
    ·
     exact ⟨(by intro g37; assumption), (by intro g38; assumption), (by intro g39; assumption), trivial⟩
    refine cdE e36 ?_ ?_
    · intro h40q e41; refine seq (r1 hC [4] [] ⟨[(4, sB false)], []⟩ ?_); refine ret ?_; have e42 := e4.trans (elim_r e41); exact rB _ e42
    ·
     intro h43q e44; refine kpU [1, 7, 11, 12, 13] [] [] [] ?_; refine AW.skip (r1U hC [1, 5, 11, 12, 13] [] [(5, sI (getD cols v13 0))] [] ?_); refine r0U hC [1, 5, 11, 12, 13] [] [(13, sI ((v13 + 1 : Nat) : Int))] [] [R64 ((v13 + 1 : Nat) : Int)] ?_ ?_
     ·
      exact ⟨R64.of (by omega), trivial⟩
     refine bk ((getD cols v13 0), v13 + 1) e44 hk32 ?_ ?_
     · assumption
     · omega
   · intro h45q e46; refine kp [] [] ⟨[], []⟩ ?_; refine exit ?_; refine meet () (by kernel_rfl) ⟨?_, e46⟩; assumption
  · intro x hJ0 e47; have e48 := e4.trans (elim_l e47); refine seq (r1 hC [4] [] ⟨[(4, sB true)], []⟩ ?_); exact ret (rB _ e48)

theorem vgc_len {cols : List Int} {w : Int} (h : validGroupColumns cols w = true) : (length cols : Int) ≤ 5 := by
 unfold validGroupColumns at h; by_cases hc : (6 : Int) ≤ (length cols : Int)
 · rw [decide_eq_true hc, cond_true] at h; cases h
 · omega

def widthOver_j0 (p : Pln) : Bool :=
 (bif ((Pln.Kind p) == 4) then ((Pln.Kind p) == 4) else ((Pln.Kind p) == 5))

def widthOver_j1 (p : Pln) (first : Int) (second : Int) : Unit ⊕ Int :=
 (bif ((Pln.Kind p) == 6) then (bif (first != second) then (.inr 0) else (.inl ())) else (bif ((Pln.Kind p) == 8) then (bif (!(validGroupColumns (Pln.Cols p) first)) then (.inr 0) else (.inr (((length (Pln.Cols p)) + 1 : Nat) : Int))) else (.inl ())))

def widthOver_j2 (p : Pln) (first : Int) (second : Int) (v14 : Bool) : Int ⊕ Int :=
 (bif v14 then (bif (decide (6 < (first + second))) then (.inr 0) else (.inl (first + second))) else (Sum.elim (fun _ => (.inl first)) (fun r => (.inr r)) (widthOver_j1 p first second)))

def widthOver_l0 (p : Pln) (width : Int) : Nat → Nat → Unit ⊕ Int
 | 0, v47 => .inl ()
 | k + 1, v47 => (bif (decide ((v47 : Int) < (length (Pln.Exprs p) : Int))) then (bif (!(iValidExpr (getD (Pln.Exprs p) v47 Xpr.zero) width)) then (.inr 0) else (widthOver_l0 p width k (v47 + 1))) else (.inl ()))

def widthOver (p : Pln) (first : Int) (second : Int) : Int := (andThen (widthOver_j0 p) (fun z => (fun (v14 : Bool) => (Sum.elim (fun z => (fun (width : Int) => (Sum.elim (fun _ => (bif ((Pln.Kind p) == 3) then (length (Pln.Exprs p) : Int) else width)) (fun r => r) (widthOver_l0 p width ((length (Pln.Exprs p)) - 0 + 1) 0))) z) (fun r => r) (widthOver_j2 p first second v14))) z))

def widthOver_sp : FnSpec := mkSpec [.rd (.named 2), .val (.int .i64), .val (.int .i64)] [.val (.int .i64)] (fun (p : Pln) (first : Int) (second : Int) => (0 ≤ first ∧ first ≤ 6) ∧ (0 ≤ second ∧ second ≤ 6)) (fun (p : Pln) (first : Int) (second : Int) => [⟨(.int .i64), (widthOver p first second)⟩])

theorem widthOver_ok : FnOK Try.prog 125 widthOver_sp := by
 have hC : CtxOK Try.prog (mkCtx tyL [(99, iValidExpr_sp), (151, validGroupColumns_sp)]) := CtxOK.cons iValidExpr_ok (CtxOK.cons validGroupColumns_ok (CtxOK.nil tyOK)); have hM : Try.prog.follows .mixedOrders = true := Try.checked.mixed; refine FnOK.of_body Try.func125 (by kernel_rfl) rfl (C := (mkCtx tyL [(99, iValidExpr_sp), (151, validGroupColumns_sp)])) hC.ty (by kernel_rfl) ?_; (intro (p : Pln) (first : Int) (second : Int) hwf hpre E); (have hpre : (0 ≤ first ∧ first ≤ 6) ∧ (0 ≤ second ∧ second ≤ 6) := hpre); have hw_p : Wf ⟨(.named 2), (p : Pln)⟩ := hwf _ (List.Mem.head _); obtain ⟨hr_p_Kind, hr_p_Table, hl_p_Exprs, hl_p_Cols, hl_p_Kids⟩ := Pln.wfl hw_p; (have hw_first : Wf ⟨(.int .i64), (first : Int)⟩ := hwf _ (List.Mem.tail _ (List.Mem.head _))); (have hr_first : -9223372036854775808 ≤ first ∧ first ≤ 9223372036854775807 := hw_first.int_inv); have hw_second : Wf ⟨(.int .i64), (second : Int)⟩ := hwf _ (List.Mem.tail _ (List.Mem.tail _ (List.Mem.head _))); have hr_second : -9223372036854775808 ≤ second ∧ second ≤ 9223372036854775807 := hw_second.int_inv; (have e0 : widthOver p first second = widthOver p first second := rfl); refine seq (r1U hC [0, 1, 2] [] [] [] ?_); (refine seq (r1U hC [0, 1, 2, 7] [] [(7, sI first)] [] ?_)); refine seq (seq (r1U hC [0, 1, 2, 7, 13] [] [(13, sI (Pln.Kind p))] [] ?_)); refine block (seq (seq (r1U hC [0, 1, 2, 7, 13, 14] [] [(14, sB ((Pln.Kind p) == 4))] [] ?_))); refine cutQ (α := Bool) (fun x => ⟨[(0, sR4 p), (1, sI first), (2, sI second), (7, sI first), (13, sI (Pln.Kind p)), (14, sB x)], []⟩) (fun x => (True) ∧ (widthOver_j0 p) = x) ?_ ?_
 ·
  skip; have e681 : (widthOver_j0 p) = (widthOver_j0 p) := rfl; refine cd ((Pln.Kind p) == 4) ?_ ?_
  · intro h682; have h682q := (beq_pos h682); have e683 := e681.trans (bif_t h682); refine AW.skip ?_; refine meet ((Pln.Kind p) == 4) (by kernel_rfl) ⟨?_, e683⟩; exact trivial
  · intro h684; have h684q := (beq_neg h684); have e685 := e681.trans (bif_f h684); refine r1U hC [0, 1, 2, 7, 13, 14] [] [(14, sB ((Pln.Kind p) == 5))] [] ?_; refine meet ((Pln.Kind p) == 5) (by kernel_rfl) ⟨?_, e685⟩; exact trivial
 ·
  intro v14 hR; obtain ⟨hM0, e686⟩ := hR; replace hM0 : True := hM0; have e687 := e0.trans (then_eq e686); refine cutQ (α := Int) (fun x => ⟨[(0, sR4 p), (7, sI x)], []⟩) (fun x => (True) ∧ (widthOver_j2 p first second v14) = (.inl x)) ?_ ?_
  ·
   skip; (have e1072 : (widthOver_j2 p first second v14) = (widthOver_j2 p first second v14) := rfl); refine cd v14 ?_ ?_
   ·
    intro h1073; have h1073q : v14 = true := h1073; have e1074 := e1072.trans (bif_t h1073); refine seq (r0U hC [0, 7] [] [(7, sI (first + second))] [] [R64 (first + second)] ?_ ?_)
    ·
     exact ⟨R64.of (by omega), trivial⟩
    (refine seq (r1U hC [0, 7, 21] [] [(21, sB (decide (6 < (first + second))))] [] ?_)); refine cdE e1074 ?_ ?_
    · intro h1081q e1082; refine seq (r1 hC [6] [] ⟨[(6, sI 0)], []⟩ ?_); refine ret ?_; have e1083 := e687.trans (elim_r e1082); exact rI 0 e1083
    · intro h1084q e1085; refine kpU [0, 7] [] [] [] ?_; refine AW.skip ?_; (refine meet (first + second) (by kernel_rfl) ⟨?_, e1085⟩); exact trivial
   ·
    intro h1086; have h1086q : v14 = false := h1086; have e1087 := e1072.trans (bif_f h1086); refine seq (r1U hC [0, 1, 2, 7, 13, 22] [] [(22, sB ((Pln.Kind p) == 6))] [] ?_); refine cutQ (α := Unit) (fun x => ⟨[(0, sR4 p), (7, sI first)], []⟩) (fun x => (True) ∧ (widthOver_j1 p first second) = (.inl ())) ?_ ?_
    ·
     skip; (have e1204 : (widthOver_j1 p first second) = (widthOver_j1 p first second) := rfl); refine cd ((Pln.Kind p) == 6) ?_ ?_
     ·
      intro h1205; have h1205q := (beq_pos h1205); have e1206 := e1204.trans (bif_t h1205); (refine seq (r1U hC [0, 7, 26] [] [(26, sB (first != second))] [] ?_)); refine cdE e1206 ?_ ?_
      · intro h1214q e1215; refine seq (r1 hC [6] [] ⟨[(6, sI 0)], []⟩ ?_); refine ret ?_; have e1216 := e1087.trans (elim_r e1215); have e1217 := e687.trans (elim_r e1216); exact rI 0 e1217
      · intro h1218q e1219; refine kpU [0, 7] [] [] [] ?_; refine AW.skip ?_; refine meet () (by kernel_rfl) ⟨?_, e1219⟩; exact trivial
     ·
      intro h1220; have h1220q := (beq_neg h1220); have e1221 := e1204.trans (bif_f h1220); refine seq (r1U hC [0, 7, 27] [] [(27, sB ((Pln.Kind p) == 8))] [] ?_); refine cdE e1221 ?_ ?_
      ·
       intro h1244q e1245; refine seq (seq (r0U hC [0, 35] [] [(35, sB (!(validGroupColumns (Pln.Cols p) first)))] [] [(True)] ?_ ?_))
       ·
        exact ⟨trivial, trivial⟩
       refine cdE e1245 ?_ ?_
       · intro h1253q e1254; refine seq (r1 hC [6] [] ⟨[(6, sI 0)], []⟩ ?_); refine ret ?_; have e1255 := e1087.trans (elim_r e1254); have e1256 := e687.trans (elim_r e1255); exact rI 0 e1256
       ·
        intro h1257q e1258; refine kpU [0] [] [] [] ?_; refine AW.skip (seq (r0 hC [6] [] ⟨[(6, sI (((length (Pln.Cols p)) + 1 : Nat) : Int))], []⟩ [R64 (((length (Pln.Cols p)) + 1 : Nat) : Int)] ?_ ?_))
        ·
         exact ⟨R64.of (by (have := vgc_len (by first | exact h1257q | exact h1244q)); omega), trivial⟩
        refine ret ?_; have e1259 := e1087.trans (elim_r e1258); have e1260 := e687.trans (elim_r e1259); exact rI _ e1260
      · intro h1261q e1262; refine kpU [0, 7] [] [] [] ?_; refine AW.skip ?_; refine meet () (by kernel_rfl) ⟨?_, e1262⟩; exact trivial
    · intro x hR; obtain ⟨hM1, e1263⟩ := hR; replace hM1 : True := hM1; have e1264 := e1087.trans (elim_l e1263); (refine meet first (by kernel_rfl) ⟨?_, e1264⟩); exact trivial
  ·
   intro width hR; obtain ⟨hM2, e1265⟩ := hR; replace hM2 : True := hM2; have e1266 := e687.trans (elim_l e1265); refine seq (seq (r1U hC [0, 7, 46, 47] [] [(46, sI (length (Pln.Exprs p) : Int)), (47, sI 0)] [] ?_)); refine lpB (ζ := Unit) (fun x => ⟨[(0, sR4 p), (7, sI width)], []⟩) (fun x => True) (fun x => (.inl ())) (α := Nat) (fun x => ⟨[(0, sR4 p), (7, sI width), (46, sI (length (Pln.Exprs p) : Int)), (47, sI (x : Int))], []⟩) (fun x => True) (fun x => (length (Pln.Exprs p)) - x) (fun k x => widthOver_l0 p width k x) 0 (by kernel_rfl) ?_ ?_ ?_
   · exact trivial
   ·
    intro v47 k1365q hI0 hk1363 e1364; refine seq (r1U hC [0, 7, 46, 47, 48] [] [(48, sB (decide ((v47 : Int) < (length (Pln.Exprs p) : Int))))] [] ?_); refine seq (cdE e1364 ?_ ?_)
    ·
     intro h1370q e1371; refine kpU [0, 7, 46, 47] [] [] [] ?_; refine AW.skip (seq (block (seq (r1U hC [0, 7, 8, 46, 47] [] [(8, sI (v47 : Int))] [] ?_)))); refine seq (r0U hC [0, 7, 46, 47, 59] [] [(59, sB (!(iValidExpr (getD (Pln.Exprs p) v47 Xpr.zero) width)))] [] [IX (v47 : Int) (length (Pln.Exprs p) : Int), (True)] ?_ ?_)
     ·
      exact ⟨IX.of (by omega), trivial, trivial⟩
     refine cdE e1371 ?_ ?_
     · intro h1391q e1392; refine seq (r1 hC [6] [] ⟨[(6, sI 0)], []⟩ ?_); refine ret ?_; have e1393 := e1266.trans (elim_r e1392); exact rI 0 e1393
     ·
      intro h1394q e1395; refine kpU [0, 7, 46, 47] [] [] [] ?_; refine AW.skip (r0U hC [0, 7, 46, 47] [] [(47, sI ((v47 + 1 : Nat) : Int))] [] [R64 ((v47 + 1 : Nat) : Int)] ?_ ?_)
      ·
       exact ⟨R64.of (by omega), trivial⟩
      refine bk (v47 + 1) e1395 hk1363 ?_ ?_
      · assumption
      · omega
    · intro h1396q e1397; refine kpU [0, 7] [] [] [] ?_; refine exit ?_; refine meet () (by kernel_rfl) ⟨?_, e1397⟩; assumption
   ·
    intro x hJ0 e1398; have e1399 := e1266.trans (elim_l e1398); refine seq (seq (r1U hC [0, 7, 65] [] [(65, sB ((Pln.Kind p) == 3))] [] ?_)); refine cdE e1399 ?_ ?_
    · intro h1405q e1406; refine seq (r1 hC [6] [] ⟨[(6, sI (length (Pln.Exprs p) : Int))], []⟩ ?_); exact ret (rI _ e1406)
    · intro h1407q e1408; refine kpU [7] [] [] [] ?_; refine AW.skip (seq (r1 hC [6] [] ⟨[(6, sI width)], []⟩ ?_)); exact ret (rI _ e1408)

def onlyFields_j0 (p : Pln) : Bool :=
 (bif ((Pln.Kind p) == 4) then ((Pln.Kind p) == 4) else ((Pln.Kind p) == 5))

def onlyFields_j1 (p : Pln) : Nat :=
 (bif ((Pln.Kind p) == 3) then length (Pln.Exprs p) else 0)

def onlyFields_j2 (p : Pln) : Nat :=
 (bif ((Pln.Kind p) == 2) then 1 else (andThen (onlyFields_j1 p) (fun z => (fun (exprs : Nat) => exprs) z)))

def onlyFields_j3 (p : Pln) : Nat × Nat :=
 (bif ((Pln.Kind p) == 6) then (2, 0) else (andThen (onlyFields_j2 p) (fun z => (fun (exprs : Nat) => (1, exprs)) z)))

def onlyFields_j4 (p : Pln) (v9 : Bool) : Nat × Nat :=
 (bif v9 then (2, 1) else (andThen (onlyFields_j3 p) (fun z => (fun (kids : Nat) (exprs : Nat) => (kids, exprs)) z.1 z.2)))

def onlyFields_j5 (p : Pln) : Nat × Nat :=
 (bif ((Pln.Kind p) == 1) then (0, 0) else (andThen (onlyFields_j0 p) (fun z => (fun (v9 : Bool) => (andThen (onlyFields_j4 p v9) (fun z => (fun (kids : Nat) (exprs : Nat) => (kids, exprs)) z.1 z.2))) z)))

def onlyFields (p : Pln) : Bool := (andThen (onlyFields_j5 p) (fun z => (fun (kids : Nat) (exprs : Nat) => (bif (bif (bif (bif (inRange (Pln.Kind p) 1 8) then ((length (Pln.Kids p) : Int) == (kids : Int)) else false) then ((length (Pln.Exprs p) : Int) == (exprs : Int)) else false) then (bif ((Pln.Table p) == 0) then true else ((Pln.Kind p) == 1)) else false) then (bif ((length (Pln.Cols p) : Int) == 0) then true else ((Pln.Kind p) == 8)) else false)) z.1 z.2))

def onlyFields_sp : FnSpec := mkSpec [.val (.named 2)] [.val .bool] (fun (p : Pln) => True) (fun (p : Pln) => [⟨.bool, (onlyFields p)⟩])

theorem onlyFields_ok : FnOK Try.prog 145 onlyFields_sp := by
 have hC : CtxOK Try.prog (mkCtx tyL [(88, inRange_sp)]) := CtxOK.cons inRange_ok (CtxOK.nil tyOK); refine FnOK.of_body Try.func145 (by kernel_rfl) rfl (C := (mkCtx tyL [(88, inRange_sp)])) hC.ty (by kernel_rfl) ?_; intro (p : Pln) hwf hpre E; have e0 : onlyFields p = onlyFields p := rfl; refine seq (r1 hC [1] [4] ⟨[(1, .ref 4 1 0)], [(4, .box 1 [sI (Pln.Kind p), sI (Pln.Table p), sD9 (Pln.Exprs p), sD7 (Pln.Cols p), sD10 (Pln.Kids p)])]⟩ ?_); refine seq (r1U hC [1, 3] [4] [(3, sI 1)] [] ?_); refine seq (r1U hC [1, 3, 4] [4] [(4, sI 0)] [] ?_); refine seq (seq (r1U hC [1, 3, 4, 6] [4] [(6, sI (Pln.Kind p))] [] ?_)); refine block (seq (r1U hC [1, 3, 4, 6, 7] [4] [(7, sB ((Pln.Kind p) == 1))] [] ?_)); refine cutQ (α := Nat × Nat) (fun x => ⟨[(1, .ref 4 1 0), (3, sI ((x.1 : Nat) : Int)), (4, sI ((x.2 : Nat) : Int))], [(4, .box 1 [sI (Pln.Kind p), sI (Pln.Table p), sD9 (Pln.Exprs p), sD7 (Pln.Cols p), sD10 (Pln.Kids p)])]⟩) (fun x => (True) ∧ (onlyFields_j5 p) = x) ?_ ?_
 ·
  skip; have e3099 : (onlyFields_j5 p) = (onlyFields_j5 p) := rfl; refine cd ((Pln.Kind p) == 1) ?_ ?_
  · intro h3100; have h3100q := (beq_pos h3100); have e3101 := e3099.trans (bif_t h3100); refine r1U hC [1, 3, 4] [4] [(3, sI 0)] [] ?_; refine meet (0, 0) (by kernel_rfl) ⟨?_, e3101⟩; exact trivial
  ·
   intro h3102; have h3102q := (beq_neg h3102); have e3103 := e3099.trans (bif_f h3102); refine seq (seq (r1U hC [1, 3, 4, 6, 9] [4] [(9, sB ((Pln.Kind p) == 4))] [] ?_)); refine cutQ (α := Bool) (fun x => ⟨[(1, .ref 4 1 0), (3, sI 1), (4, sI 0), (6, sI (Pln.Kind p)), (9, sB x)], [(4, .box 1 [sI (Pln.Kind p), sI (Pln.Table p), sD9 (Pln.Exprs p), sD7 (Pln.Cols p), sD10 (Pln.Kids p)])]⟩) (fun x => (True) ∧ (onlyFields_j0 p) = x) ?_ ?_
   ·
    skip; have e3112 : (onlyFields_j0 p) = (onlyFields_j0 p) := rfl; refine cd ((Pln.Kind p) == 4) ?_ ?_
    · intro h3113; have h3113q := (beq_pos h3113); have e3114 := e3112.trans (bif_t h3113); refine AW.skip ?_; refine meet ((Pln.Kind p) == 4) (by kernel_rfl) ⟨?_, e3114⟩; exact trivial
    · intro h3115; have h3115q := (beq_neg h3115); have e3116 := e3112.trans (bif_f h3115); refine r1U hC [1, 3, 4, 6, 9] [4] [(9, sB ((Pln.Kind p) == 5))] [] ?_; refine meet ((Pln.Kind p) == 5) (by kernel_rfl) ⟨?_, e3116⟩; exact trivial
   ·
    intro v9 hR; obtain ⟨hM0, e3117⟩ := hR; replace hM0 : True := hM0; have e3118 := e3103.trans (then_eq e3117); refine cutQ (α := Nat × Nat) (fun x => ⟨[(1, .ref 4 1 0), (3, sI ((x.1 : Nat) : Int)), (4, sI ((x.2 : Nat) : Int))], [(4, .box 1 [sI (Pln.Kind p), sI (Pln.Table p), sD9 (Pln.Exprs p), sD7 (Pln.Cols p), sD10 (Pln.Kids p)])]⟩) (fun x => (True) ∧ (onlyFields_j4 p v9) = x) ?_ ?_
    ·
     skip; have e3517 : (onlyFields_j4 p v9) = (onlyFields_j4 p v9) := rfl; refine cd v9 ?_ ?_
     · intro h3518; have h3518q : v9 = true := h3518; have e3519 := e3517.trans (bif_t h3518); refine seq (r1U hC [1, 3] [4] [(3, sI 2)] [] ?_); refine r1U hC [1, 3, 4] [4] [(4, sI 1)] [] ?_; refine meet (2, 1) (by kernel_rfl) ⟨?_, e3519⟩; exact trivial
     ·
      intro h3520; have h3520q : v9 = false := h3520; have e3521 := e3517.trans (bif_f h3520); refine seq (r1U hC [1, 3, 4, 6, 12] [4] [(12, sB ((Pln.Kind p) == 6))] [] ?_); refine cutQ (α := Nat × Nat) (fun x => ⟨[(1, .ref 4 1 0), (3, sI ((x.1 : Nat) : Int)), (4, sI ((x.2 : Nat) : Int))], [(4, .box 1 [sI (Pln.Kind p), sI (Pln.Table p), sD9 (Pln.Exprs p), sD7 (Pln.Cols p), sD10 (Pln.Kids p)])]⟩) (fun x => (True) ∧ (onlyFields_j3 p) = x) ?_ ?_
      ·
       skip; have e3650 : (onlyFields_j3 p) = (onlyFields_j3 p) := rfl; refine cd ((Pln.Kind p) == 6) ?_ ?_
       · intro h3651; have h3651q := (beq_pos h3651); have e3652 := e3650.trans (bif_t h3651); refine r1U hC [1, 3, 4] [4] [(3, sI 2)] [] ?_; refine meet (2, 0) (by kernel_rfl) ⟨?_, e3652⟩; exact trivial
       ·
        intro h3653; have h3653q := (beq_neg h3653); have e3654 := e3650.trans (bif_f h3653); refine seq (r1U hC [1, 3, 4, 6, 14] [4] [(14, sB ((Pln.Kind p) == 2))] [] ?_); refine cutQ (α := Nat) (fun x => ⟨[(1, .ref 4 1 0), (3, sI 1), (4, sI (x : Int))], [(4, .box 1 [sI (Pln.Kind p), sI (Pln.Table p), sD9 (Pln.Exprs p), sD7 (Pln.Cols p), sD10 (Pln.Kids p)])]⟩) (fun x => (True) ∧ (onlyFields_j2 p) = x) ?_ ?_
        ·
         skip; have e3693 : (onlyFields_j2 p) = (onlyFields_j2 p) := rfl; refine cd ((Pln.Kind p) == 2) ?_ ?_
         · intro h3694; have h3694q := (beq_pos h3694); have e3695 := e3693.trans (bif_t h3694); refine r1U hC [1, 3, 4] [4] [(4, sI 1)] [] ?_; refine meet 1 (by kernel_rfl) ⟨?_, e3695⟩; exact trivial
         ·
          intro h3696; have h3696q := (beq_neg h3696); have e3697 := e3693.trans (bif_f h3696); refine seq (r1U hC [1, 3, 4, 16] [4] [(16, sB ((Pln.Kind p) == 3))] [] ?_); refine cutQ (α := Nat) (fun x => ⟨[(1, .ref 4 1 0), (3, sI 1), (4, sI (x : Int))], [(4, .box 1 [sI (Pln.Kind p), sI (Pln.Table p), sD9 (Pln.Exprs p), sD7 (Pln.Cols p), sD10 (Pln.Kids p)])]⟩) (fun x => (True) ∧ (onlyFields_j1 p) = x) ?_ ?_
          ·
           skip; have e3706 : (onlyFields_j1 p) = (onlyFields_j1 p) := rfl; refine cd ((Pln.Kind p) == 3) ?_ ?_
           · intro h3707; have h3707q := (beq_pos h3707); have e3708 := e3706.trans (bif_t h3707); refine r1U hC [1, 3, 4] [4] [(4, sI (length (Pln.Exprs p) : Int))] [] ?_; refine meet (length (Pln.Exprs p)) (by kernel_rfl) ⟨?_, e3708⟩; exact trivial
           · intro h3709; have h3709q := (beq_neg h3709); have e3710 := e3706.trans (bif_f h3709); refine kpU [1, 3, 4] [4] [] [] ?_; refine AW.skip ?_; refine meet 0 (by kernel_rfl) ⟨?_, e3710⟩; exact trivial
          · intro exprs hR; obtain ⟨hM1, e3711⟩ := hR; replace hM1 : True := hM1; have e3712 := e3697.trans (then_eq e3711); refine meet exprs (by kernel_rfl) ⟨?_, e3712⟩; exact trivial
        · intro exprs hR; obtain ⟨hM2, e3713⟩ := hR; replace hM2 : True := hM2; have e3714 := e3654.trans (then_eq e3713); refine meet (1, exprs) (by kernel_rfl) ⟨?_, e3714⟩; exact trivial
      · intro x hR; obtain ⟨kids, exprs⟩ := x; obtain ⟨hM3, e3715⟩ := hR; replace hM3 : True := hM3; have e3716 := e3521.trans (then_eq e3715); refine meet (kids, exprs) (by kernel_rfl) ⟨?_, e3716⟩; exact trivial
    · intro x hR; obtain ⟨kids, exprs⟩ := x; obtain ⟨hM4, e3717⟩ := hR; replace hM4 : True := hM4; have e3718 := e3118.trans (then_eq e3717); refine meet (kids, exprs) (by kernel_rfl) ⟨?_, e3718⟩; exact trivial
 ·
  intro x hR; obtain ⟨kids, exprs⟩ := x; obtain ⟨hM5, e3719⟩ := hR; replace hM5 : True := hM5; have e3720 := e0.trans (then_eq e3719); refine seq (r0 hC [2] [] ⟨[(2, sB (bif (bif (bif (bif (inRange (Pln.Kind p) 1 8) then ((length (Pln.Kids p) : Int) == (kids : Int)) else false) then ((length (Pln.Exprs p) : Int) == (exprs : Int)) else false) then (bif ((Pln.Table p) == 0) then true else ((Pln.Kind p) == 1)) else false) then (bif ((length (Pln.Cols p) : Int) == 0) then true else ((Pln.Kind p) == 8)) else false))], []⟩ [(True), (((inRange (Pln.Kind p) 1 8) = true) → (((inRange (Pln.Kind p) 1 8) = true))), (((inRange (Pln.Kind p) 1 8) = true) → (((inRange (Pln.Kind p) 1 8) = true))), (((inRange (Pln.Kind p) 1 8) = true) → (((inRange (Pln.Kind p) 1 8) = true))), (((inRange (Pln.Kind p) 1 8) = true) → (((inRange (Pln.Kind p) 1 8) = true))), (((inRange (Pln.Kind p) 1 8) = true) → (((inRange (Pln.Kind p) 1 8) = true))), (((bif (inRange (Pln.Kind p) 1 8) then ((length (Pln.Kids p) : Int) == (kids : Int)) else false) = true) → (((bif (inRange (Pln.Kind p) 1 8) then ((length (Pln.Kids p) : Int) == (kids : Int)) else false) = true))), (((bif (inRange (Pln.Kind p) 1 8) then ((length (Pln.Kids p) : Int) == (kids : Int)) else false) = true) → (((bif (inRange (Pln.Kind p) 1 8) then ((length (Pln.Kids p) : Int) == (kids : Int)) else false) = true))), (((bif (inRange (Pln.Kind p) 1 8) then ((length (Pln.Kids p) : Int) == (kids : Int)) else false) = true) → (((bif (inRange (Pln.Kind p) 1 8) then ((length (Pln.Kids p) : Int) == (kids : Int)) else false) = true))), (((bif (inRange (Pln.Kind p) 1 8) then ((length (Pln.Kids p) : Int) == (kids : Int)) else false) = true) → (((bif (inRange (Pln.Kind p) 1 8) then ((length (Pln.Kids p) : Int) == (kids : Int)) else false) = true))), (((bif (inRange (Pln.Kind p) 1 8) then ((length (Pln.Kids p) : Int) == (kids : Int)) else false) = true) → (((bif (inRange (Pln.Kind p) 1 8) then ((length (Pln.Kids p) : Int) == (kids : Int)) else false) = true))), (((bif (bif (inRange (Pln.Kind p) 1 8) then ((length (Pln.Kids p) : Int) == (kids : Int)) else false) then ((length (Pln.Exprs p) : Int) == (exprs : Int)) else false) = true) → (((bif (bif (inRange (Pln.Kind p) 1 8) then ((length (Pln.Kids p) : Int) == (kids : Int)) else false) then ((length (Pln.Exprs p) : Int) == (exprs : Int)) else false) = true))), (((bif (bif (inRange (Pln.Kind p) 1 8) then ((length (Pln.Kids p) : Int) == (kids : Int)) else false) then ((length (Pln.Exprs p) : Int) == (exprs : Int)) else false) = true) → (((bif (bif (inRange (Pln.Kind p) 1 8) then ((length (Pln.Kids p) : Int) == (kids : Int)) else false) then ((length (Pln.Exprs p) : Int) == (exprs : Int)) else false) = true))), (((bif (bif (inRange (Pln.Kind p) 1 8) then ((length (Pln.Kids p) : Int) == (kids : Int)) else false) then ((length (Pln.Exprs p) : Int) == (exprs : Int)) else false) = true) → (((bif (bif (inRange (Pln.Kind p) 1 8) then ((length (Pln.Kids p) : Int) == (kids : Int)) else false) then ((length (Pln.Exprs p) : Int) == (exprs : Int)) else false) = true))), ((((bif (bif (inRange (Pln.Kind p) 1 8) then ((length (Pln.Kids p) : Int) == (kids : Int)) else false) then ((length (Pln.Exprs p) : Int) == (exprs : Int)) else false) = true) ∧ (((Pln.Table p) == 0) = false)) → ((((bif (bif (inRange (Pln.Kind p) 1 8) then ((length (Pln.Kids p) : Int) == (kids : Int)) else false) then ((length (Pln.Exprs p) : Int) == (exprs : Int)) else false) = true) ∧ (((Pln.Table p) == 0) = false)))), ((((bif (bif (inRange (Pln.Kind p) 1 8) then ((length (Pln.Kids p) : Int) == (kids : Int)) else false) then ((length (Pln.Exprs p) : Int) == (exprs : Int)) else false) = true) ∧ (((Pln.Table p) == 0) = false)) → ((((bif (bif (inRange (Pln.Kind p) 1 8) then ((length (Pln.Kids p) : Int) == (kids : Int)) else false) then ((length (Pln.Exprs p) : Int) == (exprs : Int)) else false) = true) ∧ (((Pln.Table p) == 0) = false)))), (((bif (bif (inRange (Pln.Kind p) 1 8) then ((length (Pln.Kids p) : Int) == (kids : Int)) else false) then ((length (Pln.Exprs p) : Int) == (exprs : Int)) else false) = true) → (((bif (bif (inRange (Pln.Kind p) 1 8) then ((length (Pln.Kids p) : Int) == (kids : Int)) else false) then ((length (Pln.Exprs p) : Int) == (exprs : Int)) else false) = true))), (((bif (bif (inRange (Pln.Kind p) 1 8) then ((length (Pln.Kids p) : Int) == (kids : Int)) else false) then ((length (Pln.Exprs p) : Int) == (exprs : Int)) else false) = true) → ((((Pln.Table p) == 0) = false) → ((((bif (bif (inRange (Pln.Kind p) 1 8) then ((length (Pln.Kids p) : Int) == (kids : Int)) else false) then ((length (Pln.Exprs p) : Int) == (exprs : Int)) else false) = true) ∧ (((Pln.Table p) == 0) = false))))), (((bif (bif (inRange (Pln.Kind p) 1 8) then ((length (Pln.Kids p) : Int) == (kids : Int)) else false) then ((length (Pln.Exprs p) : Int) == (exprs : Int)) else false) = true) → (((bif (bif (inRange (Pln.Kind p) 1 8) then ((length (Pln.Kids p) : Int) == (kids : Int)) else false) then ((length (Pln.Exprs p) : Int) == (exprs : Int)) else false) = true))), (((bif (bif (bif (inRange (Pln.Kind p) 1 8) then ((length (Pln.Kids p) : Int) == (kids : Int)) else false) then ((length (Pln.Exprs p) : Int) == (exprs : Int)) else false) then (bif ((Pln.Table p) == 0) then true else ((Pln.Kind p) == 1)) else false) = true) → (((bif (bif (bif (inRange (Pln.Kind p) 1 8) then ((length (Pln.Kids p) : Int) == (kids : Int)) else false) then ((length (Pln.Exprs p) : Int) == (exprs : Int)) else false) then (bif ((Pln.Table p) == 0) then true else ((Pln.Kind p) == 1)) else false) = true))), (((bif (bif (bif (inRange (Pln.Kind p) 1 8) then ((length (Pln.Kids p) : Int) == (kids : Int)) else false) then ((length (Pln.Exprs p) : Int) == (exprs : Int)) else false) then (bif ((Pln.Table p) == 0) then true else ((Pln.Kind p) == 1)) else false) = true) → (((bif (bif (bif (inRange (Pln.Kind p) 1 8) then ((length (Pln.Kids p) : Int) == (kids : Int)) else false) then ((length (Pln.Exprs p) : Int) == (exprs : Int)) else false) then (bif ((Pln.Table p) == 0) then true else ((Pln.Kind p) == 1)) else false) = true))), (((bif (bif (bif (inRange (Pln.Kind p) 1 8) then ((length (Pln.Kids p) : Int) == (kids : Int)) else false) then ((length (Pln.Exprs p) : Int) == (exprs : Int)) else false) then (bif ((Pln.Table p) == 0) then true else ((Pln.Kind p) == 1)) else false) = true) → (((bif (bif (bif (inRange (Pln.Kind p) 1 8) then ((length (Pln.Kids p) : Int) == (kids : Int)) else false) then ((length (Pln.Exprs p) : Int) == (exprs : Int)) else false) then (bif ((Pln.Table p) == 0) then true else ((Pln.Kind p) == 1)) else false) = true))), (((bif (bif (bif (inRange (Pln.Kind p) 1 8) then ((length (Pln.Kids p) : Int) == (kids : Int)) else false) then ((length (Pln.Exprs p) : Int) == (exprs : Int)) else false) then (bif ((Pln.Table p) == 0) then true else ((Pln.Kind p) == 1)) else false) = true) → (((bif (bif (bif (inRange (Pln.Kind p) 1 8) then ((length (Pln.Kids p) : Int) == (kids : Int)) else false) then ((length (Pln.Exprs p) : Int) == (exprs : Int)) else false) then (bif ((Pln.Table p) == 0) then true else ((Pln.Kind p) == 1)) else false) = true))), ((((bif (bif (bif (inRange (Pln.Kind p) 1 8) then ((length (Pln.Kids p) : Int) == (kids : Int)) else false) then ((length (Pln.Exprs p) : Int) == (exprs : Int)) else false) then (bif ((Pln.Table p) == 0) then true else ((Pln.Kind p) == 1)) else false) = true) ∧ (((length (Pln.Cols p) : Int) == 0) = false)) → ((((bif (bif (bif (inRange (Pln.Kind p) 1 8) then ((length (Pln.Kids p) : Int) == (kids : Int)) else false) then ((length (Pln.Exprs p) : Int) == (exprs : Int)) else false) then (bif ((Pln.Table p) == 0) then true else ((Pln.Kind p) == 1)) else false) = true) ∧ (((length (Pln.Cols p) : Int) == 0) = false)))), ((((bif (bif (bif (inRange (Pln.Kind p) 1 8) then ((length (Pln.Kids p) : Int) == (kids : Int)) else false) then ((length (Pln.Exprs p) : Int) == (exprs : Int)) else false) then (bif ((Pln.Table p) == 0) then true else ((Pln.Kind p) == 1)) else false) = true) ∧ (((length (Pln.Cols p) : Int) == 0) = false)) → ((((bif (bif (bif (inRange (Pln.Kind p) 1 8) then ((length (Pln.Kids p) : Int) == (kids : Int)) else false) then ((length (Pln.Exprs p) : Int) == (exprs : Int)) else false) then (bif ((Pln.Table p) == 0) then true else ((Pln.Kind p) == 1)) else false) = true) ∧ (((length (Pln.Cols p) : Int) == 0) = false)))), (((bif (bif (bif (inRange (Pln.Kind p) 1 8) then ((length (Pln.Kids p) : Int) == (kids : Int)) else false) then ((length (Pln.Exprs p) : Int) == (exprs : Int)) else false) then (bif ((Pln.Table p) == 0) then true else ((Pln.Kind p) == 1)) else false) = true) → (((bif (bif (bif (inRange (Pln.Kind p) 1 8) then ((length (Pln.Kids p) : Int) == (kids : Int)) else false) then ((length (Pln.Exprs p) : Int) == (exprs : Int)) else false) then (bif ((Pln.Table p) == 0) then true else ((Pln.Kind p) == 1)) else false) = true))), (((bif (bif (bif (inRange (Pln.Kind p) 1 8) then ((length (Pln.Kids p) : Int) == (kids : Int)) else false) then ((length (Pln.Exprs p) : Int) == (exprs : Int)) else false) then (bif ((Pln.Table p) == 0) then true else ((Pln.Kind p) == 1)) else false) = true) → ((((length (Pln.Cols p) : Int) == 0) = false) → ((((bif (bif (bif (inRange (Pln.Kind p) 1 8) then ((length (Pln.Kids p) : Int) == (kids : Int)) else false) then ((length (Pln.Exprs p) : Int) == (exprs : Int)) else false) then (bif ((Pln.Table p) == 0) then true else ((Pln.Kind p) == 1)) else false) = true) ∧ (((length (Pln.Cols p) : Int) == 0) = false))))), (((bif (bif (bif (inRange (Pln.Kind p) 1 8) then ((length (Pln.Kids p) : Int) == (kids : Int)) else false) then ((length (Pln.Exprs p) : Int) == (exprs : Int)) else false) then (bif ((Pln.Table p) == 0) then true else ((Pln.Kind p) == 1)) else false) = true) → (((bif (bif (bif (inRange (Pln.Kind p) 1 8) then ((length (Pln.Kids p) : Int) == (kids : Int)) else false) then ((length (Pln.Exprs p) : Int) == (exprs : Int)) else false) then (bif ((Pln.Table p) == 0) then true else ((Pln.Kind p) == 1)) else false) = true)))] ?_ ?_)
  ·
   exact ⟨trivial, (by intro g3721; assumption), (by intro g3722; assumption), (by intro g3723; assumption), (by intro g3724; assumption), (by intro g3725; assumption), (by intro g3726; assumption), (by intro g3727; assumption), (by intro g3728; assumption), (by intro g3729; assumption), (by intro g3730; assumption), (by intro g3731; assumption), (by intro g3732; assumption), (by intro g3733; assumption), (by intro g3734; assumption), (by intro g3735; assumption), (by intro g3736; assumption), (by intro g3737; intro g3738; exact ⟨by assumption, by assumption⟩), (by intro g3739; assumption), (by intro g3740; assumption), (by intro g3741; assumption), (by intro g3742; assumption), (by intro g3743; assumption), (by intro g3744; assumption), (by intro g3745; assumption), (by intro g3746; assumption), (by intro g3747; intro g3748; exact ⟨by assumption, by assumption⟩), (by intro g3749; assumption), trivial⟩
  exact ret (rB _ e3720)

def projectWidth_l0 (list : List Xpr) (width : Int) : Nat → Nat → Unit ⊕ Int
 | 0, i => .inl ()
 | k + 1, i => (bif (decide ((i : Int) < (length list : Int))) then (bif (!(ValidExpr (getD list i Xpr.zero) width)) then (.inr 0) else (projectWidth_l0 list width k (i + 1))) else (.inl ()))

def projectWidth (list : List Xpr) (width : Int) : Int := (Sum.elim (fun _ => (bif (decide (6 < (length list : Int))) then 0 else (length list : Int))) (fun r => r) (projectWidth_l0 list width ((length list) - 0 + 1) 0))

def projectWidth_sp : FnSpec := mkSpec [.val (.slice (.named 1)), .val (.int .i64)] [.val (.int .i64)] (fun (list : List Xpr) (width : Int) => True) (fun (list : List Xpr) (width : Int) => [⟨(.int .i64), (projectWidth list width)⟩])

theorem projectWidth_ok : FnOK Try.prog 146 projectWidth_sp := by
 have hC : CtxOK Try.prog (mkCtx tyL [(96, ValidExpr_sp)]) := CtxOK.cons ValidExpr_ok (CtxOK.nil tyOK); refine FnOK.of_body Try.func146 (by kernel_rfl) rfl (C := (mkCtx tyL [(96, ValidExpr_sp)])) hC.ty (by kernel_rfl) ?_; intro (list : List Xpr) (width : Int) hwf hpre E; have hw_list : Wf ⟨(.slice (.named 1)), (list : List Xpr)⟩ := hwf _ (List.Mem.head _); have hl_list : (length list : Int) ≤ 9223372036854775807 := hw_list.len; have hw_width : Wf ⟨(.int .i64), (width : Int)⟩ := hwf _ (List.Mem.tail _ (List.Mem.head _)); have hr_width : -9223372036854775808 ≤ width ∧ width ≤ 9223372036854775807 := hw_width.int_inv; have e0 : projectWidth list width = projectWidth list width := rfl; refine seq (r1U hC [0, 1] [] [] [] ?_); refine seq (seq (r1U hC [0, 1, 5] [] [(5, sI 0)] [] ?_)); refine lpB (ζ := Unit) (fun x => ⟨[(0, sD9 list)], []⟩) (fun x => True) (fun x => (.inl ())) (α := Nat) (fun x => ⟨[(0, sD9 list), (1, sI width), (5, sI (x : Int))], []⟩) (fun x => True) (fun x => (length list) - x) (fun k x => projectWidth_l0 list width k x) 0 (by kernel_rfl) ?_ ?_ ?_
 · exact trivial
 ·
  intro i k30q hI0 hk28 e29; refine seq (seq (r1U hC [0, 1, 5, 9] [] [(9, sB (decide ((i : Int) < (length list : Int))))] [] ?_)); refine cdE e29 ?_ ?_
  ·
   intro h31q e32; refine kpU [0, 1, 5] [] [] [] ?_; refine AW.skip (seq (block (seq (r0U hC [0, 1, 5, 18] [] [(18, sB (!(ValidExpr (getD list i Xpr.zero) width)))] [] [IX (i : Int) (length list : Int), (True)] ?_ ?_))))
   ·
    exact ⟨IX.of (by omega), trivial, trivial⟩
   refine cdE e32 ?_ ?_
   · intro h33q e34; refine seq (r1 hC [4] [] ⟨[(4, sI 0)], []⟩ ?_); refine ret ?_; have e35 := e0.trans (elim_r e34); exact rI 0 e35
   ·
    intro h36q e37; refine kpU [0, 1, 5] [] [] [] ?_; refine AW.skip (r0U hC [0, 1, 5] [] [(5, sI ((i + 1 : Nat) : Int))] [] [R64 ((i + 1 : Nat) : Int)] ?_ ?_)
    ·
     exact ⟨R64.of (by omega), trivial⟩
    refine bk (i + 1) e37 hk28 ?_ ?_
    · assumption
    · omega
  · intro h38q e39; refine kpU [0] [] [] [] ?_; refine exit ?_; refine meet () (by kernel_rfl) ⟨?_, e39⟩; assumption
 ·
  intro x hJ0 e40; have e41 := e0.trans (elim_l e40); refine seq (seq (r1U hC [0, 21] [] [(21, sB (decide (6 < (length list : Int))))] [] ?_)); refine cdE e41 ?_ ?_
  · intro h42q e43; refine seq (r1 hC [4] [] ⟨[(4, sI 0)], []⟩ ?_); exact ret (rI 0 e43)
  · intro h44q e45; refine kpU [0] [] [] [] ?_; refine AW.skip (seq (r1 hC [4] [] ⟨[(4, sI (length list : Int))], []⟩ ?_)); exact ret (rI _ e45)

def validCols_l0 (cols : List Int) (width : Int) : Nat → Nat → Unit ⊕ Bool
 | 0, i => .inl ()
 | k + 1, i => (bif (decide ((i : Int) < (length cols : Int))) then (bif (bif (!(inRange (getD cols i 0) 0 (width - 1))) then true else (bif (decide (0 < (i : Int))) then (decide ((getD cols i 0) ≤ (getD cols (Int.toNat ((i : Int) - 1)) 0))) else false)) then (.inr false) else (validCols_l0 cols width k (i + 1))) else (.inl ()))

def validCols (cols : List Int) (width : Int) : Bool := (Sum.elim (fun _ => true) (fun r => r) (validCols_l0 cols width ((length cols) - 0 + 1) 0))

def validCols_sp : FnSpec := mkSpec [.val (.slice (.int .i64)), .val (.int .i64)] [.val .bool] (fun (cols : List Int) (width : Int) => 0 ≤ width ∧ width ≤ 6) (fun (cols : List Int) (width : Int) => [⟨.bool, (validCols cols width)⟩])

theorem validCols_ok : FnOK Try.prog 147 validCols_sp := by
 have hC : CtxOK Try.prog (mkCtx tyL [(88, inRange_sp)]) := CtxOK.cons inRange_ok (CtxOK.nil tyOK); have hM : Try.prog.follows .mixedOrders = true := Try.checked.mixed; refine FnOK.of_body Try.func147 (by kernel_rfl) rfl (C := (mkCtx tyL [(88, inRange_sp)])) hC.ty (by kernel_rfl) ?_; intro (cols : List Int) (width : Int) hwf hpre E; have hpre : 0 ≤ width ∧ width ≤ 6 := hpre; have hw_cols : Wf ⟨(.slice (.int .i64)), (cols : List Int)⟩ := hwf _ (List.Mem.head _); have hl_cols : (length cols : Int) ≤ 9223372036854775807 := hw_cols.len; have hw_width : Wf ⟨(.int .i64), (width : Int)⟩ := hwf _ (List.Mem.tail _ (List.Mem.head _)); have hr_width : -9223372036854775808 ≤ width ∧ width ≤ 9223372036854775807 := hw_width.int_inv; have e0 : validCols cols width = validCols cols width := rfl; refine seq (r1U hC [0, 1] [] [] [] ?_); refine seq (seq (r1U hC [0, 1, 5] [] [(5, sI 0)] [] ?_)); refine lpB (ζ := Unit) (fun x => ⟨[], []⟩) (fun x => True) (fun x => (.inl ())) (α := Nat) (fun x => ⟨[(0, sD7 cols), (1, sI width), (5, sI (x : Int))], []⟩) (fun x => True) (fun x => (length cols) - x) (fun k x => validCols_l0 cols width k x) 0 (by kernel_rfl) ?_ ?_ ?_
 · exact trivial
 ·
  intro i k30q hI0 hk28 e29; refine seq (seq (r1U hC [0, 1, 5, 9] [] [(9, sB (decide ((i : Int) < (length cols : Int))))] [] ?_)); refine cdE e29 ?_ ?_
  ·
   intro h31q e32; refine kpU [0, 1, 5] [] [] [] ?_; refine AW.skip (seq (block (seq (d0U hC hM [0, 1, 5, 35] [] [(35, sB (bif (!(inRange (getD cols i 0) 0 (width - 1))) then true else (bif (decide (0 < (i : Int))) then (decide ((getD cols i 0) ≤ (getD cols (Int.toNat ((i : Int) - 1)) 0))) else false)))] [] [IX (i : Int) (length cols : Int), R64 (width - 1), (True), (((!(inRange (getD cols i 0) 0 (width - 1))) = false) → (((!(inRange (getD cols i 0) 0 (width - 1))) = false))), (((!(inRange (getD cols i 0) 0 (width - 1))) = false) → (((!(inRange (getD cols i 0) 0 (width - 1))) = false))), ((((!(inRange (getD cols i 0) 0 (width - 1))) = false) ∧ ((decide (0 < (i : Int))) = true)) → ((((!(inRange (getD cols i 0) 0 (width - 1))) = false) ∧ ((decide (0 < (i : Int))) = true)))), ((((!(inRange (getD cols i 0) 0 (width - 1))) = false) ∧ ((decide (0 < (i : Int))) = true)) → ((((!(inRange (getD cols i 0) 0 (width - 1))) = false) ∧ ((decide (0 < (i : Int))) = true)))), ((((!(inRange (getD cols i 0) 0 (width - 1))) = false) ∧ ((decide (0 < (i : Int))) = true)) → IX (i : Int) (length cols : Int)), ((((!(inRange (getD cols i 0) 0 (width - 1))) = false) ∧ ((decide (0 < (i : Int))) = true)) → ((((!(inRange (getD cols i 0) 0 (width - 1))) = false) ∧ ((decide (0 < (i : Int))) = true)))), ((((!(inRange (getD cols i 0) 0 (width - 1))) = false) ∧ ((decide (0 < (i : Int))) = true)) → ((((!(inRange (getD cols i 0) 0 (width - 1))) = false) ∧ ((decide (0 < (i : Int))) = true)))), ((((!(inRange (getD cols i 0) 0 (width - 1))) = false) ∧ ((decide (0 < (i : Int))) = true)) → R64 ((i : Int) - 1)), ((((!(inRange (getD cols i 0) 0 (width - 1))) = false) ∧ ((decide (0 < (i : Int))) = true)) → ((((!(inRange (getD cols i 0) 0 (width - 1))) = false) ∧ ((decide (0 < (i : Int))) = true)))), ((((!(inRange (getD cols i 0) 0 (width - 1))) = false) ∧ ((decide (0 < (i : Int))) = true)) → ((((!(inRange (getD cols i 0) 0 (width - 1))) = false) ∧ ((decide (0 < (i : Int))) = true)))), ((((!(inRange (getD cols i 0) 0 (width - 1))) = false) ∧ ((decide (0 < (i : Int))) = true)) → IX ((i : Int) - 1) (length cols : Int)), ((((!(inRange (getD cols i 0) 0 (width - 1))) = false) ∧ ((decide (0 < (i : Int))) = true)) → ((((!(inRange (getD cols i 0) 0 (width - 1))) = false) ∧ ((decide (0 < (i : Int))) = true)))), ((((!(inRange (getD cols i 0) 0 (width - 1))) = false) ∧ ((decide (0 < (i : Int))) = true)) → ((((!(inRange (getD cols i 0) 0 (width - 1))) = false) ∧ ((decide (0 < (i : Int))) = true)))), ((((!(inRange (getD cols i 0) 0 (width - 1))) = false) ∧ ((decide (0 < (i : Int))) = true)) → ((((!(inRange (getD cols i 0) 0 (width - 1))) = false) ∧ ((decide (0 < (i : Int))) = true)))), (((!(inRange (getD cols i 0) 0 (width - 1))) = false) → (((!(inRange (getD cols i 0) 0 (width - 1))) = false))), (((!(inRange (getD cols i 0) 0 (width - 1))) = false) → (((decide (0 < (i : Int))) = true) → ((((!(inRange (getD cols i 0) 0 (width - 1))) = false) ∧ ((decide (0 < (i : Int))) = true))))), (((!(inRange (getD cols i 0) 0 (width - 1))) = false) → (((!(inRange (getD cols i 0) 0 (width - 1))) = false)))] ?_ ?_))))
   ·
    exact ⟨IX.of (by omega), R64.of (by omega), trivial, (by intro g33; assumption), (by intro g34; assumption), (by intro g35; assumption), (by intro g36; assumption), (by intro g37; refine IX.of ?_; omega), (by intro g38; assumption), (by intro g39; assumption), (by intro g40; refine R64.of ?_; omega), (by intro g41; assumption), (by intro g42; assumption), (by intro g43; (have g43p0 : (inRange (getD cols i 0) 0 (width - 1)) = true := (not_neg (g43).1)); (have g43p1 : 0 < (i : Int) := (of_decide_eq_true (g43).2)); refine IX.of ?_; omega), (by intro g44; assumption), (by intro g45; assumption), (by intro g46; assumption), (by intro g47; assumption), (by intro g48; intro g49; exact ⟨by assumption, by assumption⟩), (by intro g50; assumption), trivial⟩
   refine cdE e32 ?_ ?_
   · intro h51q e52; refine seq (r1 hC [4] [] ⟨[(4, sB false)], []⟩ ?_); refine ret ?_; have e53 := e0.trans (elim_r e52); exact rB _ e53
   ·
    intro h54q e55; refine kpU [0, 1, 5] [] [] [] ?_; refine AW.skip (r0U hC [0, 1, 5] [] [(5, sI ((i + 1 : Nat) : Int))] [] [R64 ((i + 1 : Nat) : Int)] ?_ ?_)
    ·
     exact ⟨R64.of (by omega), trivial⟩
    refine bk (i + 1) e55 hk28 ?_ ?_
    · assumption
    · omega
  · intro h56q e57; refine kp [] [] ⟨[], []⟩ ?_; refine exit ?_; refine meet () (by kernel_rfl) ⟨?_, e57⟩; assumption
 · intro x hJ0 e58; have e59 := e0.trans (elim_l e58); refine seq (r1 hC [4] [] ⟨[(4, sB true)], []⟩ ?_); exact ret (rB _ e59)

end
end Go.Proofs.Ytodcdgolcbdkgaa
