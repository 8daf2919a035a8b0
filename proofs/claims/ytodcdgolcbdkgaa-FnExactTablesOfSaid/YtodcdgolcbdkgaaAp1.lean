/-
  A part of the proof of this claim (Ap1): what functions of the program compute, and plain facts of that. No conditions.
-/
import Derived.Test.YtodcdgolcbdkgaaApT
set_option linter.all false
namespace Go.Proofs.Ytodcdgolcbdkgaa
open Go Go.Am
open Go.Am.AW (seq r1U ret kpU cdE r1 meet rI block rB r0 kp cutQ cd)
noncomputable section

def inRange (n : Int) (low : Int) (high : Int) : Bool := (bif (decide (low ≤ n)) then (decide (n ≤ high)) else false)

def inRange_sp : FnSpec := mkSpec [.val (.int .i64), .val (.int .i64), .val (.int .i64)] [.val .bool] (fun (n : Int) (low : Int) (high : Int) => True) (fun (n : Int) (low : Int) (high : Int) => [⟨.bool, (inRange n low high)⟩])

theorem inRange_ok : FnOK Try.prog 88 inRange_sp := by
 have hC : CtxOK Try.prog (mkCtx tyL []) := CtxOK.nil tyOK; refine FnOK.of_body Try.func88 (by kernel_rfl) rfl (C := (mkCtx tyL [])) hC.ty (by kernel_rfl) ?_; intro (n : Int) (low : Int) (high : Int) hwf hpre E; have e0 : inRange n low high = inRange n low high := rfl; refine seq (r1U hC [0, 1, 2] [] [] [] ?_); refine seq (r0 hC [6] [] ⟨[(6, sB (bif (decide (low ≤ n)) then (decide (n ≤ high)) else false))], []⟩ [(((decide (low ≤ n)) = true) → (((decide (low ≤ n)) = true))), (((decide (low ≤ n)) = true) → (((decide (low ≤ n)) = true))), (((decide (low ≤ n)) = true) → (((decide (low ≤ n)) = true)))] ?_ ?_)
 ·
  exact ⟨(by intro g1; assumption), (by intro g2; assumption), (by intro g3; assumption), trivial⟩
 exact ret (rB _ e0)

def validWidth (width : Int) : Bool := (bif (decide (1 ≤ width)) then (decide (width ≤ 6)) else false)

def validWidth_sp : FnSpec := mkSpec [.val (.int .i64)] [.val .bool] (fun (width : Int) => True) (fun (width : Int) => [⟨.bool, (validWidth width)⟩])

theorem validWidth_ok : FnOK Try.prog 123 validWidth_sp := by
 have hC : CtxOK Try.prog (mkCtx tyL []) := CtxOK.nil tyOK; refine FnOK.of_body Try.func123 (by kernel_rfl) rfl (C := (mkCtx tyL [])) hC.ty (by kernel_rfl) ?_; intro (width : Int) hwf hpre E; have e0 : validWidth width = validWidth width := rfl; refine seq (r1U hC [0] [] [] [] ?_); refine seq (r0 hC [2] [] ⟨[(2, sB (bif (decide (1 ≤ width)) then (decide (width ≤ 6)) else false))], []⟩ [(((decide (1 ≤ width)) = true) → (((decide (1 ≤ width)) = true))), (((decide (1 ≤ width)) = true) → (((decide (1 ≤ width)) = true)))] ?_ ?_)
 ·
  exact ⟨(by intro g1; assumption), (by intro g2; assumption), trivial⟩
 exact ret (rB _ e0)

def valValid (v : Val) : Bool := (bif (Val.Null v) then ((Val.N v) == 0) else (bif (decide ((-9999) ≤ (Val.N v))) then (decide ((Val.N v) ≤ 9999)) else false))

def valValid_sp : FnSpec := mkSpec [.val (.named 0)] [.val .bool] (fun (v : Val) => True) (fun (v : Val) => [⟨.bool, (valValid v)⟩])

theorem valValid_ok : FnOK Try.prog 158 valValid_sp := by
 have hC : CtxOK Try.prog (mkCtx tyL []) := CtxOK.nil tyOK; refine FnOK.of_body Try.func158 (by kernel_rfl) rfl (C := (mkCtx tyL [])) hC.ty (by kernel_rfl) ?_; intro (v : Val) hwf hpre E; have hw_v : Wf ⟨(.named 0), (v : Val)⟩ := hwf _ (List.Mem.head _); have hr_v_N := Val.wfl hw_v; have e0 : valValid v = valValid v := rfl; refine seq (r1 hC [1] [4] ⟨[(1, .ref 4 1 0)], [(4, .box 1 [sB (Val.Null v), sI (Val.N v)])]⟩ ?_); refine seq (seq (r1U hC [1, 4] [4] [(4, sB (Val.Null v))] [] ?_)); refine cdE e0 ?_ ?_
 · intro h1q e2; refine seq (r1 hC [2] [] ⟨[(2, sB ((Val.N v) == 0))], []⟩ ?_); exact ret (rB _ e2)
 ·
  intro h3q e4; refine kpU [1] [4] [] [] ?_; refine AW.skip (seq (r0 hC [2] [] ⟨[(2, sB (bif (decide ((-9999) ≤ (Val.N v))) then (decide ((Val.N v) ≤ 9999)) else false))], []⟩ [(((decide ((-9999) ≤ (Val.N v))) = true) → (((decide ((-9999) ≤ (Val.N v))) = true))), (((decide ((-9999) ≤ (Val.N v))) = true) → (((decide ((-9999) ≤ (Val.N v))) = true))), (((decide ((-9999) ≤ (Val.N v))) = true) → (((decide ((-9999) ≤ (Val.N v))) = true)))] ?_ ?_))
  ·
   exact ⟨(by intro g5; assumption), (by intro g6; assumption), (by intro g7; assumption), trivial⟩
  exact ret (rB _ e4)

def validValue (v : Val) : Bool := (bif (inRange (Val.N v) (-9999) 9999) then (bif (!(Val.Null v)) then true else ((Val.N v) == 0)) else false)

def validValue_sp : FnSpec := mkSpec [.val (.named 0)] [.val .bool] (fun (v : Val) => True) (fun (v : Val) => [⟨.bool, (validValue v)⟩])

theorem validValue_ok : FnOK Try.prog 153 validValue_sp := by
 have hC : CtxOK Try.prog (mkCtx tyL [(88, inRange_sp)]) := CtxOK.cons inRange_ok (CtxOK.nil tyOK); refine FnOK.of_body Try.func153 (by kernel_rfl) rfl (C := (mkCtx tyL [(88, inRange_sp)])) hC.ty (by kernel_rfl) ?_; intro (v : Val) hwf hpre E; have hw_v : Wf ⟨(.named 0), (v : Val)⟩ := hwf _ (List.Mem.head _); have hr_v_N := Val.wfl hw_v; have e0 : validValue v = validValue v := rfl; refine seq (r1 hC [1] [4] ⟨[(1, .ref 4 1 0)], [(4, .box 1 [sB (Val.Null v), sI (Val.N v)])]⟩ ?_); refine seq (r0 hC [2] [] ⟨[(2, sB (bif (inRange (Val.N v) (-9999) 9999) then (bif (!(Val.Null v)) then true else ((Val.N v) == 0)) else false))], []⟩ [(True), (((inRange (Val.N v) (-9999) 9999) = true) → (((inRange (Val.N v) (-9999) 9999) = true))), (((inRange (Val.N v) (-9999) 9999) = true) → (((inRange (Val.N v) (-9999) 9999) = true))), (((inRange (Val.N v) (-9999) 9999) = true) → (((inRange (Val.N v) (-9999) 9999) = true))), ((((inRange (Val.N v) (-9999) 9999) = true) ∧ ((!(Val.Null v)) = false)) → ((((inRange (Val.N v) (-9999) 9999) = true) ∧ ((!(Val.Null v)) = false)))), ((((inRange (Val.N v) (-9999) 9999) = true) ∧ ((!(Val.Null v)) = false)) → ((((inRange (Val.N v) (-9999) 9999) = true) ∧ ((!(Val.Null v)) = false)))), (((inRange (Val.N v) (-9999) 9999) = true) → (((inRange (Val.N v) (-9999) 9999) = true))), (((inRange (Val.N v) (-9999) 9999) = true) → (((!(Val.Null v)) = false) → ((((inRange (Val.N v) (-9999) 9999) = true) ∧ ((!(Val.Null v)) = false))))), (((inRange (Val.N v) (-9999) 9999) = true) → (((inRange (Val.N v) (-9999) 9999) = true)))] ?_ ?_)
 ·
  exact ⟨trivial, (by intro g1; assumption), (by intro g2; assumption), (by intro g3; assumption), (by intro g4; assumption), (by intro g5; assumption), (by intro g6; assumption), (by intro g7; intro g8; exact ⟨by assumption, by assumption⟩), (by intro g9; assumption), trivial⟩
 exact ret (rB _ e0)

def kidsOfKind_j0 (kind : Int) : Bool :=
 (bif (kind == 1) then (kind == 1) else (kind == 2))

def kidsOfKind_j1 (kind : Int) : Bool :=
 (bif (kind == 10) then (kind == 10) else (kind == 11))

def kidsOfKind_j2 (kind : Int) : Bool :=
 (bif (kind == 8) then (kind == 8) else (kind == 9))

def kidsOfKind_j3 (kind : Int) : Bool :=
 (bif (kind == 7) then (kind == 7) else (andThen (kidsOfKind_j2 kind) (fun z => (fun (v10 : Bool) => v10) z)))

def kidsOfKind_j4 (kind : Int) : Bool :=
 (bif (kind == 6) then (kind == 6) else (andThen (kidsOfKind_j3 kind) (fun z => (fun (v10 : Bool) => v10) z)))

def kidsOfKind_j5 (kind : Int) : Bool :=
 (bif (kind == 5) then (kind == 5) else (andThen (kidsOfKind_j4 kind) (fun z => (fun (v10 : Bool) => v10) z)))

def kidsOfKind_j6 (kind : Int) : Bool :=
 (bif (kind == 4) then (kind == 4) else (andThen (kidsOfKind_j5 kind) (fun z => (fun (v10 : Bool) => v10) z)))

def kidsOfKind_j7 (kind : Int) : Bool :=
 (bif (kind == 3) then (kind == 3) else (andThen (kidsOfKind_j6 kind) (fun z => (fun (v10 : Bool) => v10) z)))

def kidsOfKind (kind : Int) : Int := (andThen (kidsOfKind_j0 kind) (fun z => (fun (v4 : Bool) => (bif v4 then 0 else (andThen (kidsOfKind_j1 kind) (fun z => (fun (v7 : Bool) => (bif v7 then 1 else (andThen (kidsOfKind_j7 kind) (fun z => (fun (v10 : Bool) => (bif v10 then 2 else (-1))) z)))) z)))) z))

def kidsOfKind_sp : FnSpec := mkSpec [.val (.int .i64)] [.val (.int .i64)] (fun (kind : Int) => True) (fun (kind : Int) => [⟨(.int .i64), (kidsOfKind kind)⟩])

theorem kidsOfKind_ok : FnOK Try.prog 157 kidsOfKind_sp := by
 have hC : CtxOK Try.prog (mkCtx tyL []) := CtxOK.nil tyOK; refine FnOK.of_body Try.func157 (by kernel_rfl) rfl (C := (mkCtx tyL [])) hC.ty (by kernel_rfl) ?_; intro (kind : Int) hwf hpre E; have e0 : kidsOfKind kind = kidsOfKind kind := rfl; refine seq (r1U hC [0] [] [] [] ?_); refine seq (seq (r1 hC [3] [] ⟨[(3, sI kind)], []⟩ ?_)); refine block (seq (seq (r1U hC [3, 4] [] [(4, sB (kind == 1))] [] ?_))); refine cutQ (α := Bool) (fun x => ⟨[(3, sI kind), (4, sB x)], []⟩) (fun x => (True) ∧ (kidsOfKind_j0 kind) = x) ?_ ?_
 ·
  skip; have e21981 : (kidsOfKind_j0 kind) = (kidsOfKind_j0 kind) := rfl; refine cd (kind == 1) ?_ ?_
  · intro h21982; have h21982q := (beq_pos h21982); have e21983 := e21981.trans (bif_t h21982); refine AW.skip ?_; refine meet (kind == 1) (by kernel_rfl) ⟨?_, e21983⟩; exact trivial
  · intro h21984; have h21984q := (beq_neg h21984); have e21985 := e21981.trans (bif_f h21984); refine r1U hC [3, 4] [] [(4, sB (kind == 2))] [] ?_; refine meet (kind == 2) (by kernel_rfl) ⟨?_, e21985⟩; exact trivial
 ·
  intro v4 hR; obtain ⟨hM0, e21986⟩ := hR; replace hM0 : True := hM0; have e21987 := e0.trans (then_eq e21986); refine cdE e21987 ?_ ?_
  · intro h32963q e32964; refine seq (r1 hC [2] [] ⟨[(2, sI 0)], []⟩ ?_); exact ret (rI 0 e32964)
  ·
   intro h32965q e32966; refine seq (seq (r1U hC [3, 7] [] [(7, sB (kind == 10))] [] ?_)); refine cutQ (α := Bool) (fun x => ⟨[(3, sI kind), (7, sB x)], []⟩) (fun x => (True) ∧ (kidsOfKind_j1 kind) = x) ?_ ?_
   ·
    skip; have e32975 : (kidsOfKind_j1 kind) = (kidsOfKind_j1 kind) := rfl; refine cd (kind == 10) ?_ ?_
    · intro h32976; have h32976q := (beq_pos h32976); have e32977 := e32975.trans (bif_t h32976); refine AW.skip ?_; refine meet (kind == 10) (by kernel_rfl) ⟨?_, e32977⟩; exact trivial
    · intro h32978; have h32978q := (beq_neg h32978); have e32979 := e32975.trans (bif_f h32978); refine r1U hC [3, 7] [] [(7, sB (kind == 11))] [] ?_; refine meet (kind == 11) (by kernel_rfl) ⟨?_, e32979⟩; exact trivial
   ·
    intro v7 hR; obtain ⟨hM1, e32980⟩ := hR; replace hM1 : True := hM1; have e32981 := e32966.trans (then_eq e32980); refine cdE e32981 ?_ ?_
    · intro h38458q e38459; refine seq (r1 hC [2] [] ⟨[(2, sI 1)], []⟩ ?_); exact ret (rI 1 e38459)
    ·
     intro h38460q e38461; refine seq (seq (r1U hC [3, 10] [] [(10, sB (kind == 3))] [] ?_)); refine cutQ (α := Bool) (fun x => ⟨[(10, sB x)], []⟩) (fun x => (True) ∧ (kidsOfKind_j7 kind) = x) ?_ ?_
     ·
      skip; have e42100 : (kidsOfKind_j7 kind) = (kidsOfKind_j7 kind) := rfl; refine cd (kind == 3) ?_ ?_
      · intro h42101; have h42101q := (beq_pos h42101); have e42102 := e42100.trans (bif_t h42101); refine kpU [10] [] [] [] ?_; refine AW.skip ?_; refine meet (kind == 3) (by kernel_rfl) ⟨?_, e42102⟩; exact trivial
      ·
       intro h42103; have h42103q := (beq_neg h42103); have e42104 := e42100.trans (bif_f h42103); refine seq (r1U hC [3, 10] [] [(10, sB (kind == 4))] [] ?_); refine cutQ (α := Bool) (fun x => ⟨[(10, sB x)], []⟩) (fun x => (True) ∧ (kidsOfKind_j6 kind) = x) ?_ ?_
       ·
        skip; have e43313 : (kidsOfKind_j6 kind) = (kidsOfKind_j6 kind) := rfl; refine cd (kind == 4) ?_ ?_
        · intro h43314; have h43314q := (beq_pos h43314); have e43315 := e43313.trans (bif_t h43314); refine kpU [10] [] [] [] ?_; refine AW.skip ?_; refine meet (kind == 4) (by kernel_rfl) ⟨?_, e43315⟩; exact trivial
        ·
         intro h43316; have h43316q := (beq_neg h43316); have e43317 := e43313.trans (bif_f h43316); refine seq (r1U hC [3, 10] [] [(10, sB (kind == 5))] [] ?_); refine cutQ (α := Bool) (fun x => ⟨[(10, sB x)], []⟩) (fun x => (True) ∧ (kidsOfKind_j5 kind) = x) ?_ ?_
         ·
          skip; have e43716 : (kidsOfKind_j5 kind) = (kidsOfKind_j5 kind) := rfl; refine cd (kind == 5) ?_ ?_
          · intro h43717; have h43717q := (beq_pos h43717); have e43718 := e43716.trans (bif_t h43717); refine kpU [10] [] [] [] ?_; refine AW.skip ?_; refine meet (kind == 5) (by kernel_rfl) ⟨?_, e43718⟩; exact trivial
          ·
           intro h43719; have h43719q := (beq_neg h43719); have e43720 := e43716.trans (bif_f h43719); refine seq (r1U hC [3, 10] [] [(10, sB (kind == 6))] [] ?_); refine cutQ (α := Bool) (fun x => ⟨[(10, sB x)], []⟩) (fun x => (True) ∧ (kidsOfKind_j4 kind) = x) ?_ ?_
           ·
            skip; have e43849 : (kidsOfKind_j4 kind) = (kidsOfKind_j4 kind) := rfl; refine cd (kind == 6) ?_ ?_
            · intro h43850; have h43850q := (beq_pos h43850); have e43851 := e43849.trans (bif_t h43850); refine kpU [10] [] [] [] ?_; refine AW.skip ?_; refine meet (kind == 6) (by kernel_rfl) ⟨?_, e43851⟩; exact trivial
            ·
             intro h43852; have h43852q := (beq_neg h43852); have e43853 := e43849.trans (bif_f h43852); refine seq (r1U hC [3, 10] [] [(10, sB (kind == 7))] [] ?_); refine cutQ (α := Bool) (fun x => ⟨[(10, sB x)], []⟩) (fun x => (True) ∧ (kidsOfKind_j3 kind) = x) ?_ ?_
             ·
              skip; have e43892 : (kidsOfKind_j3 kind) = (kidsOfKind_j3 kind) := rfl; refine cd (kind == 7) ?_ ?_
              · intro h43893; have h43893q := (beq_pos h43893); have e43894 := e43892.trans (bif_t h43893); refine kpU [10] [] [] [] ?_; refine AW.skip ?_; refine meet (kind == 7) (by kernel_rfl) ⟨?_, e43894⟩; exact trivial
              ·
               intro h43895; have h43895q := (beq_neg h43895); have e43896 := e43892.trans (bif_f h43895); refine seq (r1U hC [3, 10] [] [(10, sB (kind == 8))] [] ?_); refine cutQ (α := Bool) (fun x => ⟨[(10, sB x)], []⟩) (fun x => (True) ∧ (kidsOfKind_j2 kind) = x) ?_ ?_
               ·
                skip; have e43905 : (kidsOfKind_j2 kind) = (kidsOfKind_j2 kind) := rfl; refine cd (kind == 8) ?_ ?_
                · intro h43906; have h43906q := (beq_pos h43906); have e43907 := e43905.trans (bif_t h43906); refine kpU [10] [] [] [] ?_; refine AW.skip ?_; refine meet (kind == 8) (by kernel_rfl) ⟨?_, e43907⟩; exact trivial
                · intro h43908; have h43908q := (beq_neg h43908); have e43909 := e43905.trans (bif_f h43908); refine r1 hC [10] [] ⟨[(10, sB (kind == 9))], []⟩ ?_; refine meet (kind == 9) (by kernel_rfl) ⟨?_, e43909⟩; exact trivial
               · intro v10 hR; obtain ⟨hM2, e43910⟩ := hR; replace hM2 : True := hM2; have e43911 := e43896.trans (then_eq e43910); refine meet v10 (by kernel_rfl) ⟨?_, e43911⟩; exact trivial
             · intro v10 hR; obtain ⟨hM3, e43912⟩ := hR; replace hM3 : True := hM3; have e43913 := e43853.trans (then_eq e43912); refine meet v10 (by kernel_rfl) ⟨?_, e43913⟩; exact trivial
           · intro v10 hR; obtain ⟨hM4, e43914⟩ := hR; replace hM4 : True := hM4; have e43915 := e43720.trans (then_eq e43914); refine meet v10 (by kernel_rfl) ⟨?_, e43915⟩; exact trivial
         · intro v10 hR; obtain ⟨hM5, e43916⟩ := hR; replace hM5 : True := hM5; have e43917 := e43317.trans (then_eq e43916); refine meet v10 (by kernel_rfl) ⟨?_, e43917⟩; exact trivial
       · intro v10 hR; obtain ⟨hM6, e43918⟩ := hR; replace hM6 : True := hM6; have e43919 := e42104.trans (then_eq e43918); refine meet v10 (by kernel_rfl) ⟨?_, e43919⟩; exact trivial
     ·
      intro v10 hR; obtain ⟨hM7, e43920⟩ := hR; replace hM7 : True := hM7; have e43921 := e38461.trans (then_eq e43920); refine cdE e43921 ?_ ?_
      · intro h43927q e43928; refine seq (r1 hC [2] [] ⟨[(2, sI 2)], []⟩ ?_); exact ret (rI 2 e43928)
      · intro h43929q e43930; refine kp [] [] ⟨[], []⟩ ?_; refine AW.skip (seq (r1 hC [2] [] ⟨[(2, sI (-1))], []⟩ ?_)); exact ret (rI _ e43930)

def kidsOf_j0 (kind : Int) : Bool :=
 (bif (kind == 1) then (kind == 1) else (kind == 2))

def kidsOf_j1 (kind : Int) : Bool :=
 (bif (kind == 10) then (kind == 10) else (kind == 11))

def kidsOf_j2 (kind : Int) : Bool :=
 (bif (kind == 8) then (kind == 8) else (kind == 9))

def kidsOf_j3 (kind : Int) : Bool :=
 (bif (kind == 7) then (kind == 7) else (andThen (kidsOf_j2 kind) (fun z => (fun (v10 : Bool) => v10) z)))

def kidsOf_j4 (kind : Int) : Bool :=
 (bif (kind == 6) then (kind == 6) else (andThen (kidsOf_j3 kind) (fun z => (fun (v10 : Bool) => v10) z)))

def kidsOf_j5 (kind : Int) : Bool :=
 (bif (kind == 5) then (kind == 5) else (andThen (kidsOf_j4 kind) (fun z => (fun (v10 : Bool) => v10) z)))

def kidsOf_j6 (kind : Int) : Bool :=
 (bif (kind == 4) then (kind == 4) else (andThen (kidsOf_j5 kind) (fun z => (fun (v10 : Bool) => v10) z)))

def kidsOf_j7 (kind : Int) : Bool :=
 (bif (kind == 3) then (kind == 3) else (andThen (kidsOf_j6 kind) (fun z => (fun (v10 : Bool) => v10) z)))

def kidsOf (kind : Int) : Int := (andThen (kidsOf_j0 kind) (fun z => (fun (v4 : Bool) => (bif v4 then 0 else (andThen (kidsOf_j1 kind) (fun z => (fun (v7 : Bool) => (bif v7 then 1 else (andThen (kidsOf_j7 kind) (fun z => (fun (v10 : Bool) => (bif v10 then 2 else (-1))) z)))) z)))) z))

def kidsOf_sp : FnSpec := mkSpec [.val (.int .i64)] [.val (.int .i64)] (fun (kind : Int) => True) (fun (kind : Int) => [⟨(.int .i64), (kidsOf kind)⟩])

theorem kidsOf_ok : FnOK Try.prog 152 kidsOf_sp := by
 have hC : CtxOK Try.prog (mkCtx tyL []) := CtxOK.nil tyOK; refine FnOK.of_body Try.func152 (by kernel_rfl) rfl (C := (mkCtx tyL [])) hC.ty (by kernel_rfl) ?_; intro (kind : Int) hwf hpre E; have e0 : kidsOf kind = kidsOf kind := rfl; refine seq (r1U hC [0] [] [] [] ?_); refine seq (seq (r1 hC [3] [] ⟨[(3, sI kind)], []⟩ ?_)); refine block (seq (seq (r1U hC [3, 4] [] [(4, sB (kind == 1))] [] ?_))); refine cutQ (α := Bool) (fun x => ⟨[(3, sI kind), (4, sB x)], []⟩) (fun x => (True) ∧ (kidsOf_j0 kind) = x) ?_ ?_
 ·
  skip; have e21981 : (kidsOf_j0 kind) = (kidsOf_j0 kind) := rfl; refine cd (kind == 1) ?_ ?_
  · intro h21982; have h21982q := (beq_pos h21982); have e21983 := e21981.trans (bif_t h21982); refine AW.skip ?_; refine meet (kind == 1) (by kernel_rfl) ⟨?_, e21983⟩; exact trivial
  · intro h21984; have h21984q := (beq_neg h21984); have e21985 := e21981.trans (bif_f h21984); refine r1U hC [3, 4] [] [(4, sB (kind == 2))] [] ?_; refine meet (kind == 2) (by kernel_rfl) ⟨?_, e21985⟩; exact trivial
 ·
  intro v4 hR; obtain ⟨hM0, e21986⟩ := hR; replace hM0 : True := hM0; have e21987 := e0.trans (then_eq e21986); refine cdE e21987 ?_ ?_
  · intro h32963q e32964; refine seq (r1 hC [2] [] ⟨[(2, sI 0)], []⟩ ?_); exact ret (rI 0 e32964)
  ·
   intro h32965q e32966; refine seq (seq (r1U hC [3, 7] [] [(7, sB (kind == 10))] [] ?_)); refine cutQ (α := Bool) (fun x => ⟨[(3, sI kind), (7, sB x)], []⟩) (fun x => (True) ∧ (kidsOf_j1 kind) = x) ?_ ?_
   ·
    skip; have e32975 : (kidsOf_j1 kind) = (kidsOf_j1 kind) := rfl; refine cd (kind == 10) ?_ ?_
    · intro h32976; have h32976q := (beq_pos h32976); have e32977 := e32975.trans (bif_t h32976); refine AW.skip ?_; refine meet (kind == 10) (by kernel_rfl) ⟨?_, e32977⟩; exact trivial
    · intro h32978; have h32978q := (beq_neg h32978); have e32979 := e32975.trans (bif_f h32978); refine r1U hC [3, 7] [] [(7, sB (kind == 11))] [] ?_; refine meet (kind == 11) (by kernel_rfl) ⟨?_, e32979⟩; exact trivial
   ·
    intro v7 hR; obtain ⟨hM1, e32980⟩ := hR; replace hM1 : True := hM1; have e32981 := e32966.trans (then_eq e32980); refine cdE e32981 ?_ ?_
    · intro h38458q e38459; refine seq (r1 hC [2] [] ⟨[(2, sI 1)], []⟩ ?_); exact ret (rI 1 e38459)
    ·
     intro h38460q e38461; refine seq (seq (r1U hC [3, 10] [] [(10, sB (kind == 3))] [] ?_)); refine cutQ (α := Bool) (fun x => ⟨[(10, sB x)], []⟩) (fun x => (True) ∧ (kidsOf_j7 kind) = x) ?_ ?_
     ·
      skip; have e42100 : (kidsOf_j7 kind) = (kidsOf_j7 kind) := rfl; refine cd (kind == 3) ?_ ?_
      · intro h42101; have h42101q := (beq_pos h42101); have e42102 := e42100.trans (bif_t h42101); refine kpU [10] [] [] [] ?_; refine AW.skip ?_; refine meet (kind == 3) (by kernel_rfl) ⟨?_, e42102⟩; exact trivial
      ·
       intro h42103; have h42103q := (beq_neg h42103); have e42104 := e42100.trans (bif_f h42103); refine seq (r1U hC [3, 10] [] [(10, sB (kind == 4))] [] ?_); refine cutQ (α := Bool) (fun x => ⟨[(10, sB x)], []⟩) (fun x => (True) ∧ (kidsOf_j6 kind) = x) ?_ ?_
       ·
        skip; have e43313 : (kidsOf_j6 kind) = (kidsOf_j6 kind) := rfl; refine cd (kind == 4) ?_ ?_
        · intro h43314; have h43314q := (beq_pos h43314); have e43315 := e43313.trans (bif_t h43314); refine kpU [10] [] [] [] ?_; refine AW.skip ?_; refine meet (kind == 4) (by kernel_rfl) ⟨?_, e43315⟩; exact trivial
        ·
         intro h43316; have h43316q := (beq_neg h43316); have e43317 := e43313.trans (bif_f h43316); refine seq (r1U hC [3, 10] [] [(10, sB (kind == 5))] [] ?_); refine cutQ (α := Bool) (fun x => ⟨[(10, sB x)], []⟩) (fun x => (True) ∧ (kidsOf_j5 kind) = x) ?_ ?_
         ·
          skip; have e43716 : (kidsOf_j5 kind) = (kidsOf_j5 kind) := rfl; refine cd (kind == 5) ?_ ?_
          · intro h43717; have h43717q := (beq_pos h43717); have e43718 := e43716.trans (bif_t h43717); refine kpU [10] [] [] [] ?_; refine AW.skip ?_; refine meet (kind == 5) (by kernel_rfl) ⟨?_, e43718⟩; exact trivial
          ·
           intro h43719; have h43719q := (beq_neg h43719); have e43720 := e43716.trans (bif_f h43719); refine seq (r1U hC [3, 10] [] [(10, sB (kind == 6))] [] ?_); refine cutQ (α := Bool) (fun x => ⟨[(10, sB x)], []⟩) (fun x => (True) ∧ (kidsOf_j4 kind) = x) ?_ ?_
           ·
            skip; have e43849 : (kidsOf_j4 kind) = (kidsOf_j4 kind) := rfl; refine cd (kind == 6) ?_ ?_
            · intro h43850; have h43850q := (beq_pos h43850); have e43851 := e43849.trans (bif_t h43850); refine kpU [10] [] [] [] ?_; refine AW.skip ?_; refine meet (kind == 6) (by kernel_rfl) ⟨?_, e43851⟩; exact trivial
            ·
             intro h43852; have h43852q := (beq_neg h43852); have e43853 := e43849.trans (bif_f h43852); refine seq (r1U hC [3, 10] [] [(10, sB (kind == 7))] [] ?_); refine cutQ (α := Bool) (fun x => ⟨[(10, sB x)], []⟩) (fun x => (True) ∧ (kidsOf_j3 kind) = x) ?_ ?_
             ·
              skip; have e43892 : (kidsOf_j3 kind) = (kidsOf_j3 kind) := rfl; refine cd (kind == 7) ?_ ?_
              · intro h43893; have h43893q := (beq_pos h43893); have e43894 := e43892.trans (bif_t h43893); refine kpU [10] [] [] [] ?_; refine AW.skip ?_; refine meet (kind == 7) (by kernel_rfl) ⟨?_, e43894⟩; exact trivial
              ·
               intro h43895; have h43895q := (beq_neg h43895); have e43896 := e43892.trans (bif_f h43895); refine seq (r1U hC [3, 10] [] [(10, sB (kind == 8))] [] ?_); refine cutQ (α := Bool) (fun x => ⟨[(10, sB x)], []⟩) (fun x => (True) ∧ (kidsOf_j2 kind) = x) ?_ ?_
               ·
                skip; have e43905 : (kidsOf_j2 kind) = (kidsOf_j2 kind) := rfl; refine cd (kind == 8) ?_ ?_
                · intro h43906; have h43906q := (beq_pos h43906); have e43907 := e43905.trans (bif_t h43906); refine kpU [10] [] [] [] ?_; refine AW.skip ?_; refine meet (kind == 8) (by kernel_rfl) ⟨?_, e43907⟩; exact trivial
                · intro h43908; have h43908q := (beq_neg h43908); have e43909 := e43905.trans (bif_f h43908); refine r1 hC [10] [] ⟨[(10, sB (kind == 9))], []⟩ ?_; refine meet (kind == 9) (by kernel_rfl) ⟨?_, e43909⟩; exact trivial
               · intro v10 hR; obtain ⟨hM2, e43910⟩ := hR; replace hM2 : True := hM2; have e43911 := e43896.trans (then_eq e43910); refine meet v10 (by kernel_rfl) ⟨?_, e43911⟩; exact trivial
             · intro v10 hR; obtain ⟨hM3, e43912⟩ := hR; replace hM3 : True := hM3; have e43913 := e43853.trans (then_eq e43912); refine meet v10 (by kernel_rfl) ⟨?_, e43913⟩; exact trivial
           · intro v10 hR; obtain ⟨hM4, e43914⟩ := hR; replace hM4 : True := hM4; have e43915 := e43720.trans (then_eq e43914); refine meet v10 (by kernel_rfl) ⟨?_, e43915⟩; exact trivial
         · intro v10 hR; obtain ⟨hM5, e43916⟩ := hR; replace hM5 : True := hM5; have e43917 := e43317.trans (then_eq e43916); refine meet v10 (by kernel_rfl) ⟨?_, e43917⟩; exact trivial
       · intro v10 hR; obtain ⟨hM6, e43918⟩ := hR; replace hM6 : True := hM6; have e43919 := e42104.trans (then_eq e43918); refine meet v10 (by kernel_rfl) ⟨?_, e43919⟩; exact trivial
     ·
      intro v10 hR; obtain ⟨hM7, e43920⟩ := hR; replace hM7 : True := hM7; have e43921 := e38461.trans (then_eq e43920); refine cdE e43921 ?_ ?_
      · intro h43927q e43928; refine seq (r1 hC [2] [] ⟨[(2, sI 2)], []⟩ ?_); exact ret (rI 2 e43928)
      · intro h43929q e43930; refine kp [] [] ⟨[], []⟩ ?_; refine AW.skip (seq (r1 hC [2] [] ⟨[(2, sI (-1))], []⟩ ?_)); exact ret (rI _ e43930)

end
end Go.Proofs.Ytodcdgolcbdkgaa
