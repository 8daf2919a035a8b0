/-
  A part of the proof of this claim (Av1): what functions of the program compute, and plain facts of that. No conditions.
-/
import Derived.Test.YtdcnkekcdncelaaDoorAvH
set_option linter.all false
namespace Go.Proofs.YtdcnkekcdncelaaDoor
open Go Go.Am
open Go.Am.AW (seq r1U ret kpU cdE r0U r1 meet rI block rB rS bk exit lpB r0 d0)
noncomputable section

def inRange (n : Int) (low : Int) (high : Int) : Bool := (bif (decide (low ≤ n)) then (decide (n ≤ high)) else false)

def inRange_sp : FnSpec := mkSpec [.val (.int .i64), .val (.int .i64), .val (.int .i64)] [.val .bool] (fun (n : Int) (low : Int) (high : Int) => True) (fun (n : Int) (low : Int) (high : Int) => [⟨.bool, (inRange n low high)⟩])

theorem inRange_ok : FnOK Tryd.prog 27 inRange_sp := by
 have hC : CtxOK Tryd.prog (mkCtx tyL []) := CtxOK.nil tyOK; refine FnOK.of_body Tryd.func27 (by kernel_rfl) rfl (C := (mkCtx tyL [])) hC.ty (by kernel_rfl) ?_; intro (n : Int) (low : Int) (high : Int) hwf hpre E; have e0 : inRange n low high = inRange n low high := rfl; refine seq (r1U hC [0, 1, 2] [] [] [] ?_); refine seq (r0 hC [6] [] ⟨[(6, sB (bif (decide (low ≤ n)) then (decide (n ≤ high)) else false))], []⟩ [(((decide (low ≤ n)) = true) → (((decide (low ≤ n)) = true))), (((decide (low ≤ n)) = true) → (((decide (low ≤ n)) = true))), (((decide (low ≤ n)) = true) → (((decide (low ≤ n)) = true)))] ?_ ?_)
 ·
  exact ⟨(by intro g1; have g1p0 : low ≤ n := (of_decide_eq_true g1); assumption), (by intro g2; have g2p0 : low ≤ n := (of_decide_eq_true g2); assumption), (by intro g3; have g3p0 : low ≤ n := (of_decide_eq_true g3); assumption), trivial⟩
 exact ret (rB _ e0)

def formatInt_r : Nat → Int → ByteArray
 | 0, n => ByteArray.empty
 | fuel + 1, n => (bif (decide (n < (-9223372036854775807))) then (ByteArray.mk #[45, 57, 50, 50, 51, 51, 55, 50, 48, 51, 54, 56, 53, 52, 55, 55, 53, 56, 48, 56]) else (bif (decide (n < 0)) then ((ByteArray.mk #[45]) ++ ((formatInt_r fuel) (-n))) else (bif (decide (n < 10)) then (Go.Am.strOf ([(48 + n)] : List Int)) else (((formatInt_r fuel) (n / 10)) ++ (Go.Am.strOf ([(48 + (n % 10))] : List Int))))))

def formatInt (n : Int) : ByteArray := formatInt_r (Int.toNat n + 2 * Int.toNat (-n) + 1) n

def formatInt_spn (fuel : Nat) : FnSpec := mkSpec [.val (.int .i64)] [.val .str] (fun (n : Int) => (True) ∧ Int.toNat n + 2 * Int.toNat (-n) < fuel) (fun (n : Int) => [⟨.str, (formatInt_r fuel n)⟩])

def formatInt_sp : FnSpec := mkSpec [.val (.int .i64)] [.val .str] (fun (n : Int) => True) (fun (n : Int) => [⟨.str, (formatInt n)⟩])

theorem formatInt_size : ∀ (f k : Nat) (n : Int), 0 ≤ n → n < 10 ^ k → (formatInt_r f n).size ≤ k + 20 := by
 intro f
 induction f with
 | zero => intro k n _ _; show (ByteArray.empty).size ≤ _; simp
 | succ f ih =>
  intro k n h0 hk; unfold formatInt_r; rw [decide_eq_false (by omega : ¬ n < -9223372036854775807), cond_false, decide_eq_false (by omega : ¬ n < 0), cond_false]
  cases hd : decide (n < 10) with
  | true => rw [cond_true, strOf_size]; simp
  | false =>
   have hd := of_decide_eq_false hd; rw [cond_false, ByteArray.size_append, strOf_size]
   cases k with
   | zero => simp at hk; omega
   | succ k =>
    have := ih k (n / 10) (by omega) (by rw [Int.pow_succ] at hk; omega); simp only [List.length_cons, List.length_nil]; omega

theorem formatInt_size' (f : Nat) (n : Int) (h0 : 0 ≤ n) (h1 : n ≤ 9223372036854775807) : (formatInt_r f n).size ≤ 39 := formatInt_size f 19 n h0 (by omega)

theorem formatInt_okn (fuel : Nat) : FnOK Tryd.prog 28 (formatInt_spn fuel) := by
 induction fuel with
 | zero => exact FnOK.never Tryd.func28 (by kernel_rfl) rfl (fun _ h => absurd h.2 (Nat.not_lt_zero _))
 | succ fuel ih => ?_
 have hC : CtxOK Tryd.prog (mkCtx tyL [(28, (formatInt_spn fuel))]) := CtxOK.cons ih (CtxOK.nil tyOK); have hM : Tryd.prog.follows .mixedOrders = true := Tryd.checked.mixed; refine FnOK.of_body Tryd.func28 (by kernel_rfl) rfl (C := (mkCtx tyL [(28, (formatInt_spn fuel))])) hC.ty (by kernel_rfl) ?_; intro (n : Int) hwf hpre E; have hpre : (True) ∧ Int.toNat n + 2 * Int.toNat (-n) < fuel + 1 := hpre; have hw_n : Wf ⟨(.int .i64), (n : Int)⟩ := hwf _ (List.Mem.head _); have hr_n : -9223372036854775808 ≤ n ∧ n ≤ 9223372036854775807 := hw_n.int_inv; have e0 : formatInt_r (fuel + 1) n = formatInt_r (fuel + 1) n := rfl; refine seq (r1U hC [0] [] [] [] ?_); refine seq (seq (r1U hC [0, 4] [] [(4, sB (decide (n < (-9223372036854775807))))] [] ?_)); refine cdE e0 ?_ ?_
 · intro h1q e2; refine seq (r1 hC [2] [] ⟨[(2, .str (ByteArray.mk #[45, 57, 50, 50, 51, 51, 55, 50, 48, 51, 54, 56, 53, 52, 55, 55, 53, 56, 48, 56]))], []⟩ ?_); exact ret (rS .str e2)
 ·
  intro h3q e4; refine kpU [0] [] [] [] ?_; refine AW.skip (seq (seq (r1U hC [0, 6] [] [(6, sB (decide (n < 0)))] [] ?_))); refine cdE e4 ?_ ?_
  ·
   intro h5q e6; refine seq (r0 hC [2] [] ⟨[(2, .str ((ByteArray.mk #[45]) ++ ((formatInt_r fuel) (-n))))], []⟩ [R64 (-n), ((True) ∧ Int.toNat (-n) + 2 * Int.toNat (-(-n)) < fuel), (((ByteArray.size (ByteArray.mk #[45]) + ByteArray.size ((formatInt_r fuel) (-n)) : Nat) : Int) ≤ 9223372036854775807)] ?_ ?_)
   ·
    exact ⟨R64.of (by omega), (by first | (refine ⟨trivial, ?_⟩; have := hpre.2; omega)), (by have := formatInt_size' fuel (-n) (by omega) (by omega); have h2 : ByteArray.size (ByteArray.mk #[45]) = 1 := rfl; omega), trivial⟩
   exact ret (rS .str e6)
  ·
   intro h7q e8; refine kpU [0] [] [] [] ?_; refine AW.skip (seq (seq (r1U hC [0, 12] [] [(12, sB (decide (n < 10)))] [] ?_))); refine cdE e8 ?_ ?_
   ·
    intro h9q e10; refine seq (r0 hC [2] [] ⟨[(2, .str (Go.Am.strOf ([(48 + n)] : List Int)))], []⟩ [R64 (48 + n), (0 ≤ (48 + n) ∧ (48 + n) ≤ 255)] ?_ ?_)
    ·
     exact ⟨R64.of (by omega), (by omega), trivial⟩
    exact ret (rS .str e10)
   ·
    intro h11q e12; refine kpU [0] [] [] [] ?_; refine AW.skip (seq (d0 hC hM [2] [] ⟨[(2, .str (((formatInt_r fuel) (n / 10)) ++ (Go.Am.strOf ([(48 + (n % 10))] : List Int))))], []⟩ [(0 ≤ n ∧ 0 < (10 : Int)), ((True) ∧ Int.toNat (n / 10) + 2 * Int.toNat (-(n / 10)) < fuel), (0 ≤ n ∧ 0 < (10 : Int)), R64 (48 + (n % 10)), (0 ≤ (48 + (n % 10)) ∧ (48 + (n % 10)) ≤ 255), (((ByteArray.size ((formatInt_r fuel) (n / 10)) + ByteArray.size (Go.Am.strOf ([(48 + (n % 10))] : List Int)) : Nat) : Int) ≤ 9223372036854775807)] ?_ ?_))
    ·
     exact ⟨(by omega), (by first | (refine ⟨trivial, ?_⟩; have := hpre.2; omega)), (by omega), R64.of (by omega), (by omega), (by have := formatInt_size' fuel (n / 10) (by omega) (by omega); rw [Go.Am.strOf_size]; simp only [List.length_cons, List.length_nil]; omega), trivial⟩
    exact ret (rS .str e12)

theorem formatInt_fu : AllTV (formatInt_sp.ps.map PK.ty) (fun tvs => formatInt_sp.pre tvs → ∃ k, (formatInt_spn k).pre tvs ∧ (formatInt_spn k).fn tvs = formatInt_sp.fn tvs ∧ (formatInt_spn k).bx tvs = formatInt_sp.bx tvs) :=
 (fun (n : Int) h => ⟨Int.toNat n + 2 * Int.toNat (-n) + 1, (show (True) ∧ Int.toNat n + 2 * Int.toNat (-n) < Int.toNat n + 2 * Int.toNat (-n) + 1 from ⟨h, Nat.lt_succ_self _⟩), (show (formatInt_spn (Int.toNat n + 2 * Int.toNat (-n) + 1)).fn [⟨(.int .i64), (n : Int)⟩] = ([⟨.str, (formatInt_r (Int.toNat n + 2 * Int.toNat (-n) + 1) n)⟩] : List TV) from by kernel_rfl).trans (show ([⟨.str, (formatInt_r (Int.toNat n + 2 * Int.toNat (-n) + 1) n)⟩] : List TV) = formatInt_sp.fn [⟨(.int .i64), (n : Int)⟩] from by kernel_rfl), by kernel_rfl⟩)

theorem formatInt_ok : FnOK Tryd.prog 28 formatInt_sp := FnOK.of_fuel formatInt_okn (fun _ => rfl) (fun _ => rfl) (AllTV.get formatInt_fu)

def parseInt_l0 (s : ByteArray) : Nat → Int → Nat → Int
 | 0, n1, i => n1
 | k + 1, n1, i => (bif (bif (decide ((i : Int) < ((ByteArray.size (ByteArray.extract s 1 (ByteArray.size s)) : Nat) : Int))) then (decide ((i : Int) < 9)) else false) then (parseInt_l0 s k (IntKind.wrap .i64 ((IntKind.wrap .i64 ((IntKind.wrap .i64 (10 * n1)) + (Go.Am.sat (ByteArray.extract s 1 (ByteArray.size s)) (i : Int)))) - 48)) (i + 1)) else n1)

def parseInt_l0a (s : ByteArray) : Nat → Int → Nat → Int
 | 0, n1, i => n1
 | k + 1, n1, i => (bif (bif (decide ((i : Int) < ((ByteArray.size s : Nat) : Int))) then (decide ((i : Int) < 9)) else false) then (parseInt_l0a s k (IntKind.wrap .i64 ((IntKind.wrap .i64 ((IntKind.wrap .i64 (10 * n1)) + (Go.Am.sat s (i : Int)))) - 48)) (i + 1)) else n1)

def parseInt (s : ByteArray) : Int := (bif (bif (decide (0 < ((ByteArray.size s : Nat) : Int))) then ((Go.Am.sat s 0) == 45) else false) then (andThen (parseInt_l0 s (9 - 0 + 1) 0 0) (fun z => (fun (n1 : Int) => (IntKind.wrap .i64 ((-1) * n1))) z)) else (andThen (parseInt_l0a s (9 - 0 + 1) 0 0) (fun z => (fun (n1 : Int) => (IntKind.wrap .i64 (1 * n1))) z)))

def parseInt_sp : FnSpec := mkSpec [.val .str] [.val (.int .i64)] (fun (s : ByteArray) => True) (fun (s : ByteArray) => [⟨(.int .i64), (parseInt s)⟩])

theorem parseInt_ok : FnOK Tryd.prog 26 parseInt_sp := by
 have hC : CtxOK Tryd.prog (mkCtx tyL []) := CtxOK.nil tyOK; refine FnOK.of_body Tryd.func26 (by kernel_rfl) rfl (C := (mkCtx tyL [])) hC.ty (by kernel_rfl) ?_; intro (s : ByteArray) hwf hpre E; have e0 : parseInt s = parseInt s := rfl; refine seq (r1U hC [0] [] [] [] ?_); refine seq (r1U hC [0, 3] [] [(3, sI 1)] [] ?_); refine seq (seq (r0U hC [0, 3, 13] [] [(13, sB (bif (decide (0 < ((ByteArray.size s : Nat) : Int))) then ((Go.Am.sat s 0) == 45) else false))] [] [(((decide (0 < ((ByteArray.size s : Nat) : Int))) = true) → (((decide (0 < ((ByteArray.size s : Nat) : Int))) = true))), (((decide (0 < ((ByteArray.size s : Nat) : Int))) = true) → IX (0 : Int) ((ByteArray.size s : Nat) : Int)), (((decide (0 < ((ByteArray.size s : Nat) : Int))) = true) → (((decide (0 < ((ByteArray.size s : Nat) : Int))) = true))), (((decide (0 < ((ByteArray.size s : Nat) : Int))) = true) → (((decide (0 < ((ByteArray.size s : Nat) : Int))) = true)))] ?_ ?_))
 ·
  exact ⟨(by intro g1; have g1p0 : 0 < ((ByteArray.size s : Nat) : Int) := (of_decide_eq_true g1); assumption), (by intro g2; have g2p0 : 0 < ((ByteArray.size s : Nat) : Int) := (of_decide_eq_true g2); refine IX.of ?_; omega), (by intro g3; have g3p0 : 0 < ((ByteArray.size s : Nat) : Int) := (of_decide_eq_true g3); assumption), (by intro g4; have g4p0 : 0 < ((ByteArray.size s : Nat) : Int) := (of_decide_eq_true g4); assumption), trivial⟩
 refine cdE e0 ?_ ?_
 ·
  intro h5q e6; refine seq (r1U hC [0, 3] [] [(3, sI (-1))] [] ?_); refine r0U hC [0, 3] [] [(0, .str (ByteArray.extract s 1 (ByteArray.size s)))] [] [(0 ≤ (1 : Int) ∧ (1 : Int) ≤ ((ByteArray.size s : Nat) : Int) ∧ ((ByteArray.size s : Nat) : Int) ≤ ((ByteArray.size s : Nat) : Int))] ?_ ?_
  ·
   exact ⟨(by omega), trivial⟩
  refine seq (r1U hC [0, 3, 4] [] [(4, sI 0)] [] ?_); refine seq (seq (r1U hC [0, 3, 4, 5] [] [(5, sI 0)] [] ?_)); refine lpB (ζ := Int) (fun x => ⟨[(3, sI (-1)), (4, sI x)], []⟩) (fun x => True) (fun x => x) (α := Int × Nat) (fun x => ⟨[(0, .str (ByteArray.extract s 1 (ByteArray.size s))), (3, sI (-1)), (4, sI x.1), (5, sI ((x.2 : Nat) : Int))], []⟩) (fun x => True) (fun x => 9 - x.2) (fun k x => parseInt_l0 s k x.1 x.2) (0, 0) (by kernel_rfl) ?_ ?_ ?_
  · exact trivial
  ·
   intro x k25q hI0 hk23 e24; obtain ⟨n1, i⟩ := x; refine seq (seq (r0U hC [0, 3, 4, 5, 23] [] [(23, sB (bif (decide ((i : Int) < ((ByteArray.size (ByteArray.extract s 1 (ByteArray.size s)) : Nat) : Int))) then (decide ((i : Int) < 9)) else false))] [] [(((decide ((i : Int) < ((ByteArray.size (ByteArray.extract s 1 (ByteArray.size s)) : Nat) : Int))) = true) → (((decide ((i : Int) < ((ByteArray.size (ByteArray.extract s 1 (ByteArray.size s)) : Nat) : Int))) = true))), (((decide ((i : Int) < ((ByteArray.size (ByteArray.extract s 1 (ByteArray.size s)) : Nat) : Int))) = true) → (((decide ((i : Int) < ((ByteArray.size (ByteArray.extract s 1 (ByteArray.size s)) : Nat) : Int))) = true)))] ?_ ?_))
   ·
    exact ⟨(by intro g26; have g26p0 : (i : Int) < ((ByteArray.size (ByteArray.extract s 1 (ByteArray.size s)) : Nat) : Int) := (of_decide_eq_true g26); assumption), (by intro g27; have g27p0 : (i : Int) < ((ByteArray.size (ByteArray.extract s 1 (ByteArray.size s)) : Nat) : Int) := (of_decide_eq_true g27); assumption), trivial⟩
   refine cdE e24 ?_ ?_
   ·
    intro h28q e29; refine kpU [0, 3, 4, 5] [] [] [] ?_; refine AW.skip (seq (block ?_))
    refine AW.regU hC  true [] [0, 3, 4, 5] []
     [(4, sI (IntKind.wrap .i64 ((IntKind.wrap .i64 ((IntKind.wrap .i64 (10 * n1)) + (Go.Am.sat (ByteArray.extract s 1 (ByteArray.size s)) (i : Int)))) - 48)))] []
     [IX (i : Int) ((ByteArray.size (ByteArray.extract s 1 (ByteArray.size s)) : Nat) : Int), R64 (Go.Am.sat (ByteArray.extract s 1 (ByteArray.size s)) (i : Int))] (by kernel_rfl) ?_ ?_
    ·
     exact ⟨IX.of (by omega), R64.of (by exact sat64 _ _), trivial⟩
    refine r0U hC [0, 3, 4, 5] [] [(5, sI ((i + 1 : Nat) : Int))] [] [R64 ((i + 1 : Nat) : Int)] ?_ ?_
    ·
     exact ⟨R64.of (by omega), trivial⟩
    refine bk ((IntKind.wrap .i64 ((IntKind.wrap .i64 ((IntKind.wrap .i64 (10 * n1)) + (Go.Am.sat (ByteArray.extract s 1 (ByteArray.size s)) (i : Int)))) - 48)), i + 1) e29 hk23 ?_ ?_
    · assumption
    · omega
   · intro h30q e31; refine kpU [3, 4] [] [] [] ?_; refine exit ?_; refine meet n1 (by kernel_rfl) ⟨?_, e31⟩; assumption
  ·
   intro n1 hJ0 e32; have e33 := e6.trans (then_eq e32); refine seq ?_
   refine AW.reg hC  true [] [2] []
    ⟨[(2, sI (IntKind.wrap .i64 ((-1) * n1)))], []⟩
    [] (by kernel_rfl) ?_ ?_
   · exact trivial
   exact ret (rI _ e33)
 ·
  intro h34q e35; refine kpU [0, 3] [] [] [] ?_; refine AW.skip (seq (r1U hC [0, 3, 4] [] [(4, sI 0)] [] ?_)); refine seq (seq (r1U hC [0, 3, 4, 5] [] [(5, sI 0)] [] ?_)); refine lpB (ζ := Int) (fun x => ⟨[(3, sI 1), (4, sI x)], []⟩) (fun x => True) (fun x => x) (α := Int × Nat) (fun x => ⟨[(0, .str s), (3, sI 1), (4, sI x.1), (5, sI ((x.2 : Nat) : Int))], []⟩) (fun x => True) (fun x => 9 - x.2) (fun k x => parseInt_l0a s k x.1 x.2) (0, 0) (by kernel_rfl) ?_ ?_ ?_
  · exact trivial
  ·
   intro x k54q hI0 hk52 e53; obtain ⟨n1, i⟩ := x; refine seq (seq (r0U hC [0, 3, 4, 5, 23] [] [(23, sB (bif (decide ((i : Int) < ((ByteArray.size s : Nat) : Int))) then (decide ((i : Int) < 9)) else false))] [] [(((decide ((i : Int) < ((ByteArray.size s : Nat) : Int))) = true) → (((decide ((i : Int) < ((ByteArray.size s : Nat) : Int))) = true))), (((decide ((i : Int) < ((ByteArray.size s : Nat) : Int))) = true) → (((decide ((i : Int) < ((ByteArray.size s : Nat) : Int))) = true)))] ?_ ?_))
   ·
    exact ⟨(by intro g55; have g55p0 : (i : Int) < ((ByteArray.size s : Nat) : Int) := (of_decide_eq_true g55); assumption), (by intro g56; have g56p0 : (i : Int) < ((ByteArray.size s : Nat) : Int) := (of_decide_eq_true g56); assumption), trivial⟩
   refine cdE e53 ?_ ?_
   ·
    intro h57q e58; refine kpU [0, 3, 4, 5] [] [] [] ?_; refine AW.skip (seq (block ?_))
    refine AW.regU hC  true [] [0, 3, 4, 5] []
     [(4, sI (IntKind.wrap .i64 ((IntKind.wrap .i64 ((IntKind.wrap .i64 (10 * n1)) + (Go.Am.sat s (i : Int)))) - 48)))] []
     [IX (i : Int) ((ByteArray.size s : Nat) : Int), R64 (Go.Am.sat s (i : Int))] (by kernel_rfl) ?_ ?_
    ·
     exact ⟨IX.of (by omega), R64.of (by exact sat64 _ _), trivial⟩
    refine r0U hC [0, 3, 4, 5] [] [(5, sI ((i + 1 : Nat) : Int))] [] [R64 ((i + 1 : Nat) : Int)] ?_ ?_
    ·
     exact ⟨R64.of (by omega), trivial⟩
    refine bk ((IntKind.wrap .i64 ((IntKind.wrap .i64 ((IntKind.wrap .i64 (10 * n1)) + (Go.Am.sat s (i : Int)))) - 48)), i + 1) e58 hk52 ?_ ?_
    · assumption
    · omega
   · intro h59q e60; refine kpU [3, 4] [] [] [] ?_; refine exit ?_; refine meet n1 (by kernel_rfl) ⟨?_, e60⟩; assumption
  ·
   intro n1 hJ0 e61; have e62 := e35.trans (then_eq e61); refine seq ?_
   refine AW.reg hC  true [] [2] []
    ⟨[(2, sI (IntKind.wrap .i64 (1 * n1)))], []⟩
    [] (by kernel_rfl) ?_ ?_
   · exact trivial
   exact ret (rI _ e62)

def validValue (v : Val) : Bool := (bif (inRange (Val.N v) (-9999) 9999) then (bif (!(Val.Null v)) then true else ((Val.N v) == 0)) else false)

def validValue_sp : FnSpec := mkSpec [.val (.named 0)] [.val .bool] (fun (v : Val) => True) (fun (v : Val) => [⟨.bool, (validValue v)⟩])

theorem validValue_ok : FnOK Tryd.prog 15 validValue_sp := by
 have hC : CtxOK Tryd.prog (mkCtx tyL [(27, inRange_sp)]) := CtxOK.cons inRange_ok (CtxOK.nil tyOK); refine FnOK.of_body Tryd.func15 (by kernel_rfl) rfl (C := (mkCtx tyL [(27, inRange_sp)])) hC.ty (by kernel_rfl) ?_; intro (v : Val) hwf hpre E; have hw_v : Wf ⟨(.named 0), (v : Val)⟩ := hwf _ (List.Mem.head _); have hr_v_N := Val.wfl hw_v; have e0 : validValue v = validValue v := rfl; refine seq (r1 hC [1] [4] ⟨[(1, .ref 4 1 0)], [(4, .box 1 [sB (Val.Null v), sI (Val.N v)])]⟩ ?_); refine seq (r0 hC [2] [] ⟨[(2, sB (bif (inRange (Val.N v) (-9999) 9999) then (bif (!(Val.Null v)) then true else ((Val.N v) == 0)) else false))], []⟩ [(True), (((inRange (Val.N v) (-9999) 9999) = true) → (((inRange (Val.N v) (-9999) 9999) = true))), (((inRange (Val.N v) (-9999) 9999) = true) → (((inRange (Val.N v) (-9999) 9999) = true))), (((inRange (Val.N v) (-9999) 9999) = true) → (((inRange (Val.N v) (-9999) 9999) = true))), ((((inRange (Val.N v) (-9999) 9999) = true) ∧ ((!(Val.Null v)) = false)) → ((((inRange (Val.N v) (-9999) 9999) = true) ∧ ((!(Val.Null v)) = false)))), ((((inRange (Val.N v) (-9999) 9999) = true) ∧ ((!(Val.Null v)) = false)) → ((((inRange (Val.N v) (-9999) 9999) = true) ∧ ((!(Val.Null v)) = false)))), (((inRange (Val.N v) (-9999) 9999) = true) → (((inRange (Val.N v) (-9999) 9999) = true))), (((inRange (Val.N v) (-9999) 9999) = true) → (((!(Val.Null v)) = false) → ((((inRange (Val.N v) (-9999) 9999) = true) ∧ ((!(Val.Null v)) = false))))), (((inRange (Val.N v) (-9999) 9999) = true) → (((inRange (Val.N v) (-9999) 9999) = true)))] ?_ ?_)
 ·
  exact ⟨trivial, (by intro g1; have g1p0 : (inRange (Val.N v) (-9999) 9999) = true := g1; assumption), (by intro g2; have g2p0 : (inRange (Val.N v) (-9999) 9999) = true := g2; assumption), (by intro g3; have g3p0 : (inRange (Val.N v) (-9999) 9999) = true := g3; assumption), (by intro g4; have g4p0 : (inRange (Val.N v) (-9999) 9999) = true := (g4).1; have g4p1 : (Val.Null v) = true := (not_neg (g4).2); assumption), (by intro g5; have g5p0 : (inRange (Val.N v) (-9999) 9999) = true := (g5).1; have g5p1 : (Val.Null v) = true := (not_neg (g5).2); assumption), (by intro g6; have g6p0 : (inRange (Val.N v) (-9999) 9999) = true := g6; assumption), (by intro g7; have g7p0 : (inRange (Val.N v) (-9999) 9999) = true := g7; intro g8; have g8p0 : (Val.Null v) = true := (not_neg g8); exact ⟨by assumption, by assumption⟩), (by intro g9; have g9p0 : (inRange (Val.N v) (-9999) 9999) = true := g9; assumption), trivial⟩
 exact ret (rB _ e0)

def formatValue (v : Val) : ByteArray := (bif (Val.Null v) then (ByteArray.mk #[110, 117, 108, 108]) else (formatInt (Val.N v)))

def formatValue_sp : FnSpec := mkSpec [.val (.named 0)] [.val .str] (fun (v : Val) => True) (fun (v : Val) => [⟨.str, (formatValue v)⟩])

theorem formatValue_ok : FnOK Tryd.prog 16 formatValue_sp := by
 have hC : CtxOK Tryd.prog (mkCtx tyL [(28, formatInt_sp)]) := CtxOK.cons formatInt_ok (CtxOK.nil tyOK); refine FnOK.of_body Tryd.func16 (by kernel_rfl) rfl (C := (mkCtx tyL [(28, formatInt_sp)])) hC.ty (by kernel_rfl) ?_; intro (v : Val) hwf hpre E; have hw_v : Wf ⟨(.named 0), (v : Val)⟩ := hwf _ (List.Mem.head _); have hr_v_N := Val.wfl hw_v; have e0 : formatValue v = formatValue v := rfl; refine seq (r1 hC [1] [4] ⟨[(1, .ref 4 1 0)], [(4, .box 1 [sB (Val.Null v), sI (Val.N v)])]⟩ ?_); refine seq (seq (r1U hC [1, 4] [4] [(4, sB (Val.Null v))] [] ?_)); refine cdE e0 ?_ ?_
 · intro h1q e2; refine seq (r1 hC [2] [] ⟨[(2, .str (ByteArray.mk #[110, 117, 108, 108]))], []⟩ ?_); exact ret (rS .str e2)
 ·
  intro h3q e4; refine kpU [1] [4] [] [] ?_; refine AW.skip (seq (r0 hC [2] [] ⟨[(2, .str (formatInt (Val.N v)))], []⟩ [(True)] ?_ ?_))
  ·
   exact ⟨trivial, trivial⟩
  exact ret (rS .str e4)

def EncodeValue (v : Val) : ByteArray := (bif (!(validValue v)) then (ByteArray.mk #[]) else (formatValue v))

def EncodeValue_sp : FnSpec := mkSpec [.val (.named 0)] [.val .str] (fun (v : Val) => True) (fun (v : Val) => [⟨.str, (EncodeValue v)⟩])

theorem EncodeValue_ok : FnOK Tryd.prog 11 EncodeValue_sp := by
 have hC : CtxOK Tryd.prog (mkCtx tyL [(15, validValue_sp), (16, formatValue_sp)]) := CtxOK.cons validValue_ok (CtxOK.cons formatValue_ok (CtxOK.nil tyOK)); refine FnOK.of_body Tryd.func11 (by kernel_rfl) rfl (C := (mkCtx tyL [(15, validValue_sp), (16, formatValue_sp)])) hC.ty (by kernel_rfl) ?_; intro (v : Val) hwf hpre E; have hw_v : Wf ⟨(.named 0), (v : Val)⟩ := hwf _ (List.Mem.head _); have hr_v_N := Val.wfl hw_v; have e0 : EncodeValue v = EncodeValue v := rfl; refine seq (r1 hC [1] [4] ⟨[(1, .ref 4 1 0)], [(4, .box 1 [sB (Val.Null v), sI (Val.N v)])]⟩ ?_); refine seq (seq (r0U hC [1, 5] [4] [(5, sB (!(validValue v)))] [] [(True)] ?_ ?_))
 ·
  exact ⟨trivial, trivial⟩
 refine cdE e0 ?_ ?_
 · intro h1q e2; refine seq (r1 hC [2] [] ⟨[(2, .str (ByteArray.mk #[]))], []⟩ ?_); exact ret (rS .str e2)
 ·
  intro h3q e4; refine kpU [1] [4] [] [] ?_; refine AW.skip (seq (r0 hC [2] [] ⟨[(2, .str (formatValue v))], []⟩ [(True)] ?_ ?_))
  ·
   exact ⟨trivial, trivial⟩
  exact ret (rS .str e4)

def parseValue (s : ByteArray) : Val := (bif (Go.Am.seq s (ByteArray.mk #[110, 117, 108, 108])) then (Val.mk true 0) else (Val.mk false (parseInt s)))

def parseValue_sp : FnSpec := mkSpec [.val .str] [.val (.named 0)] (fun (s : ByteArray) => True) (fun (s : ByteArray) => [⟨(.named 0), (parseValue s)⟩])

theorem parseValue_ok : FnOK Tryd.prog 14 parseValue_sp := by
 have hC : CtxOK Tryd.prog (mkCtx tyL [(26, parseInt_sp)]) := CtxOK.cons parseInt_ok (CtxOK.nil tyOK); refine FnOK.of_body Tryd.func14 (by kernel_rfl) rfl (C := (mkCtx tyL [(26, parseInt_sp)])) hC.ty (by kernel_rfl) ?_; intro (s : ByteArray) hwf hpre E; have e0 : parseValue s = parseValue s := rfl; refine seq (r1U hC [0, 2] [8] [(2, .ref 8 1 0)] [(8, .box 1 [sB false, sI 0])] ?_); refine seq (seq (r1U hC [0, 2, 4] [8] [(4, sB (Go.Am.seq s (ByteArray.mk #[110, 117, 108, 108])))] [] ?_)); refine cdE e0 ?_ ?_
 · intro h1q e2; refine seq (r1U hC [2] [8] [] [(8, .box 1 [sB true, sI 0])] ?_); exact ret (rS (.named 0) e2)
 ·
  intro h3q e4; refine kpU [0, 2] [8] [] [] ?_; refine AW.skip (seq (r0U hC [2] [8] [] [(8, .box 1 [sB false, sI (parseInt s)])] [(True)] ?_ ?_))
  ·
   exact ⟨trivial, trivial⟩
  exact ret (rS (.named 0) e4)

def DecodeValue (s : ByteArray) : Val × Bool := (bif (bif (!(validValue (parseValue s))) then true else (!(Go.Am.seq (formatValue (parseValue s)) s))) then ((Val.mk false 0), false) else ((parseValue s), true))

def DecodeValue_sp : FnSpec := mkSpec [.val .str] [.val (.named 0), .val .bool] (fun (s : ByteArray) => True) (fun (s : ByteArray) => [⟨(.named 0), ((DecodeValue s).1)⟩, ⟨.bool, ((DecodeValue s).2)⟩])

theorem DecodeValue_ok : FnOK Tryd.prog 6 DecodeValue_sp := by
 have hC : CtxOK Tryd.prog (mkCtx tyL [(14, parseValue_sp), (15, validValue_sp), (16, formatValue_sp)]) := CtxOK.cons parseValue_ok (CtxOK.cons validValue_ok (CtxOK.cons formatValue_ok (CtxOK.nil tyOK))); refine FnOK.of_body Tryd.func6 (by kernel_rfl) rfl (C := (mkCtx tyL [(14, parseValue_sp), (15, validValue_sp), (16, formatValue_sp)])) hC.ty (by kernel_rfl) ?_; intro (s : ByteArray) hwf hpre E; have e0 : DecodeValue s = DecodeValue s := rfl; refine seq (r1U hC [0, 2] [8] [(2, .ref 8 1 0)] [(8, .box 1 [sB false, sI 0])] ?_); refine seq (r0U hC [0, 2, 4] [8, 16] [(4, .ref 16 1 0)] [(16, .box 1 [sB (Val.Null (parseValue s)), sI (Val.N (parseValue s))])] [(True)] ?_ ?_)
 ·
  exact ⟨trivial, trivial⟩
 refine seq (seq (r0U hC [2, 4, 15] [8, 16] [(15, sB (bif (!(validValue (parseValue s))) then true else (!(Go.Am.seq (formatValue (parseValue s)) s))))] [] [(True), (((!(validValue (parseValue s))) = false) → (((!(validValue (parseValue s))) = false))), (((!(validValue (parseValue s))) = false) → (True)), (((!(validValue (parseValue s))) = false) → (((!(validValue (parseValue s))) = false))), (((!(validValue (parseValue s))) = false) → (((!(validValue (parseValue s))) = false))), (((!(validValue (parseValue s))) = false) → (((!(validValue (parseValue s))) = false)))] ?_ ?_))
 ·
  exact ⟨trivial, (by intro g1; have g1p0 : (validValue (parseValue s)) = true := (not_neg g1); assumption), (by intro g2; have g2p0 : (validValue (parseValue s)) = true := (not_neg g2); trivial), (by intro g3; have g3p0 : (validValue (parseValue s)) = true := (not_neg g3); assumption), (by intro g4; have g4p0 : (validValue (parseValue s)) = true := (not_neg g4); assumption), (by intro g5; have g5p0 : (validValue (parseValue s)) = true := (not_neg g5); assumption), trivial⟩
 refine cdE e0 ?_ ?_
 · intro h6q e7; refine seq (r1U hC [2, 3] [8] [(3, sB false)] [] ?_); exact ret (AW.retE (β := Val × Bool) (fun v => [⟨(.named 0), v.1⟩, ⟨.bool, v.2⟩]) (fun v => []) (v := ((Val.mk false 0), false)) e7 (by kernel_rfl) rfl rfl)
 · intro h8q e9; refine kpU [2, 4] [8, 16] [] [] ?_; refine AW.skip (seq (r1U hC [2, 3] [8] [(3, sB true)] [(8, .box 1 [sB (Val.Null (parseValue s)), sI (Val.N (parseValue s))])] ?_)); exact ret (AW.retE (β := Val × Bool) (fun v => [⟨(.named 0), v.1⟩, ⟨.bool, v.2⟩]) (fun v => []) (v := ((parseValue s), true)) e9 (by kernel_rfl) rfl rfl)

end
end Go.Proofs.YtdcnkekcdncelaaDoor
