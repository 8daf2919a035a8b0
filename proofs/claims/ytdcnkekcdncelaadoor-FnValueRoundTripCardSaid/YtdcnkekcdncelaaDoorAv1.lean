/-
  A part of the proof of this claim (Av1): what functions of the program compute, and plain facts of that. No conditions.
-/
import Derived.Test.YtdcnkekcdncelaaDoorAvH
set_option linter.all false
namespace Go.Proofs.YtdcnkekcdncelaaDoor
open Go Go.Am
open Go.Am.AW (seq r1U ret kpU cdE r0U r1 meet rI block rB rS bk exit lpB r0 d0)
noncomputable section

def inRange (n : Int) (low : Int) (high : Int) : Bool := (bif (decide (low ≤ n)) then (decide (n ≤ high)) else false)

def inRange_sp : FnSpec := mkSpec [.val (.int .i64), .val (.int .i64), .val (.int .i64)] [.val .bool] (fun (n : Int) (low : Int) (high : Int) => True) (fun (n : Int) (low : Int) (high : Int) => [⟨.bool, (inRange n low high)⟩])

theorem inRange_ok : FnOK Tryd.prog 27 inRange_sp := by
 have hC : CtxOK Tryd.prog (mkCtx tyL []) := CtxOK.nil tyOK; refine FnOK.of_body Tryd.func27 (by kernel_rfl) rfl (C := (mkCtx tyL [])) hC.ty (by kernel_rfl) ?_; intro (n : Int) (low : Int) (high : Int) hwf hpre E; have e0 : inRange n low high = inRange n low high := rfl; refine seq (r1U hC [0, 1, 2] [] [] [] ?_); refine seq (r0 hC [6] [] ⟨[(6, sB (bif (decide (low ≤ n)) then (decide (n ≤ high)) else false))], []⟩ [(((decide (low ≤ n)) = true) → (((decide (low ≤ n)) = true))), (((decide (low ≤ n)) = true) → (((decide (low ≤ n)) = true))), (((decide (low ≤ n)) = true) → (((decide (low ≤ n)) = true)))] ?_ ?_)
 ·
  exact ⟨(by intro g1; have g1p0 : low ≤ n := (of_decide_eq_true g1); assumption), (by intro g2; have g2p0 : low ≤ n := (of_decide_eq_true g2); assumption), (by intro g3; have g3p0 : low ≤ n := (of_decide_eq_true g3); assumption), trivial⟩
 exact ret (rB _ e0)

def formatInt_r : Nat → Int → ByteArray
 | 0, n => ByteArray.empty
 | fuel + 1, n => (bif (decide (n < (-9223372036854775807))) then (ByteArray.mk #[45, 57, 50, 50, 51, 51, 55, 50, 48, 51, 54, 56, 53, 52, 55, 55, 53, 56, 48, 56]) else (bif (decide (n < 0)) then ((ByteArray.mk #[45]) ++ ((formatInt_r fuel) (-n))) else (bif (decide (n < 10)) then (Go.Am.strOf ([(48 + n)] : List Int)) else (((formatInt_r fuel) (n / 10)) ++ (Go.Am.strOf ([(48 + (n % 10))] : List Int))))))

def formatInt (n : Int) : ByteArray := formatInt_r (Int.toNat n + 2 * Int.toNat (-n) + 1) n

def formatInt_spn (fuel : Nat) : FnSpec := mkSpec [.val (.int .i64)] [.val .str] (fun (n : Int) => (True) ∧ Int.toNat n + 2 * Int.toNat (-n) < fuel) (fun (n : Int) => [⟨.str, (formatInt_r fuel n)⟩])

def formatInt_sp : FnSpec := mkSpec [.val (.int .i64)] [.val .str] (fun (n : Int) => True) (fun (n : Int) => [⟨.str, (formatInt n)⟩])

theorem formatInt_size : ∀ (f k : Nat) (n : Int), 0 ≤ n → n < 10 ^ k → (formatInt_r f n).size ≤ k + 20 := by
 intro f
 induction f with
 | zero => intro k n _ _; show (ByteArray.empty).size ≤ _; simp
 | succ f ih =>
  intro k n h0 hk; unfold formatInt_r; rw [decide_eq_false (by omega : ¬ n < -9223372036854775807), cond_false, decide_eq_false (by omega : ¬ n < 0), cond_false]
  cases hd : decide (n < 10) with
  | true => rw [cond_true, strOf_size]; simp
  | false =>
   have hd := of_decide_eq_false hd; rw [cond_false, ByteArray.size_append, strOf_size]
   cases k with
   | zero => simp at hk; omega
   | succ k =>
    have := ih k (n / 10) (by omega) (by rw [Int.pow_succ] at hk; omega); simp only [List.length_cons, List.length_nil]; omega

theorem formatInt_size' (f : Nat) (n : Int) (h0 : 0 ≤ n) (h1 : n ≤ 9223372036854775807) : (formatInt_r f n).size ≤ 39 := formatInt_size f 19 n h0 (by omega)

theorem formatInt_okn (fuel : Nat) : FnOK Tryd.prog 28 (formatInt_spn fuel) := by
 induction fuel with
 | zero => exact FnOK.never Tryd.func28 (by kernel_rfl) rfl (fun _ h => absurd h.2 (Nat.not_lt_zero _))
 | succ fuel ih => ?_
 have hC : CtxOK Tryd.prog (mkCtx tyL [(28, (formatInt_spn fuel))]) := CtxOK.cons ih (CtxOK.nil tyOK); have hM : Tryd.prog.follows .mixedOrders = true := Tryd.checked.mixed; refine FnOK.of_body Tryd.func28 (by kernel_rfl) rfl (C := (mkCtx tyL [(28, (formatInt_spn fuel))])) hC.ty (by kernel_rfl) ?_; intro (n : Int) hwf hpre E; have hpre : (True) ∧ Int.toNat n + 2 * Int.toNat (-n) < fuel + 1 := hpre; have hw_n : Wf ⟨(.int .i64), (n : Int)⟩ := hwf _ (List.Mem.head _); have hr_n : -9223372036854775808 ≤ n ∧ n ≤ 9223372036854775807 := hw_n.int_inv; have e0 : formatInt_r (fuel + 1) n = formatInt_r (fuel + 1) n := rfl; refine seq (r1U hC [0] [] [] [] ?_); refine seq (seq (r1U hC [0, 4] [] [(4, sB (decide (n < (-9223372036854775807))))] [] ?_)); refine cdE e0 ?_ ?_
 · intro h1q e2; refine seq (r1 hC [2] [] ⟨[(2, .str (ByteArray.mk #[45, 57, 50, 50, 51, 51, 55, 50, 48, 51, 54, 56, 53, 52, 55, 55, 53, 56, 48, 56]))], []⟩ ?_); exact ret (rS .str e2)
 ·
  intro h3q e4; refine kpU [0] [] [] [] ?_; refine AW.skip (seq (seq (r1U hC [0, 6] [] [(6, sB (decide (n < 0)))] [] ?_))); refine cdE e4 ?_ ?_
  ·
   intro h5q e6; refine seq (r0 hC [2] [] ⟨[(2, .str ((ByteArray.mk #[45]) ++ ((formatInt_r fuel) (-n))))], []⟩ [R64 (-n), ((True) ∧ Int.toNat (-n) + 2 * Int.toNat (-(-n)) < fuel), (((ByteArray.size (ByteArray.mk #[45]) + ByteArray.size ((formatInt_r fuel) (-n)) : Nat) : Int) ≤ 9223372036854775807)] ?_ ?_)
   ·
    exact ⟨R64.of (by omega), (by first | (refine ⟨trivial, ?_⟩; have := hpre.2; omega)), (by have := formatInt_size' fuel (-n) (by omega) (by omega); have h2 : ByteArray.size (ByteArray.mk #[45]) = 1 := rfl; omega), trivial⟩
   exact ret (rS .str e6)
  ·
   intro h7q e8; refine kpU [0] [] [] [] ?_; refine AW.skip (seq (seq (r1U hC [0, 12] [] [(12, sB (decide (n < 10)))] [] ?_))); refine cdE e8 ?_ ?_
   ·
    intro h9q e10; refine seq (r0 hC [2] [] ⟨[(2, .str (Go.Am.strOf ([(48 + n)] : List Int)))], []⟩ [R64 (48 + n), (0 ≤ (48 + n) ∧ (48 + n) ≤ 255)] ?_ ?_)
    ·
     exact ⟨R64.of (by omega), (by omega), trivial⟩
    exact ret (rS .str e10)
   ·
    intro h11q e12; refine kpU [0] [] [] [] ?_; refine AW.skip (seq (d0 hC hM [2] [] ⟨[(2, .str (((formatInt_r fuel) (n / 10)) ++ (Go.Am.strOf ([(48 + (n % 10))] : List Int))))], []⟩ [(0 ≤ n ∧ 0 < (10 : Int)), ((True) ∧ Int.toNat (n / 10) + 2 * Int.toNat (-(n / 10)) < fuel), (0 ≤ n ∧ 0 < (10 : Int)), R64 (48 + (n % 10)), (0 ≤ (48 + (n % 10)) ∧ (48 + (n % 10)) ≤ 255), (((ByteArray.size ((formatInt_r fuel) (n / 10)) + ByteArray.size (Go.Am.strOf ([(48 + (n % 10))] : List Int)) : Nat) : Int) ≤ 9223372036854775807)] ?_ ?_))
    ·
     exact ⟨(by omega), (by first | (refine ⟨trivial, ?_⟩; have := hpre.2; omega)), (by omega), R64.of (by omega), (by omega), (by have := formatInt_size' fuel (n / 10) (by omega) (by omega); rw [Go.Am.strOf_size]; simp only [List.length_cons, List.length_nil]; omega), trivial⟩
    exact ret (rS .str e12)

theorem formatInt_fu : AllTV (formatInt_sp.ps.map PK.ty) (fun tvs => formatInt_sp.pre tvs → ∃ k, (formatInt_spn k).pre tvs ∧ (formatInt_spn k).fn tvs = formatInt_sp.fn tvs ∧ (formatInt_spn k).bx tvs = formatInt_sp.bx tvs) :=
 (fun (n : Int) h => ⟨Int.toNat n + 2 * Int.toNat (-n) + 1, (show (True) ∧ Int.toNat n + 2 * Int.toNat (-n) < Int.toNat n + 2 * Int.toNat (-n) + 1 from ⟨h, Nat.lt_succ_self _⟩), (show (formatInt_spn (Int.toNat n + 2 * Int.toNat (-n) + 1)).fn [⟨(.int .i64), (n : Int)⟩] = ([⟨.str, (formatInt_r (Int.toNat n + 2 * Int.toNat (-n) + 1) n)⟩] : List TV) from by kernel_rfl).trans (show ([⟨.str, (formatInt_r (Int.toNat n + 2 * Int.toNat (-n) + 1) n)⟩] : List TV) = formatInt_sp.fn [⟨(.int .i64), (n : Int)⟩] from by kernel_rfl), by kernel_rfl⟩)

theorem formatInt_ok : FnOK Tryd.prog 28 formatInt_sp := FnOK.of_fuel formatInt_okn (fun _ => rfl) (fun _ => rfl) (AllTV.get formatInt_fu)

def validValue (v : Val) : Bool := (bif (inRange (Val.N v) (-9999) 9999) then (bif (!(Val.Null v)) then true else ((Val.N v) == 0)) else false)

def validValue_sp : FnSpec := mkSpec [.val (.named 0)] [.val .bool] (fun (v : Val) => True) (fun (v : Val) => [⟨.bool, (validValue v)⟩])

theorem validValue_ok : FnOK Tryd.prog 15 validValue_sp := by
 have hC : CtxOK Tryd.prog (mkCtx tyL [(27, inRange_sp)]) := CtxOK.cons inRange_ok (CtxOK.nil tyOK); refine FnOK.of_body Tryd.func15 (by kernel_rfl) rfl (C := (mkCtx tyL [(27, inRange_sp)])) hC.ty (by kernel_rfl) ?_; intro (v : Val) hwf hpre E; have hw_v : Wf ⟨(.named 0), (v : Val)⟩ := hwf _ (List.Mem.head _); have hr_v_N := Val.wfl hw_v; have e0 : validValue v = validValue v := rfl; refine seq (r1 hC [1] [4] ⟨[(1, .ref 4 1 0)], [(4, .box 1 [sB (Val.Null v), sI (Val.N v)])]⟩ ?_); refine seq (r0 hC [2] [] ⟨[(2, sB (bif (inRange (Val.N v) (-9999) 9999) then (bif (!(Val.Null v)) then true else ((Val.N v) == 0)) else false))], []⟩ [(True), (((inRange (Val.N v) (-9999) 9999) = true) → (((inRange (Val.N v) (-9999) 9999) = true))), (((inRange (Val.N v) (-9999) 9999) = true) → (((inRange (Val.N v) (-9999) 9999) = true))), (((inRange (Val.N v) (-9999) 9999) = true) → (((inRange (Val.N v) (-9999) 9999) = true))), ((((inRange (Val.N v) (-9999) 9999) = true) ∧ ((!(Val.Null v)) = false)) → ((((inRange (Val.N v) (-9999) 9999) = true) ∧ ((!(Val.Null v)) = false)))), ((((inRange (Val.N v) (-9999) 9999) = true) ∧ ((!(Val.Null v)) = false)) → ((((inRange (Val.N v) (-9999) 9999) = true) ∧ ((!(Val.Null v)) = false)))), (((inRange (Val.N v) (-9999) 9999) = true) → (((inRange (Val.N v) (-9999) 9999) = true))), (((inRange (Val.N v) (-9999) 9999) = true) → (((!(Val.Null v)) = false) → ((((inRange (Val.N v) (-9999) 9999) = true) ∧ ((!(Val.Null v)) = false))))), (((inRange (Val.N v) (-9999) 9999) = true) → (((inRange (Val.N v) (-9999) 9999) = true)))] ?_ ?_)
 ·
  exact ⟨trivial, (by intro g1; have g1p0 : (inRange (Val.N v) (-9999) 9999) = true := g1; assumption), (by intro g2; have g2p0 : (inRange (Val.N v) (-9999) 9999) = true := g2; assumption), (by intro g3; have g3p0 : (inRange (Val.N v) (-9999) 9999) = true := g3; assumption), (by intro g4; have g4p0 : (inRange (Val.N v) (-9999) 9999) = true := (g4).1; have g4p1 : (Val.Null v) = true := (not_neg (g4).2); assumption), (by intro g5; have g5p0 : (inRange (Val.N v) (-9999) 9999) = true := (g5).1; have g5p1 : (Val.Null v) = true := (not_neg (g5).2); assumption), (by intro g6; have g6p0 : (inRange (Val.N v) (-9999) 9999) = true := g6; assumption), (by intro g7; have g7p0 : (inRange (Val.N v) (-9999) 9999) = true := g7; intro g8; have g8p0 : (Val.Null v) = true := (not_neg g8); exact ⟨by assumption, by assumption⟩), (by intro g9; have g9p0 : (inRange (Val.N v) (-9999) 9999) = true := g9; assumption), trivial⟩
 exact ret (rB _ e0)

def formatValue (v : Val) : ByteArray := (bif (Val.Null v) then (ByteArray.mk #[110, 117, 108, 108]) else (formatInt (Val.N v)))

def formatValue_sp : FnSpec := mkSpec [.val (.named 0)] [.val .str] (fun (v : Val) => True) (fun (v : Val) => [⟨.str, (formatValue v)⟩])

theorem formatValue_ok : FnOK Tryd.prog 16 formatValue_sp := by
 have hC : CtxOK Tryd.prog (mkCtx tyL [(28, formatInt_sp)]) := CtxOK.cons formatInt_ok (CtxOK.nil tyOK); refine FnOK.of_body Tryd.func16 (by kernel_rfl) rfl (C := (mkCtx tyL [(28, formatInt_sp)])) hC.ty (by kernel_rfl) ?_; intro (v : Val) hwf hpre E; have hw_v : Wf ⟨(.named 0), (v : Val)⟩ := hwf _ (List.Mem.head _); have hr_v_N := Val.wfl hw_v; have e0 : formatValue v = formatValue v := rfl; refine seq (r1 hC [1] [4] ⟨[(1, .ref 4 1 0)], [(4, .box 1 [sB (Val.Null v), sI (Val.N v)])]⟩ ?_); refine seq (seq (r1U hC [1, 4] [4] [(4, sB (Val.Null v))] [] ?_)); refine cdE e0 ?_ ?_
 · intro h1q e2; refine seq (r1 hC [2] [] ⟨[(2, .str (ByteArray.mk #[110, 117, 108, 108]))], []⟩ ?_); exact ret (rS .str e2)
 ·
  intro h3q e4; refine kpU [1] [4] [] [] ?_; refine AW.skip (seq (r0 hC [2] [] ⟨[(2, .str (formatInt (Val.N v)))], []⟩ [(True)] ?_ ?_))
  ·
   exact ⟨trivial, trivial⟩
  exact ret (rS .str e4)

def EncodeValue (v : Val) : ByteArray := (bif (!(validValue v)) then (ByteArray.mk #[]) else (formatValue v))

def EncodeValue_sp : FnSpec := mkSpec [.val (.named 0)] [.val .str] (fun (v : Val) => True) (fun (v : Val) => [⟨.str, (EncodeValue v)⟩])

theorem EncodeValue_ok : FnOK Tryd.prog 11 EncodeValue_sp := by
 have hC : CtxOK Tryd.prog (mkCtx tyL [(15, validValue_sp), (16, formatValue_sp)]) := CtxOK.cons validValue_ok (CtxOK.cons formatValue_ok (CtxOK.nil tyOK)); refine FnOK.of_body Tryd.func11 (by kernel_rfl) rfl (C := (mkCtx tyL [(15, validValue_sp), (16, formatValue_sp)])) hC.ty (by kernel_rfl) ?_; intro (v : Val) hwf hpre E; have hw_v : Wf ⟨(.named 0), (v : Val)⟩ := hwf _ (List.Mem.head _); have hr_v_N := Val.wfl hw_v; have e0 : EncodeValue v = EncodeValue v := rfl; refine seq (r1 hC [1] [4] ⟨[(1, .ref 4 1 0)], [(4, .box 1 [sB (Val.Null v), sI (Val.N v)])]⟩ ?_); refine seq (seq (r0U hC [1, 5] [4] [(5, sB (!(validValue v)))] [] [(True)] ?_ ?_))
 ·
  exact ⟨trivial, trivial⟩
 refine cdE e0 ?_ ?_
 · intro h1q e2; refine seq (r1 hC [2] [] ⟨[(2, .str (ByteArray.mk #[]))], []⟩ ?_); exact ret (rS .str e2)
 ·
  intro h3q e4; refine kpU [1] [4] [] [] ?_; refine AW.skip (seq (r0 hC [2] [] ⟨[(2, .str (formatValue v))], []⟩ [(True)] ?_ ?_))
  ·
   exact ⟨trivial, trivial⟩
  exact ret (rS .str e4)

end
end Go.Proofs.YtdcnkekcdncelaaDoor
