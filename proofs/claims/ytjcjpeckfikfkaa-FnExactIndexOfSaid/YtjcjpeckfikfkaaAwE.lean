/-
  A part of the proof of this claim (AwE): what functions of the program compute, and plain facts of that. No conditions.
-/
import Derived.Test.YtjcjpeckfikfkaaAw7
set_option linter.all false
namespace Go.Proofs.Ytjcjpeckfikfkaa
open Go Go.Am
open Go.Am.AW (seq r1U ret kpU cdE r0U r1 rS r0 d0U)
open List (length getD take)
noncomputable section

def pickR (r : Rdr) (n : Int) : Int × Rdr := (bif (bif (decide (n < 1)) then true else ((length (Rdr.b r) : Int) == 0)) then (0, (Rdr.mk (Rdr.b r) ((Rdr.p r) + 1))) else (bif (decide ((((Rdr.p r) + 1) - 1) < (length (Rdr.b r) : Int))) then (((getD (Rdr.b r) (Int.toNat (((Rdr.p r) + 1) - 1)) 0) % n), (Rdr.mk (Rdr.b r) ((Rdr.p r) + 1))) else (((bits .xor .i64 (((((getD (Rdr.b r) (Int.toNat ((((Rdr.p r) + 1) - 1) % (length (Rdr.b r) : Int))) 0) * 131) + ((getD (Rdr.b r) (Int.toNat ((((((Rdr.p r) + 1) - 1) * 7) + 3) % (length (Rdr.b r) : Int))) 0) * 1117)) + ((((Rdr.p r) + 1) - 1) * 29)) + (((((Rdr.p r) + 1) - 1) / (length (Rdr.b r) : Int)) * 53)) ((((((getD (Rdr.b r) (Int.toNat ((((Rdr.p r) + 1) - 1) % (length (Rdr.b r) : Int))) 0) * 131) + ((getD (Rdr.b r) (Int.toNat ((((((Rdr.p r) + 1) - 1) * 7) + 3) % (length (Rdr.b r) : Int))) 0) * 1117)) + ((((Rdr.p r) + 1) - 1) * 29)) + (((((Rdr.p r) + 1) - 1) / (length (Rdr.b r) : Int)) * 53)) / 64)) % n), (Rdr.mk (Rdr.b r) ((Rdr.p r) + 1)))))

def pick (b : List Int) (p n : Int) : Int := (pickR ⟨b, p⟩ n).1

def one (b : List Int) (p : Int) (l : List Int) : Int := getD l (Int.toNat (pick b p (length l : Int))) 0

end
end Go.Proofs.Ytjcjpeckfikfkaa


namespace Go.Proofs.Ytjcjpeckfikfkaa
open Go Go.Am
open Go.Am.AW (seq r1U ret kpU cdE r0U meet block rS bk exit lpB kp cutQ d0U)
open List (length getD)
noncomputable section

theorem getD_appendL (a b : List (List Val)) (i : Nat) : getD (a ++ b) i [] = if i < a.length then getD a i [] else getD b (i - a.length) [] := by
 simp only [List.getD_eq_getElem?_getD, List.getElem?_append]; split <;> rfl

def RB (rows : List (List Val)) : Prop := ∀ i : Nat, i < length rows → (length (getD rows i []) : Int) ≤ 1048576

theorem RB.add {rows : List (List Val)} {r : List Val} (h : RB rows) (hr : (r.length : Int) ≤ 1048576) : RB (rows ++ [r]) := by
 intro i hi; rw [getD_appendL]; split
 · exact h i (by omega)
 · simp only [List.length_append, List.length_cons, List.length_nil] at hi; rw [show i - rows.length = 0 by omega]; exact hr

theorem RB.nil : RB [] := fun i hi => absurd hi (Nat.not_lt_zero _)

end
end Go.Proofs.Ytjcjpeckfikfkaa


namespace Go.Proofs.Ytjcjpeckfikfkaa
open Go Go.Am
open List (length set)
noncomputable section

structure Drawn (t : Tab) : Prop where
 rb : RB t.Rows
 len : t.Rows.length ≤ 200

end
end Go.Proofs.Ytjcjpeckfikfkaa
