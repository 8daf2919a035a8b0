/-
  A part of the proof of this claim (AwJ): what functions of the program compute, and plain facts of that. No conditions.
-/
import Derived.Test.YtjcjpeckfikfkaaAwE
set_option linter.all false
namespace Go.Proofs.Ytjcjpeckfikfkaa
open Go Go.Am
noncomputable section

/-! ### Sorted lists of rows -/

def RSorted (l : List (List Val)) : Prop := l.Pairwise fun x y => rlt y x = false

theorem rows_unique {wd : Nat} {a b : List (List Val)} (h : RowsW wd a) (hp : b.Perm a) (ha : RSorted a) (hb : RSorted b) : b = a := by
 refine sorted_unique hp hb ha fun x hx y hy h1 h2 => ?_
 have q1 := h x (hp.mem_iff.1 hx)
 have q2 := h y (hp.mem_iff.1 hy)
 simp only [rlt, decide_eq_false_iff_not] at h1 h2
 have e := lexI_neg (rkey x) (rkey y)
 exact rkey_inj q1.1.mem q2.1.mem (lexI_zero (by omega))

theorem srtRows_eq {wd : Nat} {a b : List (List Val)} (h : RowsW wd a) (hp : b.Perm a) (hb : RSorted b) : b = srtRows a :=
 rows_unique (h.sub fun _ hr => srtRows_mem.1 hr) (hp.trans (srtRows_perm a).symm) (srtRows_sorted a) hb

theorem rle_trans {a b c : List Val} (h1 : rlt b a = false) (h2 : rlt c b = false) : rlt c a = false := by
 simp only [rlt, decide_eq_false_iff_not] at *
 exact lexI_ntrans h2 h1

theorem cmp_le {wd : Nat} {a b : List Val} (ha : VR a ∧ a.length = wd) (hb : VR b ∧ b.length = wd) : compareRows a b ≤ 0 ↔ rlt b a = false := by
 rw [sRows_lex ha.1 hb.1 (by omega)]
 simp only [rlt, decide_eq_false_iff_not]
 have := lexI_neg (rkey a) (rkey b)
 omega

structure Fits (width : Int) (rows : List (List Val)) : Prop where
 w1 : 1 ≤ width
 w6 : width ≤ 6
 n4 : rows.length ≤ 400
 rows : RowsW width.toNat rows

end
end Go.Proofs.Ytjcjpeckfikfkaa
