/-
  A part of the proof of this claim (AxD): what functions of the program compute, and plain facts of that. No conditions.
-/
import Derived.Test.YtgbapklfgjnggaaAxM
import Derived.Test.YtgbapklfgjnggaaAnG
set_option linter.all false
namespace Go.Proofs.Ytgbapklfgjnggaa
open Go Go.Am
open Go.Am.AW (seq r1U ret kpU cdE r0U r1 meet block rS bk exit lpB r0 kp cd)
open List (length getD)
noncomputable section

structure Nd (n : Int) (d : Nat) (t : JoinTree) : Prop where
 ne : treeMask t n ≠ 0
 pc : pc (treeMask t n).toNat ≤ d

end
end Go.Proofs.Ytgbapklfgjnggaa
