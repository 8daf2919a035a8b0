/-
  Closed facts of this seat's program that each row needs.
-/
import Derived.Test.YtjcjpeckfikfkaaAmZ
import Derived.Test.YtjcjpeckfikfkaaAwT
import Derived.Test.YtjcjpeckfikfkaaRows
import Derived.JoinedCond
set_option linter.all false
namespace Go.Proofs.Ytjcjpeckfikfkaa
open Go Go.Am Go.RowKit

theorem seatOwn : ownKnob Try.prog.godebug = none := by kernel_rfl

theorem seatLaid : laidOutB Try.prog = true := by kernel_rfl

theorem seatEnter : Try.prog.mayEnter = true := by kernel_rfl

theorem seatLifts : Try.prog.liftsFinal = false := by kernel_rfl

theorem seatReads {l : List TypeId} (h : (l.all fun t => Program.readableRec Try.prog t && Nat.blt t Try.prog.types.size) = true) : ∀ t ∈ l, Try.prog.readableRec t = true ∧ t < Try.prog.types.size := by
 intro t ht; have := List.all_eq_true.1 h t ht
 simpa using this

end Go.Proofs.Ytjcjpeckfikfkaa
