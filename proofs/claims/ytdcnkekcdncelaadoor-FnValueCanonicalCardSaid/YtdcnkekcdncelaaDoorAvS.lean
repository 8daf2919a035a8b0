/-
  Closed facts of this seat's program that each row needs; what the listed variables give the walks.
-/
import Derived.Test.YtdcnkekcdncelaaDoorAmZ
import Derived.Test.YtdcnkekcdncelaaDoorAvT
import Derived.Test.YtdcnkekcdncelaaDoorRows
import Derived.LaidMore
import Derived.OpenShut
import Derived.ProofKit
import Derived.Stop.Joined
import Derived.MakeChecks
import Derived.Stop.LaidErr
import Derived.Lib.AtoiErrMem
set_option linter.all false
namespace Go.Proofs.YtdcnkekcdncelaaDoor
open Go Go.Am Go.RowKit

theorem seatOwn : ownKnob Tryd.prog.godebug = none := by kernel_rfl

theorem seatLaid : laidOutB Tryd.prog = true := by kernel_rfl

theorem seatEnter : Tryd.prog.mayEnter = true := by kernel_rfl

theorem seatLifts : Tryd.prog.liftsFinal = false := by kernel_rfl

theorem seatReads {l : List TypeId} (h : (l.all fun t => Program.readableRec Tryd.prog t && Nat.blt t Tryd.prog.types.size) = true) : ∀ t ∈ l, Tryd.prog.readableRec t = true ∧ t < Tryd.prog.types.size := by
 intro t ht; have := List.all_eq_true.1 h t ht
 simpa using this

abbrev laid5 : List (String × DataW Unit) := [("math/bits.deBruijn32tab", Rows.laid_math_bits_deBruijn32tab), ("math/bits.deBruijn64tab", Rows.laid_math_bits_deBruijn64tab), ("internal/strconv.uint64pow10", Rows.laid_internal_strconv_uint64pow10), ("strconv.ErrRange", Rows.laid_strconv_ErrRange), ("strconv.ErrSyntax", Rows.laid_strconv_ErrSyntax)]

theorem door_met (os : Os) (args : Array Value) : laidMetH Tryd.prog laid5 ((World.doorLaid Tryd.prog 62 os).forCall (fun _ _ => 0) ⟨#[], args, []⟩).memory :=
 laidMetH_of_parts3 (fuel := 8) (laidMet_of_run' 8 (by kernel_rfl) (by kernel_rfl)) (by kernel_rfl) (by kernel_rfl)

theorem g0 : Tryd.prog.globalNamed "strconv.ErrSyntax" = some 0 := by kernel_rfl
theorem g1 : Tryd.prog.globalNamed "strconv.ErrRange" = some 1 := by kernel_rfl
theorem g0t : (Tryd.prog.globals[0]?).map (·.type) = some 37 := by kernel_rfl
theorem g1t : (Tryd.prog.globals[1]?).map (·.type) = some 37 := by kernel_rfl
theorem g2t : (Tryd.prog.globals[2]?).map (·.type) = some 83 := by kernel_rfl

theorem laid_glob {W : World} (h : laidMetH Tryd.prog laid5 W) : Laid W [] := by
 rw [MakeChecks.laidMetH_plain _ _ _ (by kernel_rfl)] at h; have h2 := (laidMet.tail (laidMet.tail h))
 have ht : Lib.TabIs Tryd.prog W "internal/strconv.uint64pow10" .u64 Lib.pow10Tab := by
  (have e : (Rows.laid_internal_strconv_uint64pow10 : DataW Unit) = Lib.tabData .u64 Lib.pow10Tab := by kernel_rfl); rw [e] at h2; exact Lib.tabIs_of_head glob2 g2t Tryd.underlying83 Tryd.underlying64 (by kernel_rfl) (by kernel_rfl) h2
 have h3 := laidMet.tail h2; obtain ⟨ps, ⟨gr, tr, csr, fr, pr, qr, hgr, htr, hvr, hdr, ⟨gs, ts, css, fs, p_, q_, hgs, hts, hvs, hds, _, _⟩, _⟩, _, _⟩ := h3; obtain rfl := Option.some.inj (g1.symm.trans hgr); obtain rfl := Option.some.inj (g0.symm.trans hgs); obtain rfl := Option.some.inj (g1t.symm.trans htr); obtain rfl := Option.some.inj (g0t.symm.trans hts)
 have at0 : ∀ {b : Nat} {n : String} {cs : Array Value} {u : TypeId} {v : Value}, Tryd.prog.globalNamed n = some b → W.var? Tryd.prog n = some cs → cs.toList = [.iface u v] → ErrAt W b := by
  intro b n cs u v hg hv hc; refine ⟨.iface u v, ?_, .inr ⟨u, v, rfl⟩⟩; have := World.var?_cell hg hv 0
  rw [Array.eq_one_of_toList hc] at this
  simpa using this
 obtain ⟨_, ur, vr, hcr, _, _⟩ := iface_of_trod Tryd.underlying37 hdr; obtain ⟨_, us, vs, hcs, _, _⟩ := iface_of_trod Tryd.underlying37 hds; have e0 := at0 hgs hvs hcs; have e1 := at0 hgr hvr hcr; refine ⟨fun b hb => ⟨?_, by simp⟩, ht, e0, e1⟩
 have hb : b = 0 ∨ b = 1 ∨ b = 2 := by
  have : b ∈ ([0, 1, 2] : List Nat) := hb
  simpa using this
 have lt : ∀ {b : Nat} {v : Value}, W.cell? ⟨b, 0, none⟩ = some v → b < W.heap.size := fun {b v} hc => Lib.lt_of_cell hc; rcases hb with rfl | rfl | rfl
 · obtain ⟨_, hc, _⟩ := e0; exact lt hc
 · obtain ⟨_, hc, _⟩ := e1; exact lt hc
 · exact lt (ht.cell glob2 0 (by decide))

end Go.Proofs.YtdcnkekcdncelaaDoor
