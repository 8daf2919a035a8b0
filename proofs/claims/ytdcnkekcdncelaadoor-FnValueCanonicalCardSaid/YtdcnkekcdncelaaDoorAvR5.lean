/-
  The statement FnValueCanonical is proved as its card. What decodes is valid and encodes to the text again. Conditions: the five listed variables of the library hold what the program's text lays.
-/
import Derived.Test.YtdcnkekcdncelaaDoorAvN
import Derived.Test.YtdcnkekcdncelaaDoorAvS
import Derived.Test.YtdcnkekcdncelaaDoorTie
import Derived.Test.YtdcnkekcdncelaaDoorCards
import Derived.SevenTiedAt
set_option linter.all false
namespace Go.Proofs.YtdcnkekcdncelaaDoor.fnValueCanonical
open Go Go.Am Go.RowKit Go.ChangeAt Go.WideShapes

theorem reads : ∀ t ∈ Tryd.f5.params.toList, Tryd.prog.readableRec t = true ∧ t < Tryd.prog.types.size := seatReads (by kernel_rfl)

set_option maxRecDepth 100000 in
theorem lifted (os : Os) (started : os.Started) (H : Type) (enc : TypeId × Value → H) :
  ReturnsInHanded {} Tryd.checked os 5 .any (fun w args => (Rows.fnValueCanonicalSpec.pre enc Tryd.prog Tryd.f5 [] false w args ∧ laidMetH Tryd.prog laid5 w) ∧ sizedMet enc Tryd.prog Tryd.f5 (OpenSpec.ofChange Rows.fnValueCanonicalSpec) false w args)
   (Rows.fnValueCanonicalSpec.post enc Tryd.prog Tryd.f5 false true false false) := by
 refine returnsInHanded_of_change_and (C := Tryd.checked) (X := fun w _ => laidMetH Tryd.prog laid5 w) (fun _ _ _ hh h => h.of_heap hh) seatOwn started (by kernel_rfl) Tryd.func5
  (ChangeSpec.witness_shaped (enc := enc) (C := Tryd.checked) (os := os) (X := fun w _ => laidMetH Tryd.prog laid5 w) false (World.doorLaid Tryd.prog 62 os) #[.slice none 0 0] 8 rfl (World.shaped_of_RefB (by kernel_rfl) (by kernel_rfl)) (by kernel_rfl) (by kernel_rfl) (by kernel_rfl) (door_met os _)) ?_
 intro W base args ds gs before hval hW _ _ hL _
 exact law_contractG W (laid_glob hL) (C := mkCtx tyL []) tyOK (tys := [(.slice (.int .u8))]) FnValueCanonical_ok rfl rfl
  (AllTV.get (p := fun tvs => FnValueCanonical_sp.pre tvs) (fun _ => trivial))
  (AllTV.get (p := fun tvs => (∀ tv ∈ tvs, Wf tv) → FnValueCanonical_sp.fn tvs = [⟨.bool, true⟩]) (fun x0 _ => congrArg (fun b => [(⟨.bool, b⟩ : TV)]) (FnValueCanonical_law x0)))
  rfl rfl Tryd.underlying4 seatLaid reads rfl (fun ds h => by match ds, h with | [d0], _ => rfl) base args ds gs before hval hW

theorem p1 : (Rows.fnValueCanonicalRow.inPlace == Tryd.prog.inPlace 5) = true := by kernel_rfl

theorem p2 : (Rows.fnValueCanonicalRow.unfollowed == Tryd.prog.unfollowed 5) = true := by kernel_rfl

theorem p3 : (Rows.fnValueCanonicalRow.recurses == Tryd.prog.recurses 5) = true := by kernel_rfl

theorem p4 : (Rows.fnValueCanonicalRow.named == Tryd.prog.varsNamed 5) = true := by kernel_rfl

theorem closed : joinedFacts Tryd.prog 5 Tryd.f5 Rows.fnValueCanonicalSpec Rows.fnValueCanonicalRow = true := by
 unfold joinedFacts; rw [p1, p2, p3, p4, seatEnter, show (Rows.fnValueCanonicalRow.lifted == Tryd.prog.liftsFinal) = true by rw [seatLifts]; rfl]; kernel_rfl

theorem rowHolds : Rows.FnValueCanonicalSaid :=
 OpenClaim.holds_of_wide 5 Tryd.f5 rfl rfl rfl rfl rfl rfl rfl ⟨rfl, rfl, rfl, rfl, rfl⟩ rfl rfl rfl rfl rfl (by kernel_rfl) Tryd.func5 closed (of_decide_eq_true (by kernel_rfl))
  (by unfold Func.isWrapper; first | (rw [if_pos (by decide +kernel)]; kernel_rfl) | (rw [if_neg (by decide +kernel)]; exact ⟨rfl, rfl⟩))
  (fun os started H enc _ => lifted os started H enc)

theorem proved : Rows.FnValueCanonicalCardSaid :=
 Claim7.holds_tied_plain_at .later [] [.data, .data, .data, .sentinel, .sentinel] true (true, "0e8fd7cfde7037a86bb5175b703f97a5c6e80929032b839403ab3a0b05e11ce3") true
  rowHolds (fun _ h => by cases h) (by kernel_rfl) (fun _ h => by cases h) fnValueCanonical_row_tie rfl ⟨rfl, rfl⟩ (by kernel_rfl) rfl
  (fun f fn hf hfn => by
   obtain rfl : f = 5 := Option.some.inj ((show Tryd.prog.funcNamed Rows.fnValueCanonicalRow.func = some 5 by kernel_rfl).symm.trans hf) |>.symm; obtain rfl : fn = Tryd.f5 := (Option.some.inj (Tryd.func5.symm.trans hfn)).symm
   exact ⟨by kernel_rfl, fun j t ht => by
    (have hm : t ∈ Tryd.f5.params.toList := by simpa using Array.mem_of_getElem? ht); have hall : (Tryd.f5.params.toList.all fun u => !Tryd.prog.wantsStandIn u) = true := by kernel_rfl
    exact (show Tryd.prog.wantsStandIn t = false by simpa using List.all_eq_true.1 hall t hm)⟩)
  (by kernel_rfl)

end Go.Proofs.YtdcnkekcdncelaaDoor.fnValueCanonical
#print axioms Go.Proofs.YtdcnkekcdncelaaDoor.fnValueCanonical.proved
