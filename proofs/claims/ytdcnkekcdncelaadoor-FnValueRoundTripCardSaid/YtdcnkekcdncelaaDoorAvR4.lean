/-
  The statement FnValueRoundTrip is proved as its card. What was encoded is decoded: the library reads the numeral that it wrote. Conditions: the five listed variables of the library hold what the program's text lays.
-/
import Derived.Test.YtdcnkekcdncelaaDoorAvM
import Derived.Test.YtdcnkekcdncelaaDoorAvS
import Derived.Test.YtdcnkekcdncelaaDoorTie
import Derived.Test.YtdcnkekcdncelaaDoorCards
import Derived.SevenTiedAt
set_option linter.all false
namespace Go.Proofs.YtdcnkekcdncelaaDoor.fnValueRoundTrip
open Go Go.Am Go.RowKit Go.ChangeAt Go.WideShapes

theorem reads : ∀ t ∈ Tryd.f4.params.toList, Tryd.prog.readableRec t = true ∧ t < Tryd.prog.types.size := seatReads (by kernel_rfl)

set_option maxRecDepth 100000 in
theorem lifted (os : Os) (started : os.Started) (H : Type) (enc : TypeId × Value → H) :
  ReturnsInHanded {} Tryd.checked os 4 .any (fun w args => (Rows.fnValueRoundTripSpec.pre enc Tryd.prog Tryd.f4 [] false w args ∧ laidMetH Tryd.prog laid5 w) ∧ sizedMet enc Tryd.prog Tryd.f4 (OpenSpec.ofChange Rows.fnValueRoundTripSpec) false w args)
   (Rows.fnValueRoundTripSpec.post enc Tryd.prog Tryd.f4 false true false false) := by
 refine returnsInHanded_of_change_and (C := Tryd.checked) (X := fun w _ => laidMetH Tryd.prog laid5 w) (fun _ _ _ hh h => h.of_heap hh) seatOwn started (by kernel_rfl) Tryd.func4
  (ChangeSpec.witness_shaped (enc := enc) (C := Tryd.checked) (os := os) (X := fun w _ => laidMetH Tryd.prog laid5 w) false (World.doorLaid Tryd.prog 62 os) #[.slice none 0 0] 8 rfl (World.shaped_of_RefB (by kernel_rfl) (by kernel_rfl)) (by kernel_rfl) (by kernel_rfl) (by kernel_rfl) (door_met os _)) ?_
 intro W base args ds gs before hval hW _ _ hL _
 exact law_contractG W (laid_glob hL) (C := mkCtx tyL []) tyOK (tys := [(.slice (.int .u8))]) FnValueRoundTrip_ok rfl rfl
  (AllTV.get (p := fun tvs => FnValueRoundTrip_sp.pre tvs) (fun _ => trivial))
  (AllTV.get (p := fun tvs => (∀ tv ∈ tvs, Wf tv) → FnValueRoundTrip_sp.fn tvs = [⟨.bool, true⟩]) (fun x0 _ => congrArg (fun b => [(⟨.bool, b⟩ : TV)]) (FnValueRoundTrip_law x0)))
  rfl rfl Tryd.underlying4 seatLaid reads rfl (fun ds h => by match ds, h with | [d0], _ => rfl) base args ds gs before hval hW

theorem p1 : (Rows.fnValueRoundTripRow.inPlace == Tryd.prog.inPlace 4) = true := by kernel_rfl

theorem p2 : (Rows.fnValueRoundTripRow.unfollowed == Tryd.prog.unfollowed 4) = true := by kernel_rfl

theorem p3 : (Rows.fnValueRoundTripRow.recurses == Tryd.prog.recurses 4) = true := by kernel_rfl

theorem p4 : (Rows.fnValueRoundTripRow.named == Tryd.prog.varsNamed 4) = true := by kernel_rfl

theorem closed : joinedFacts Tryd.prog 4 Tryd.f4 Rows.fnValueRoundTripSpec Rows.fnValueRoundTripRow = true := by
 unfold joinedFacts; rw [p1, p2, p3, p4, seatEnter, show (Rows.fnValueRoundTripRow.lifted == Tryd.prog.liftsFinal) = true by rw [seatLifts]; rfl]; kernel_rfl

theorem rowHolds : Rows.FnValueRoundTripSaid :=
 OpenClaim.holds_of_wide 4 Tryd.f4 rfl rfl rfl rfl rfl rfl rfl ⟨rfl, rfl, rfl, rfl, rfl⟩ rfl rfl rfl rfl rfl (by kernel_rfl) Tryd.func4 closed (of_decide_eq_true (by kernel_rfl))
  (by unfold Func.isWrapper; first | (rw [if_pos (by decide +kernel)]; kernel_rfl) | (rw [if_neg (by decide +kernel)]; exact ⟨rfl, rfl⟩))
  (fun os started H enc _ => lifted os started H enc)

theorem proved : Rows.FnValueRoundTripCardSaid :=
 Claim7.holds_tied_plain_at .later [] [.data, .data, .data, .sentinel, .sentinel] true (true, "0e8fd7cfde7037a86bb5175b703f97a5c6e80929032b839403ab3a0b05e11ce3") true
  rowHolds (fun _ h => by cases h) (by kernel_rfl) (fun _ h => by cases h) fnValueRoundTrip_row_tie rfl ⟨rfl, rfl⟩ (by kernel_rfl) rfl
  (fun f fn hf hfn => by
   obtain rfl : f = 4 := Option.some.inj ((show Tryd.prog.funcNamed Rows.fnValueRoundTripRow.func = some 4 by kernel_rfl).symm.trans hf) |>.symm; obtain rfl : fn = Tryd.f4 := (Option.some.inj (Tryd.func4.symm.trans hfn)).symm
   exact ⟨by kernel_rfl, fun j t ht => by
    (have hm : t ∈ Tryd.f4.params.toList := by simpa using Array.mem_of_getElem? ht); have hall : (Tryd.f4.params.toList.all fun u => !Tryd.prog.wantsStandIn u) = true := by kernel_rfl
    exact (show Tryd.prog.wantsStandIn t = false by simpa using List.all_eq_true.1 hall t hm)⟩)
  (by kernel_rfl)

end Go.Proofs.YtdcnkekcdncelaaDoor.fnValueRoundTrip
#print axioms Go.Proofs.YtdcnkekcdncelaaDoor.fnValueRoundTrip.proved
