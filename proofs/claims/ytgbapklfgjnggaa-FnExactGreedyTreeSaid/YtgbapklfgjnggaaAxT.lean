/-
  A part of the proof of this claim (AxT): what functions of the program compute, and plain facts of that. No conditions.
-/
import Derived.Test.YtgbapklfgjnggaaAxU
import Derived.Eval
set_option linter.all false
namespace Go.Proofs.Ytgbapklfgjnggaa
open Go Go.Am

def tyL : List (Nat × Ty) := [(3, (.int .i64)), (4, .bool), (5, (.int .u8)), (22, (.slice (.int .u8))), (23, (.slice (.int .i64))), (24, (.slice (.named 0))), (25, (.named 1)), (26, (.named 1)), (31, (.slice (.named 0))), (32, (.named 1)), (33, (.named 1)), (41, (.slice (.named 3))), (42, (.named 3)), (43, (.named 3)), (57, (.slice (.named 3))), (58, (.named 3)), (59, (.named 3)), (92, (.named 2)), (93, (.named 2)), (95, (.named 0)), (96, (.named 0)), (99, (.named 0))]

theorem tyOK {sp : List (Nat × FnSpec)} : CtxTy Try.prog (mkCtx tyL sp) := by
 refine CtxTy.of ⟨?_, ?_, ?_, ?_, ?_, ?_, ?_, ?_, ?_, ?_, ?_, ?_, ?_, ?_, ?_, ?_, ?_, ?_, ?_, ?_, ?_, ?_, trivial⟩
 · exact .of 8 (by kernel_rfl) (by decide) (by decide) (by decide) Try.underlying3 trivial (fun _ _ h => by cases h) (PtrsOK.get (l := ptrL) ⟨(fun h => by cases h), trivial⟩)
 · exact .of 1 (by kernel_rfl) (by decide) (by decide) (by decide) Try.underlying4 trivial (fun _ _ h => by cases h) (PtrsOK.get (l := ptrL) ⟨(fun h => by cases h), trivial⟩)
 · exact .of 1 (by kernel_rfl) (by decide) (by decide) (by decide) Try.underlying5 trivial (fun _ _ h => by cases h) (PtrsOK.get (l := ptrL) ⟨(fun h => by cases h), trivial⟩)
 · exact .of 24 (by kernel_rfl) (by decide) (by decide) (by decide) ⟨5, Try.underlying22, rfl⟩ trivial (fun _ _ h => by cases h) (PtrsOK.get (l := ptrL) ⟨(fun h => by cases h), trivial⟩)
 · exact .of 24 (by kernel_rfl) (by decide) (by decide) (by decide) ⟨3, Try.underlying23, rfl⟩ trivial (fun _ _ h => by cases h) (PtrsOK.get (l := ptrL) ⟨(fun h => by cases h), trivial⟩)
 · exact .of 24 (by kernel_rfl) (by decide) (by decide) (by decide) ⟨96, Try.underlying24, rfl⟩ trivial (fun _ _ h => by cases h) (PtrsOK.get (l := ptrL) ⟨(fun h => by cases h), trivial⟩)
 · exact .of 48 (by kernel_rfl) (by decide) (by decide) (by decide) ⟨_, Try.underlying25, by decide, AllI.get ⟨⟨_, rfl, rfl, rfl⟩, ⟨_, rfl, rfl, rfl⟩, trivial⟩⟩ (fun h => by cases h) (fun _ _ h => by cases h) (PtrsOK.get (l := ptrL) ⟨(fun h => by cases h), trivial⟩)
 · exact .of 48 (by kernel_rfl) (by decide) (by decide) (by decide) ⟨_, Try.underlying26, by decide, AllI.get ⟨⟨_, rfl, rfl, rfl⟩, ⟨_, rfl, rfl, rfl⟩, trivial⟩⟩ (fun h => by cases h) (fun _ _ h => by cases h) (PtrsOK.get (l := ptrL) ⟨fun _ => ⟨26, Try.underlying83⟩, trivial⟩)
 · exact .of 24 (by kernel_rfl) (by decide) (by decide) (by decide) ⟨99, Try.underlying31, rfl⟩ trivial (fun _ _ h => by cases h) (PtrsOK.get (l := ptrL) ⟨(fun h => by cases h), trivial⟩)
 · exact .of 48 (by kernel_rfl) (by decide) (by decide) (by decide) ⟨_, Try.underlying32, by decide, AllI.get ⟨⟨_, rfl, rfl, rfl⟩, ⟨_, rfl, rfl, rfl⟩, trivial⟩⟩ (fun h => by cases h) (fun _ _ h => by cases h) (PtrsOK.get (l := ptrL) ⟨(fun h => by cases h), trivial⟩)
 · exact .of 48 (by kernel_rfl) (by decide) (by decide) (by decide) ⟨_, Try.underlying33, by decide, AllI.get ⟨⟨_, rfl, rfl, rfl⟩, ⟨_, rfl, rfl, rfl⟩, trivial⟩⟩ (fun h => by cases h) (fun _ _ h => by cases h) (PtrsOK.get (l := ptrL) ⟨(fun h => by cases h), trivial⟩)
 · exact .of 24 (by kernel_rfl) (by decide) (by decide) (by decide) ⟨43, Try.underlying41, rfl⟩ trivial (fun _ _ h => by cases h) (PtrsOK.get (l := ptrL) ⟨(fun h => by cases h), trivial⟩)
 · exact .of 32 (by kernel_rfl) (by decide) (by decide) (by decide) ⟨_, Try.underlying42, by decide, AllI.get ⟨⟨_, rfl, rfl, rfl⟩, ⟨_, rfl, rfl, rfl⟩, trivial⟩⟩ (fun h => by cases h) (fun _ _ h => by cases h) (PtrsOK.get (l := ptrL) ⟨(fun h => by cases h), trivial⟩)
 · exact .of 32 (by kernel_rfl) (by decide) (by decide) (by decide) ⟨_, Try.underlying43, by decide, AllI.get ⟨⟨_, rfl, rfl, rfl⟩, ⟨_, rfl, rfl, rfl⟩, trivial⟩⟩ (fun h => by cases h) (fun _ _ h => by cases h) (PtrsOK.get (l := ptrL) ⟨(fun h => by cases h), trivial⟩)
 · exact .of 24 (by kernel_rfl) (by decide) (by decide) (by decide) ⟨59, Try.underlying57, rfl⟩ trivial (fun _ _ h => by cases h) (PtrsOK.get (l := ptrL) ⟨(fun h => by cases h), trivial⟩)
 · exact .of 32 (by kernel_rfl) (by decide) (by decide) (by decide) ⟨_, Try.underlying58, by decide, AllI.get ⟨⟨_, rfl, rfl, rfl⟩, ⟨_, rfl, rfl, rfl⟩, trivial⟩⟩ (fun h => by cases h) (fun _ _ h => by cases h) (PtrsOK.get (l := ptrL) ⟨(fun h => by cases h), trivial⟩)
 · exact .of 32 (by kernel_rfl) (by decide) (by decide) (by decide) ⟨_, Try.underlying59, by decide, AllI.get ⟨⟨_, rfl, rfl, rfl⟩, ⟨_, rfl, rfl, rfl⟩, trivial⟩⟩ (fun h => by cases h) (fun _ _ h => by cases h) (PtrsOK.get (l := ptrL) ⟨(fun h => by cases h), trivial⟩)
 · exact .of 32 (by kernel_rfl) (by decide) (by decide) (by decide) ⟨_, Try.underlying92, by decide, AllI.get ⟨⟨_, rfl, rfl, rfl⟩, ⟨_, rfl, rfl, rfl⟩, trivial⟩⟩ (fun h => by cases h) (fun _ _ h => by cases h) (PtrsOK.get (l := ptrL) ⟨(fun h => by cases h), trivial⟩)
 · exact .of 32 (by kernel_rfl) (by decide) (by decide) (by decide) ⟨_, Try.underlying93, by decide, AllI.get ⟨⟨_, rfl, rfl, rfl⟩, ⟨_, rfl, rfl, rfl⟩, trivial⟩⟩ (fun h => by cases h) (fun _ _ h => by cases h) (PtrsOK.get (l := ptrL) ⟨(fun h => by cases h), trivial⟩)
 · exact .of 24 (by kernel_rfl) (by decide) (by decide) (by decide) ⟨_, Try.underlying95, by decide, AllI.get ⟨⟨_, rfl, rfl, rfl⟩, ⟨_, rfl, rfl, rfl⟩, ⟨_, rfl, rfl, rfl⟩, trivial⟩⟩ (fun _ => ⟨by kernel_rfl, by kernel_rfl, by kernel_rfl⟩) (fun _ _ h => by cases h) (PtrsOK.get (l := ptrL) ⟨(fun h => by cases h), trivial⟩)
 · exact .of 24 (by kernel_rfl) (by decide) (by decide) (by decide) ⟨_, Try.underlying96, by decide, AllI.get ⟨⟨_, rfl, rfl, rfl⟩, ⟨_, rfl, rfl, rfl⟩, ⟨_, rfl, rfl, rfl⟩, trivial⟩⟩ (fun _ => ⟨by kernel_rfl, by kernel_rfl, by kernel_rfl⟩) (fun _ _ h => by cases h) (PtrsOK.get (l := ptrL) ⟨(fun h => by cases h), trivial⟩)
 · exact .of 24 (by kernel_rfl) (by decide) (by decide) (by decide) ⟨_, Try.underlying99, by decide, AllI.get ⟨⟨_, rfl, rfl, rfl⟩, ⟨_, rfl, rfl, rfl⟩, ⟨_, rfl, rfl, rfl⟩, trivial⟩⟩ (fun _ => ⟨by kernel_rfl, by kernel_rfl, by kernel_rfl⟩) (fun _ _ h => by cases h) (PtrsOK.get (l := ptrL) ⟨(fun h => by cases h), trivial⟩)

end Go.Proofs.Ytgbapklfgjnggaa
