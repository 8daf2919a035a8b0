/-
  A part of the proof of this claim (AoT): what functions of the program compute, and plain facts of that. No conditions.
-/
import Derived.Test.YtclennmbceaoeaaAoU
import Derived.Eval
set_option linter.all false
namespace Go.Proofs.Ytclennmbceaoeaa
open Go Go.Am

def tyL : List (Nat × Ty) := [(3, (.int .i64)), (4, .bool), (5, (.int .u8)), (22, (.slice (.int .u8))), (23, (.slice (.int .i64))), (24, (.slice (.named 0))), (25, (.named 1)), (26, (.named 1)), (32, (.slice (.named 3))), (33, (.named 3)), (34, (.named 3)), (39, (.slice (.named 0))), (40, (.named 1)), (41, (.named 1)), (57, (.named 4)), (58, (.named 4)), (66, (.named 2)), (67, (.named 2)), (69, (.named 0)), (70, (.named 0)), (79, (.named 0))]

theorem tyOK {sp : List (Nat × FnSpec)} : CtxTy Try.prog (mkCtx tyL sp) := by
 refine CtxTy.of ⟨?_, ?_, ?_, ?_, ?_, ?_, ?_, ?_, ?_, ?_, ?_, ?_, ?_, ?_, ?_, ?_, ?_, ?_, ?_, ?_, ?_, trivial⟩
 · exact .of 8 (by kernel_rfl) (by decide) (by decide) (by decide) Try.underlying3 trivial (fun _ _ h => by cases h) (PtrsOK.get (l := ptrL) ⟨(fun h => by cases h), trivial⟩)
 · exact .of 1 (by kernel_rfl) (by decide) (by decide) (by decide) Try.underlying4 trivial (fun _ _ h => by cases h) (PtrsOK.get (l := ptrL) ⟨(fun h => by cases h), trivial⟩)
 · exact .of 1 (by kernel_rfl) (by decide) (by decide) (by decide) Try.underlying5 trivial (fun _ _ h => by cases h) (PtrsOK.get (l := ptrL) ⟨(fun h => by cases h), trivial⟩)
 · exact .of 24 (by kernel_rfl) (by decide) (by decide) (by decide) ⟨5, Try.underlying22, rfl⟩ trivial (fun _ _ h => by cases h) (PtrsOK.get (l := ptrL) ⟨(fun h => by cases h), trivial⟩)
 · exact .of 24 (by kernel_rfl) (by decide) (by decide) (by decide) ⟨3, Try.underlying23, rfl⟩ trivial (fun _ _ h => by cases h) (PtrsOK.get (l := ptrL) ⟨(fun h => by cases h), trivial⟩)
 · exact .of 24 (by kernel_rfl) (by decide) (by decide) (by decide) ⟨70, Try.underlying24, rfl⟩ trivial (fun _ _ h => by cases h) (PtrsOK.get (l := ptrL) ⟨(fun h => by cases h), trivial⟩)
 · exact .of 48 (by kernel_rfl) (by decide) (by decide) (by decide) ⟨_, Try.underlying25, by decide, AllI.get ⟨⟨_, rfl, rfl, rfl⟩, ⟨_, rfl, rfl, rfl⟩, trivial⟩⟩ (fun h => by cases h) (fun _ _ h => by cases h) (PtrsOK.get (l := ptrL) ⟨(fun h => by cases h), trivial⟩)
 · exact .of 48 (by kernel_rfl) (by decide) (by decide) (by decide) ⟨_, Try.underlying26, by decide, AllI.get ⟨⟨_, rfl, rfl, rfl⟩, ⟨_, rfl, rfl, rfl⟩, trivial⟩⟩ (fun h => by cases h) (fun _ _ h => by cases h) (PtrsOK.get (l := ptrL) ⟨fun _ => ⟨26, Try.underlying71⟩, trivial⟩)
 · exact .of 24 (by kernel_rfl) (by decide) (by decide) (by decide) ⟨34, Try.underlying32, rfl⟩ trivial (fun _ _ h => by cases h) (PtrsOK.get (l := ptrL) ⟨(fun h => by cases h), trivial⟩)
 · exact .of 32 (by kernel_rfl) (by decide) (by decide) (by decide) ⟨_, Try.underlying33, by decide, AllI.get ⟨⟨_, rfl, rfl, rfl⟩, ⟨_, rfl, rfl, rfl⟩, trivial⟩⟩ (fun h => by cases h) (fun _ _ h => by cases h) (PtrsOK.get (l := ptrL) ⟨(fun h => by cases h), trivial⟩)
 · exact .of 32 (by kernel_rfl) (by decide) (by decide) (by decide) ⟨_, Try.underlying34, by decide, AllI.get ⟨⟨_, rfl, rfl, rfl⟩, ⟨_, rfl, rfl, rfl⟩, trivial⟩⟩ (fun h => by cases h) (fun _ _ h => by cases h) (PtrsOK.get (l := ptrL) ⟨(fun h => by cases h), trivial⟩)
 · exact .of 24 (by kernel_rfl) (by decide) (by decide) (by decide) ⟨79, Try.underlying39, rfl⟩ trivial (fun _ _ h => by cases h) (PtrsOK.get (l := ptrL) ⟨(fun h => by cases h), trivial⟩)
 · exact .of 48 (by kernel_rfl) (by decide) (by decide) (by decide) ⟨_, Try.underlying40, by decide, AllI.get ⟨⟨_, rfl, rfl, rfl⟩, ⟨_, rfl, rfl, rfl⟩, trivial⟩⟩ (fun h => by cases h) (fun _ _ h => by cases h) (PtrsOK.get (l := ptrL) ⟨(fun h => by cases h), trivial⟩)
 · exact .of 48 (by kernel_rfl) (by decide) (by decide) (by decide) ⟨_, Try.underlying41, by decide, AllI.get ⟨⟨_, rfl, rfl, rfl⟩, ⟨_, rfl, rfl, rfl⟩, trivial⟩⟩ (fun h => by cases h) (fun _ _ h => by cases h) (PtrsOK.get (l := ptrL) ⟨(fun h => by cases h), trivial⟩)
 · exact .of 112 (by kernel_rfl) (by decide) (by decide) (by decide) ⟨_, Try.underlying57, by decide, AllI.get ⟨⟨_, rfl, rfl, rfl⟩, ⟨_, rfl, rfl, rfl⟩, ⟨_, rfl, rfl, rfl⟩, ⟨_, rfl, rfl, rfl⟩, ⟨_, rfl, rfl, rfl⟩, trivial⟩⟩ (fun h => by cases h) (fun _ _ h => by cases h) (PtrsOK.get (l := ptrL) ⟨(fun h => by cases h), trivial⟩)
 · exact .of 112 (by kernel_rfl) (by decide) (by decide) (by decide) ⟨_, Try.underlying58, by decide, AllI.get ⟨⟨_, rfl, rfl, rfl⟩, ⟨_, rfl, rfl, rfl⟩, ⟨_, rfl, rfl, rfl⟩, ⟨_, rfl, rfl, rfl⟩, ⟨_, rfl, rfl, rfl⟩, trivial⟩⟩ (fun h => by cases h) (fun _ _ h => by cases h) (PtrsOK.get (l := ptrL) ⟨(fun h => by cases h), trivial⟩)
 · exact .of 32 (by kernel_rfl) (by decide) (by decide) (by decide) ⟨_, Try.underlying66, by decide, AllI.get ⟨⟨_, rfl, rfl, rfl⟩, ⟨_, rfl, rfl, rfl⟩, trivial⟩⟩ (fun h => by cases h) (fun _ _ h => by cases h) (PtrsOK.get (l := ptrL) ⟨(fun h => by cases h), trivial⟩)
 · exact .of 32 (by kernel_rfl) (by decide) (by decide) (by decide) ⟨_, Try.underlying67, by decide, AllI.get ⟨⟨_, rfl, rfl, rfl⟩, ⟨_, rfl, rfl, rfl⟩, trivial⟩⟩ (fun h => by cases h) (fun _ _ h => by cases h) (PtrsOK.get (l := ptrL) ⟨(fun h => by cases h), trivial⟩)
 · exact .of 24 (by kernel_rfl) (by decide) (by decide) (by decide) ⟨_, Try.underlying69, by decide, AllI.get ⟨⟨_, rfl, rfl, rfl⟩, ⟨_, rfl, rfl, rfl⟩, ⟨_, rfl, rfl, rfl⟩, trivial⟩⟩ (fun _ => ⟨by kernel_rfl, by kernel_rfl, by kernel_rfl⟩) (fun _ _ h => by cases h) (PtrsOK.get (l := ptrL) ⟨(fun h => by cases h), trivial⟩)
 · exact .of 24 (by kernel_rfl) (by decide) (by decide) (by decide) ⟨_, Try.underlying70, by decide, AllI.get ⟨⟨_, rfl, rfl, rfl⟩, ⟨_, rfl, rfl, rfl⟩, ⟨_, rfl, rfl, rfl⟩, trivial⟩⟩ (fun _ => ⟨by kernel_rfl, by kernel_rfl, by kernel_rfl⟩) (fun _ _ h => by cases h) (PtrsOK.get (l := ptrL) ⟨(fun h => by cases h), trivial⟩)
 · exact .of 24 (by kernel_rfl) (by decide) (by decide) (by decide) ⟨_, Try.underlying79, by decide, AllI.get ⟨⟨_, rfl, rfl, rfl⟩, ⟨_, rfl, rfl, rfl⟩, ⟨_, rfl, rfl, rfl⟩, trivial⟩⟩ (fun _ => ⟨by kernel_rfl, by kernel_rfl, by kernel_rfl⟩) (fun _ _ h => by cases h) (PtrsOK.get (l := ptrL) ⟨(fun h => by cases h), trivial⟩)

end Go.Proofs.Ytclennmbceaoeaa
