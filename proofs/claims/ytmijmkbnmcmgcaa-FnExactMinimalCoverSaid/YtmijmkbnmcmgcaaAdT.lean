/-
  A part of the proof of this claim (AdT): what functions of the program compute, and plain facts of that. No conditions.
-/
import Derived.Test.YtmijmkbnmcmgcaaAdU
import Derived.Eval
set_option linter.all false
namespace Go.Proofs.Ytmijmkbnmcmgcaa
open Go Go.Am

def tyL : List (Nat × Ty) := [(3, (.int .i64)), (4, .bool), (5, (.int .u8)), (22, (.slice (.named 0))), (25, (.slice (.named 0))), (29, (.slice (.int .u8))), (38, (.named 0)), (40, (.slice (.int .i64))), (49, (.named 0)), (64, (.named 1)), (67, (.slice (.slice (.named 0))))]

theorem tyOK {sp : List (Nat × FnSpec)} : CtxTy Try.prog (mkCtx tyL sp) := by
 refine CtxTy.of ⟨?_, ?_, ?_, ?_, ?_, ?_, ?_, ?_, ?_, ?_, ?_, trivial⟩
 ·
  exact .of 8 (by kernel_rfl) (by decide) (by decide) (by decide) Try.underlying3 trivial
 ·
  exact .of 1 (by kernel_rfl) (by decide) (by decide) (by decide) Try.underlying4 trivial
 ·
  exact .of 1 (by kernel_rfl) (by decide) (by decide) (by decide) Try.underlying5 trivial
 ·
  exact .of 24 (by kernel_rfl) (by decide) (by decide) (by decide) ⟨49, Try.underlying22, rfl⟩ trivial
 ·
  exact .of 24 (by kernel_rfl) (by decide) (by decide) (by decide) ⟨38, Try.underlying25, rfl⟩ trivial
 ·
  exact .of 24 (by kernel_rfl) (by decide) (by decide) (by decide) ⟨5, Try.underlying29, rfl⟩ trivial
 ·
  exact .of 16 (by kernel_rfl) (by decide) (by decide) (by decide) ⟨_, Try.underlying38, by decide, AllI.get ⟨⟨_, rfl, rfl, rfl⟩, ⟨_, rfl, rfl, rfl⟩, trivial⟩⟩ (fun _ => ⟨by kernel_rfl, by kernel_rfl, by kernel_rfl⟩)
 ·
  exact .of 24 (by kernel_rfl) (by decide) (by decide) (by decide) ⟨3, Try.underlying40, rfl⟩ trivial
 ·
  exact .of 16 (by kernel_rfl) (by decide) (by decide) (by decide) ⟨_, Try.underlying49, by decide, AllI.get ⟨⟨_, rfl, rfl, rfl⟩, ⟨_, rfl, rfl, rfl⟩, trivial⟩⟩ (fun _ => ⟨by kernel_rfl, by kernel_rfl, by kernel_rfl⟩)
 ·
  exact .of 32 (by kernel_rfl) (by decide) (by decide) (by decide) ⟨_, Try.underlying64, by decide, AllI.get ⟨⟨_, rfl, rfl, rfl⟩, ⟨_, rfl, rfl, rfl⟩, trivial⟩⟩ (fun h => by cases h)
 ·
  exact .of 24 (by kernel_rfl) (by decide) (by decide) (by decide) ⟨25, Try.underlying67, rfl⟩ trivial

end Go.Proofs.Ytmijmkbnmcmgcaa
