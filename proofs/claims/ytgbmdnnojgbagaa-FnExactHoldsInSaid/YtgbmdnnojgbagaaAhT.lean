/-
  A part of the proof of this claim (AhT): what functions of the program compute, and plain facts of that. No conditions.
-/
import Derived.Test.YtgbmdnnojgbagaaAhU
import Derived.Eval
set_option linter.all false
namespace Go.Proofs.Ytgbmdnnojgbagaa
open Go Go.Am

def tyL : List (Nat × Ty) := [(3, (.int .i64)), (4, .bool), (5, (.int .u8)), (23, (.named 0)), (24, (.slice (.slice (.named 1)))), (26, (.named 2)), (29, (.named 0)), (31, (.slice (.slice (.named 1)))), (33, (.named 2)), (37, (.slice (.int .u8))), (45, (.slice (.named 1))), (57, (.slice (.named 1))), (61, (.named 1)), (65, (.named 3)), (68, (.slice (.int .i64))), (76, (.named 1))]

theorem tyOK {sp : List (Nat × FnSpec)} : CtxTy Try.prog (mkCtx tyL sp) := by
  refine CtxTy.of ⟨?_, ?_, ?_, ?_, ?_, ?_, ?_, ?_, ?_, ?_, ?_, ?_, ?_, ?_, ?_, ?_, trivial⟩
  · exact .of 8 (by kernel_rfl) (by decide) (by decide) (by decide) Try.underlying3 trivial
  · exact .of 1 (by kernel_rfl) (by decide) (by decide) (by decide) Try.underlying4 trivial
  · exact .of 1 (by kernel_rfl) (by decide) (by decide) (by decide) Try.underlying5 trivial
  · exact .of 16 (by kernel_rfl) (by decide) (by decide) (by decide) ⟨_, Try.underlying23, by decide, AllI.get ⟨⟨_, rfl, rfl, rfl⟩, ⟨_, rfl, rfl, rfl⟩, trivial⟩⟩ (fun _ => ⟨by kernel_rfl, by kernel_rfl, by kernel_rfl⟩)
  · exact .of 24 (by kernel_rfl) (by decide) (by decide) (by decide) ⟨57, Try.underlying24, rfl⟩ trivial
  · exact .of 32 (by kernel_rfl) (by decide) (by decide) (by decide) ⟨_, Try.underlying26, by decide, AllI.get ⟨⟨_, rfl, rfl, rfl⟩, ⟨_, rfl, rfl, rfl⟩, trivial⟩⟩ (fun h => by cases h)
  · exact .of 16 (by kernel_rfl) (by decide) (by decide) (by decide) ⟨_, Try.underlying29, by decide, AllI.get ⟨⟨_, rfl, rfl, rfl⟩, ⟨_, rfl, rfl, rfl⟩, trivial⟩⟩ (fun _ => ⟨by kernel_rfl, by kernel_rfl, by kernel_rfl⟩)
  · exact .of 24 (by kernel_rfl) (by decide) (by decide) (by decide) ⟨45, Try.underlying31, rfl⟩ trivial
  · exact .of 32 (by kernel_rfl) (by decide) (by decide) (by decide) ⟨_, Try.underlying33, by decide, AllI.get ⟨⟨_, rfl, rfl, rfl⟩, ⟨_, rfl, rfl, rfl⟩, trivial⟩⟩ (fun h => by cases h)
  · exact .of 24 (by kernel_rfl) (by decide) (by decide) (by decide) ⟨5, Try.underlying37, rfl⟩ trivial
  · exact .of 24 (by kernel_rfl) (by decide) (by decide) (by decide) ⟨61, Try.underlying45, rfl⟩ trivial
  · exact .of 24 (by kernel_rfl) (by decide) (by decide) (by decide) ⟨76, Try.underlying57, rfl⟩ trivial
  · exact .of 16 (by kernel_rfl) (by decide) (by decide) (by decide) ⟨_, Try.underlying61, by decide, AllI.get ⟨⟨_, rfl, rfl, rfl⟩, ⟨_, rfl, rfl, rfl⟩, trivial⟩⟩ (fun _ => ⟨by kernel_rfl, by kernel_rfl, by kernel_rfl⟩)
  · exact .of 32 (by kernel_rfl) (by decide) (by decide) (by decide) ⟨_, Try.underlying65, by decide, AllI.get ⟨⟨_, rfl, rfl, rfl⟩, ⟨_, rfl, rfl, rfl⟩, trivial⟩⟩ (fun h => by cases h)
  · exact .of 24 (by kernel_rfl) (by decide) (by decide) (by decide) ⟨3, Try.underlying68, rfl⟩ trivial
  · exact .of 16 (by kernel_rfl) (by decide) (by decide) (by decide) ⟨_, Try.underlying76, by decide, AllI.get ⟨⟨_, rfl, rfl, rfl⟩, ⟨_, rfl, rfl, rfl⟩, trivial⟩⟩ (fun _ => ⟨by kernel_rfl, by kernel_rfl, by kernel_rfl⟩)

end Go.Proofs.Ytgbmdnnojgbagaa
