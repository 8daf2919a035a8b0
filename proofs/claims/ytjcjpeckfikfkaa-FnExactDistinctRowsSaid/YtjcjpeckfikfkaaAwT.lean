/-
  A part of the proof of this claim (AwT): what functions of the program compute, and plain facts of that. No conditions.
-/
import Derived.Test.YtjcjpeckfikfkaaAwU
import Derived.Eval
set_option linter.all false
namespace Go.Proofs.Ytjcjpeckfikfkaa
open Go Go.Am

def tyL : List (Nat × Ty) := [(3, (.int .i64)), (4, .bool), (5, (.int .u8)), (22, (.slice (.int .u8))), (23, (.slice (.slice (.named 1)))), (26, (.named 2)), (27, (.named 2)), (31, (.slice (.named 1))), (34, (.slice (.slice (.named 1)))), (47, (.named 2)), (48, (.named 2)), (58, (.slice (.int .i64))), (62, (.named 1)), (63, (.named 1)), (66, (.named 0)), (67, (.named 0)), (72, (.named 0)), (75, (.named 4)), (76, (.named 4)), (94, (.slice (.named 1))), (112, (.named 3)), (113, (.named 3)), (122, (.named 1)), (124, (.int .u64)), (125, (.slice (.slice (.slice (.named 1)))))]

theorem tyOK {sp : List (Nat × FnSpec)} : CtxTy Try.prog (mkCtx tyL sp) := by
 refine CtxTy.of ⟨?_, ?_, ?_, ?_, ?_, ?_, ?_, ?_, ?_, ?_, ?_, ?_, ?_, ?_, ?_, ?_, ?_, ?_, ?_, ?_, ?_, ?_, ?_, ?_, ?_, trivial⟩
 ·
  exact .of 8 (by kernel_rfl) (by decide) (by decide) (by decide) Try.underlying3 trivial
 ·
  exact .of 1 (by kernel_rfl) (by decide) (by decide) (by decide) Try.underlying4 trivial
 ·
  exact .of 1 (by kernel_rfl) (by decide) (by decide) (by decide) Try.underlying5 trivial
 ·
  exact .of 24 (by kernel_rfl) (by decide) (by decide) (by decide) ⟨5, Try.underlying22, rfl⟩ trivial
 ·
  exact .of 24 (by kernel_rfl) (by decide) (by decide) (by decide) ⟨31, Try.underlying23, rfl⟩ trivial
 ·
  exact .of 32 (by kernel_rfl) (by decide) (by decide) (by decide) ⟨_, Try.underlying26, by decide, AllI.get ⟨⟨_, rfl, rfl, rfl⟩, ⟨_, rfl, rfl, rfl⟩, trivial⟩⟩ (fun h => by cases h)
 ·
  exact .of 32 (by kernel_rfl) (by decide) (by decide) (by decide) ⟨_, Try.underlying27, by decide, AllI.get ⟨⟨_, rfl, rfl, rfl⟩, ⟨_, rfl, rfl, rfl⟩, trivial⟩⟩ (fun h => by cases h)
 ·
  exact .of 24 (by kernel_rfl) (by decide) (by decide) (by decide) ⟨63, Try.underlying31, rfl⟩ trivial
 ·
  exact .of 24 (by kernel_rfl) (by decide) (by decide) (by decide) ⟨94, Try.underlying34, rfl⟩ trivial
 ·
  exact .of 32 (by kernel_rfl) (by decide) (by decide) (by decide) ⟨_, Try.underlying47, by decide, AllI.get ⟨⟨_, rfl, rfl, rfl⟩, ⟨_, rfl, rfl, rfl⟩, trivial⟩⟩ (fun h => by cases h)
 ·
  exact .of 32 (by kernel_rfl) (by decide) (by decide) (by decide) ⟨_, Try.underlying48, by decide, AllI.get ⟨⟨_, rfl, rfl, rfl⟩, ⟨_, rfl, rfl, rfl⟩, trivial⟩⟩ (fun h => by cases h)
 ·
  exact .of 24 (by kernel_rfl) (by decide) (by decide) (by decide) ⟨3, Try.underlying58, rfl⟩ trivial
 ·
  exact .of 16 (by kernel_rfl) (by decide) (by decide) (by decide) ⟨_, Try.underlying62, by decide, AllI.get ⟨⟨_, rfl, rfl, rfl⟩, ⟨_, rfl, rfl, rfl⟩, trivial⟩⟩ (fun _ => ⟨by kernel_rfl, by kernel_rfl, by kernel_rfl⟩)
 ·
  exact .of 16 (by kernel_rfl) (by decide) (by decide) (by decide) ⟨_, Try.underlying63, by decide, AllI.get ⟨⟨_, rfl, rfl, rfl⟩, ⟨_, rfl, rfl, rfl⟩, trivial⟩⟩ (fun _ => ⟨by kernel_rfl, by kernel_rfl, by kernel_rfl⟩)
 ·
  exact .of 16 (by kernel_rfl) (by decide) (by decide) (by decide) ⟨_, Try.underlying66, by decide, AllI.get ⟨⟨_, rfl, rfl, rfl⟩, ⟨_, rfl, rfl, rfl⟩, trivial⟩⟩ (fun _ => ⟨by kernel_rfl, by kernel_rfl, by kernel_rfl⟩)
 ·
  exact .of 16 (by kernel_rfl) (by decide) (by decide) (by decide) ⟨_, Try.underlying67, by decide, AllI.get ⟨⟨_, rfl, rfl, rfl⟩, ⟨_, rfl, rfl, rfl⟩, trivial⟩⟩ (fun _ => ⟨by kernel_rfl, by kernel_rfl, by kernel_rfl⟩)
 ·
  exact .of 16 (by kernel_rfl) (by decide) (by decide) (by decide) ⟨_, Try.underlying72, by decide, AllI.get ⟨⟨_, rfl, rfl, rfl⟩, ⟨_, rfl, rfl, rfl⟩, trivial⟩⟩ (fun _ => ⟨by kernel_rfl, by kernel_rfl, by kernel_rfl⟩)
 ·
  exact .of 56 (by kernel_rfl) (by decide) (by decide) (by decide) ⟨_, Try.underlying75, by decide, AllI.get ⟨⟨_, rfl, rfl, rfl⟩, ⟨_, rfl, rfl, rfl⟩, ⟨_, rfl, rfl, rfl⟩, trivial⟩⟩ (fun h => by cases h)
 ·
  exact .of 56 (by kernel_rfl) (by decide) (by decide) (by decide) ⟨_, Try.underlying76, by decide, AllI.get ⟨⟨_, rfl, rfl, rfl⟩, ⟨_, rfl, rfl, rfl⟩, ⟨_, rfl, rfl, rfl⟩, trivial⟩⟩ (fun h => by cases h)
 ·
  exact .of 24 (by kernel_rfl) (by decide) (by decide) (by decide) ⟨122, Try.underlying94, rfl⟩ trivial
 ·
  exact .of 32 (by kernel_rfl) (by decide) (by decide) (by decide) ⟨_, Try.underlying112, by decide, AllI.get ⟨⟨_, rfl, rfl, rfl⟩, ⟨_, rfl, rfl, rfl⟩, trivial⟩⟩ (fun h => by cases h)
 ·
  exact .of 32 (by kernel_rfl) (by decide) (by decide) (by decide) ⟨_, Try.underlying113, by decide, AllI.get ⟨⟨_, rfl, rfl, rfl⟩, ⟨_, rfl, rfl, rfl⟩, trivial⟩⟩ (fun h => by cases h)
 ·
  exact .of 16 (by kernel_rfl) (by decide) (by decide) (by decide) ⟨_, Try.underlying122, by decide, AllI.get ⟨⟨_, rfl, rfl, rfl⟩, ⟨_, rfl, rfl, rfl⟩, trivial⟩⟩ (fun _ => ⟨by kernel_rfl, by kernel_rfl, by kernel_rfl⟩)
 ·
  exact .of 8 (by kernel_rfl) (by decide) (by decide) (by decide) Try.underlying124 trivial
 ·
  exact .of 24 (by kernel_rfl) (by decide) (by decide) (by decide) ⟨23, Try.underlying125, rfl⟩ trivial

end Go.Proofs.Ytjcjpeckfikfkaa
