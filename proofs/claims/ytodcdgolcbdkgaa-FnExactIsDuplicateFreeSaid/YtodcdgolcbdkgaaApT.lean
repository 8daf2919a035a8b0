/-
  A part of the proof of this claim (ApT): what functions of the program compute, and plain facts of that. No conditions.
-/
import Derived.Test.YtodcdgolcbdkgaaApU
import Derived.Eval
set_option linter.all false
namespace Go.Proofs.Ytodcdgolcbdkgaa
open Go Go.Am

def tyL : List (Nat × Ty) := [(3, (.int .i64)), (4, .bool), (22, (.slice (.named 1))), (23, (.slice (.int .i64))), (24, (.slice (.named 2))), (26, (.named 2)), (27, (.slice (.named 3))), (31, (.slice (.named 1))), (32, (.slice (.named 2))), (34, (.named 2)), (36, (.slice (.named 3))), (46, (.slice (.slice .bool))), (48, (.slice .bool)), (68, (.named 0)), (70, (.named 1)), (72, (.named 0)), (74, (.named 1)), (87, (.named 3)), (90, (.named 3)), (132, (.slice (.named 0))), (136, (.int .i64))]

theorem tyOK {sp : List (Nat × FnSpec)} : CtxTy Try.prog (mkCtx tyL sp) := by
 refine CtxTy.of ⟨?_, ?_, ?_, ?_, ?_, ?_, ?_, ?_, ?_, ?_, ?_, ?_, ?_, ?_, ?_, ?_, ?_, ?_, ?_, ?_, ?_, trivial⟩
 ·
  exact .of 8 (by kernel_rfl) (by decide) (by decide) (by decide) Try.underlying3 trivial (ArrsOK.get (l := arrL) ⟨fun _ => ArrAt.of (by decide) Try.underlying127 rfl (by kernel_rfl), trivial⟩)
 ·
  exact .of 1 (by kernel_rfl) (by decide) (by decide) (by decide) Try.underlying4 trivial (ArrsOK.get (l := arrL) ⟨(fun h => by cases h), trivial⟩)
 ·
  exact .of 24 (by kernel_rfl) (by decide) (by decide) (by decide) ⟨70, Try.underlying22, rfl⟩ trivial (ArrsOK.get (l := arrL) ⟨(fun h => by cases h), trivial⟩)
 ·
  exact .of 24 (by kernel_rfl) (by decide) (by decide) (by decide) ⟨3, Try.underlying23, rfl⟩ trivial (ArrsOK.get (l := arrL) ⟨(fun h => by cases h), trivial⟩)
 ·
  exact .of 24 (by kernel_rfl) (by decide) (by decide) (by decide) ⟨26, Try.underlying24, rfl⟩ trivial (ArrsOK.get (l := arrL) ⟨(fun h => by cases h), trivial⟩)
 ·
  exact .of 88 (by kernel_rfl) (by decide) (by decide) (by decide) ⟨_, Try.underlying26, by decide, AllI.get ⟨⟨_, rfl, rfl, rfl⟩, ⟨_, rfl, rfl, rfl⟩, ⟨_, rfl, rfl, rfl⟩, ⟨_, rfl, rfl, rfl⟩, ⟨_, rfl, rfl, rfl⟩, trivial⟩⟩ (fun h => by cases h) (ArrsOK.get (l := arrL) ⟨(fun h => by cases h), trivial⟩)
 ·
  exact .of 24 (by kernel_rfl) (by decide) (by decide) (by decide) ⟨87, Try.underlying27, rfl⟩ trivial (ArrsOK.get (l := arrL) ⟨(fun h => by cases h), trivial⟩)
 ·
  exact .of 24 (by kernel_rfl) (by decide) (by decide) (by decide) ⟨74, Try.underlying31, rfl⟩ trivial (ArrsOK.get (l := arrL) ⟨(fun h => by cases h), trivial⟩)
 ·
  exact .of 24 (by kernel_rfl) (by decide) (by decide) (by decide) ⟨34, Try.underlying32, rfl⟩ trivial (ArrsOK.get (l := arrL) ⟨(fun h => by cases h), trivial⟩)
 ·
  exact .of 88 (by kernel_rfl) (by decide) (by decide) (by decide) ⟨_, Try.underlying34, by decide, AllI.get ⟨⟨_, rfl, rfl, rfl⟩, ⟨_, rfl, rfl, rfl⟩, ⟨_, rfl, rfl, rfl⟩, ⟨_, rfl, rfl, rfl⟩, ⟨_, rfl, rfl, rfl⟩, trivial⟩⟩ (fun h => by cases h) (ArrsOK.get (l := arrL) ⟨(fun h => by cases h), trivial⟩)
 ·
  exact .of 24 (by kernel_rfl) (by decide) (by decide) (by decide) ⟨90, Try.underlying36, rfl⟩ trivial (ArrsOK.get (l := arrL) ⟨(fun h => by cases h), trivial⟩)
 ·
  exact .of 24 (by kernel_rfl) (by decide) (by decide) (by decide) ⟨48, Try.underlying46, rfl⟩ trivial (ArrsOK.get (l := arrL) ⟨(fun h => by cases h), trivial⟩)
 ·
  exact .of 24 (by kernel_rfl) (by decide) (by decide) (by decide) ⟨4, Try.underlying48, rfl⟩ trivial (ArrsOK.get (l := arrL) ⟨(fun h => by cases h), trivial⟩)
 ·
  exact .of 16 (by kernel_rfl) (by decide) (by decide) (by decide) ⟨_, Try.underlying68, by decide, AllI.get ⟨⟨_, rfl, rfl, rfl⟩, ⟨_, rfl, rfl, rfl⟩, trivial⟩⟩ (fun _ => ⟨by kernel_rfl, by kernel_rfl, by kernel_rfl⟩) (ArrsOK.get (l := arrL) ⟨(fun h => by cases h), trivial⟩)
 ·
  exact .of 56 (by kernel_rfl) (by decide) (by decide) (by decide) ⟨_, Try.underlying70, by decide, AllI.get ⟨⟨_, rfl, rfl, rfl⟩, ⟨_, rfl, rfl, rfl⟩, ⟨_, rfl, rfl, rfl⟩, ⟨_, rfl, rfl, rfl⟩, trivial⟩⟩ (fun h => by cases h) (ArrsOK.get (l := arrL) ⟨(fun h => by cases h), trivial⟩)
 ·
  exact .of 16 (by kernel_rfl) (by decide) (by decide) (by decide) ⟨_, Try.underlying72, by decide, AllI.get ⟨⟨_, rfl, rfl, rfl⟩, ⟨_, rfl, rfl, rfl⟩, trivial⟩⟩ (fun _ => ⟨by kernel_rfl, by kernel_rfl, by kernel_rfl⟩) (ArrsOK.get (l := arrL) ⟨(fun h => by cases h), trivial⟩)
 ·
  exact .of 56 (by kernel_rfl) (by decide) (by decide) (by decide) ⟨_, Try.underlying74, by decide, AllI.get ⟨⟨_, rfl, rfl, rfl⟩, ⟨_, rfl, rfl, rfl⟩, ⟨_, rfl, rfl, rfl⟩, ⟨_, rfl, rfl, rfl⟩, trivial⟩⟩ (fun h => by cases h) (ArrsOK.get (l := arrL) ⟨(fun h => by cases h), trivial⟩)
 ·
  exact .of 56 (by kernel_rfl) (by decide) (by decide) (by decide) ⟨_, Try.underlying87, by decide, AllI.get ⟨⟨_, rfl, rfl, rfl⟩, ⟨_, rfl, rfl, rfl⟩, ⟨_, rfl, rfl, rfl⟩, trivial⟩⟩ (fun h => by cases h) (ArrsOK.get (l := arrL) ⟨(fun h => by cases h), trivial⟩)
 ·
  exact .of 56 (by kernel_rfl) (by decide) (by decide) (by decide) ⟨_, Try.underlying90, by decide, AllI.get ⟨⟨_, rfl, rfl, rfl⟩, ⟨_, rfl, rfl, rfl⟩, ⟨_, rfl, rfl, rfl⟩, trivial⟩⟩ (fun h => by cases h) (ArrsOK.get (l := arrL) ⟨(fun h => by cases h), trivial⟩)
 ·
  exact .of 24 (by kernel_rfl) (by decide) (by decide) (by decide) ⟨72, Try.underlying132, rfl⟩ trivial (ArrsOK.get (l := arrL) ⟨(fun h => by cases h), trivial⟩)
 ·
  exact .of 8 (by kernel_rfl) (by decide) (by decide) (by decide) Try.underlying136 trivial (ArrsOK.get (l := arrL) ⟨(fun h => by cases h), trivial⟩)

end Go.Proofs.Ytodcdgolcbdkgaa
