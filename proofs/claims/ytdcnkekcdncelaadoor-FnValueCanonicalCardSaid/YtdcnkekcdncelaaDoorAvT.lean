/-
  A part of the proof of this claim (AvT): what functions of the program compute, and plain facts of that. No conditions.
-/
import Derived.Test.YtdcnkekcdncelaaDoorAvU
import Derived.Eval
set_option linter.all false
namespace Go.Proofs.YtdcnkekcdncelaaDoor
open Go Go.Am
open List (length)

def tyL : List (Nat × Ty) := [(3, (.int .i64)), (4, .bool), (5, (.int .u8)), (9, .str), (22, (.named 0)), (23, (.named 0)), (28, (.slice (.int .u8))), (52, (.slice (.int .i64))), (53, (.named 1)), (54, (.named 1)), (56, (.slice .str))]

theorem tyOK {sp : List (Nat × FnSpec)} : CtxTy Tryd.prog (mkCtx tyL sp) := by
 refine CtxTy.of ⟨?_, ?_, ?_, ?_, ?_, ?_, ?_, ?_, ?_, ?_, ?_, trivial⟩
 · exact .of 8 (by kernel_rfl) (by decide) (by decide) (by decide) Tryd.underlying3 trivial (fun _ _ h => by cases h) (fun _ h => by cases h) (IfcsOK.get (l := ifcL) ⟨(fun h => by cases h), trivial⟩)
 · exact .of 1 (by kernel_rfl) (by decide) (by decide) (by decide) Tryd.underlying4 trivial (fun _ _ h => by cases h) (fun _ h => by cases h) (IfcsOK.get (l := ifcL) ⟨fun _ => ⟨_, Tryd.underlying37⟩, trivial⟩)
 · exact .of 1 (by kernel_rfl) (by decide) (by decide) (by decide) Tryd.underlying5 trivial (fun _ _ h => by cases h) (fun _ h => by cases h) (IfcsOK.get (l := ifcL) ⟨(fun h => by cases h), trivial⟩)
 · exact .of 16 (by kernel_rfl) (by decide) (by decide) (by decide) Tryd.underlying9 trivial (fun _ _ h => by cases h) (fun _ h => by cases h) (IfcsOK.get (l := ifcL) ⟨(fun h => by cases h), trivial⟩)
 · exact .of 16 (by kernel_rfl) (by decide) (by decide) (by decide) ⟨_, Tryd.underlying22, by decide, AllI.get ⟨⟨_, rfl, rfl, rfl⟩, ⟨_, rfl, rfl, rfl⟩, trivial⟩⟩ (fun _ => ⟨by kernel_rfl, by kernel_rfl, by kernel_rfl⟩) (fun _ _ h => by cases h) (fun _ h => by cases h) (IfcsOK.get (l := ifcL) ⟨(fun h => by cases h), trivial⟩)
 · exact .of 16 (by kernel_rfl) (by decide) (by decide) (by decide) ⟨_, Tryd.underlying23, by decide, AllI.get ⟨⟨_, rfl, rfl, rfl⟩, ⟨_, rfl, rfl, rfl⟩, trivial⟩⟩ (fun _ => ⟨by kernel_rfl, by kernel_rfl, by kernel_rfl⟩) (fun _ _ h => by cases h) (fun _ h => by cases h) (IfcsOK.get (l := ifcL) ⟨(fun h => by cases h), trivial⟩)
 · exact .of 24 (by kernel_rfl) (by decide) (by decide) (by decide) ⟨5, Tryd.underlying28, rfl⟩ trivial (fun _ _ h => by cases h) (fun _ h => by cases h) (IfcsOK.get (l := ifcL) ⟨(fun h => by cases h), trivial⟩)
 · exact .of 24 (by kernel_rfl) (by decide) (by decide) (by decide) ⟨3, Tryd.underlying52, rfl⟩ trivial (fun _ _ h => by cases h) (fun _ h => by cases h) (IfcsOK.get (l := ifcL) ⟨(fun h => by cases h), trivial⟩)
 · exact .of 32 (by kernel_rfl) (by decide) (by decide) (by decide) ⟨_, Tryd.underlying53, by decide, AllI.get ⟨⟨_, rfl, rfl, rfl⟩, ⟨_, rfl, rfl, rfl⟩, trivial⟩⟩ (fun h => by cases h) (fun _ _ h => by cases h) (fun _ h => by cases h) (IfcsOK.get (l := ifcL) ⟨(fun h => by cases h), trivial⟩)
 · exact .of 32 (by kernel_rfl) (by decide) (by decide) (by decide) ⟨_, Tryd.underlying54, by decide, AllI.get ⟨⟨_, rfl, rfl, rfl⟩, ⟨_, rfl, rfl, rfl⟩, trivial⟩⟩ (fun h => by cases h) (fun _ _ h => by cases h) (fun _ h => by cases h) (IfcsOK.get (l := ifcL) ⟨(fun h => by cases h), trivial⟩)
 · exact .of 24 (by kernel_rfl) (by decide) (by decide) (by decide) ⟨9, Tryd.underlying56, rfl⟩ trivial (fun _ _ h => by cases h) (fun _ h => by cases h) (IfcsOK.get (l := ifcL) ⟨(fun h => by cases h), trivial⟩)

abbrev sI (n : Int) : SV := .int .i64 n
abbrev sB (b : Bool) : SV := .bool b
abbrev sD6 (x : List Int) : SV := .data (.slice (.int .u8)) x
theorem Val.wfl {a : Val} (h : Wf ⟨.named 0, (a : Val)⟩) : (-9223372036854775808 ≤ Val.N a ∧ Val.N a ≤ 9223372036854775807) := (h.field (tv := ⟨(.int .i64), Val.N a⟩) (List.Mem.tail _ (List.Mem.head _))).int_inv

theorem Rdr.wfl {a : Rdr} (h : Wf ⟨.named 1, (a : Rdr)⟩) : (length (Rdr.b a) : Int) ≤ 9223372036854775807 ∧ (-9223372036854775808 ≤ Rdr.p a ∧ Rdr.p a ≤ 9223372036854775807) := ⟨(h.field (tv := ⟨(.slice (.int .u8)), Rdr.b a⟩) (List.Mem.head _)).len, (h.field (tv := ⟨(.int .i64), Rdr.p a⟩) (List.Mem.tail _ (List.Mem.head _))).int_inv⟩

end Go.Proofs.YtdcnkekcdncelaaDoor
