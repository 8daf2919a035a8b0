/-
  A part of the proof of this claim (AfT): what functions of the program compute, and plain facts of that. No conditions.
-/
import Derived.Test.YtjhnpnnlimpgdaaAfU
import Derived.Eval
set_option linter.all false
namespace Go.Proofs.Ytjhnpnnlimpgdaa
open Go Go.Am

def tyL : List (Nat × Ty) := [(3, (.int .i64)), (4, .bool), (5, (.int .u8)), (22, (.slice (.int .u8))), (23, (.named 0)), (24, (.named 0)), (25, (.slice (.named 1))), (26, (.named 1)), (27, (.named 1)), (32, (.slice (.int .i64))), (35, (.slice (.named 0))), (54, (.named 2)), (55, (.named 2)), (58, (.int .i64))]

theorem tyOK {sp : List (Nat × FnSpec)} : CtxTy Try.prog (mkCtx tyL sp) := by
 refine CtxTy.of ⟨?_, ?_, ?_, ?_, ?_, ?_, ?_, ?_, ?_, ?_, ?_, ?_, ?_, ?_, trivial⟩
 ·
  exact .of 8 (by kernel_rfl) (by decide) (by decide) (by decide) Try.underlying3 trivial (fun _ _ h => by cases h) (PtrsOK.get (l := ptrL) ⟨(fun h => by cases h), trivial⟩)
 ·
  exact .of 1 (by kernel_rfl) (by decide) (by decide) (by decide) Try.underlying4 trivial (fun _ _ h => by cases h) (PtrsOK.get (l := ptrL) ⟨(fun h => by cases h), trivial⟩)
 ·
  exact .of 1 (by kernel_rfl) (by decide) (by decide) (by decide) Try.underlying5 trivial (fun _ _ h => by cases h) (PtrsOK.get (l := ptrL) ⟨(fun h => by cases h), trivial⟩)
 ·
  exact .of 24 (by kernel_rfl) (by decide) (by decide) (by decide) ⟨5, Try.underlying22, rfl⟩ trivial (fun _ _ h => by cases h) (PtrsOK.get (l := ptrL) ⟨(fun h => by cases h), trivial⟩)
 ·
  exact .of 16 (by kernel_rfl) (by decide) (by decide) (by decide) ⟨_, Try.underlying23, by decide, AllI.get ⟨⟨_, rfl, rfl, rfl⟩, ⟨_, rfl, rfl, rfl⟩, trivial⟩⟩ (fun _ => ⟨by kernel_rfl, by kernel_rfl, by kernel_rfl⟩) (fun _ _ h => by cases h) (PtrsOK.get (l := ptrL) ⟨(fun h => by cases h), trivial⟩)
 ·
  exact .of 16 (by kernel_rfl) (by decide) (by decide) (by decide) ⟨_, Try.underlying24, by decide, AllI.get ⟨⟨_, rfl, rfl, rfl⟩, ⟨_, rfl, rfl, rfl⟩, trivial⟩⟩ (fun _ => ⟨by kernel_rfl, by kernel_rfl, by kernel_rfl⟩) (fun _ _ h => by cases h) (PtrsOK.get (l := ptrL) ⟨(fun h => by cases h), trivial⟩)
 ·
  exact .of 24 (by kernel_rfl) (by decide) (by decide) (by decide) ⟨27, Try.underlying25, rfl⟩ trivial (fun _ _ h => by cases h) (PtrsOK.get (l := ptrL) ⟨(fun h => by cases h), trivial⟩)
 ·
  exact .of 56 (by kernel_rfl) (by decide) (by decide) (by decide) ⟨_, Try.underlying26, by decide, AllI.get ⟨⟨_, rfl, rfl, rfl⟩, ⟨_, rfl, rfl, rfl⟩, ⟨_, rfl, rfl, rfl⟩, ⟨_, rfl, rfl, rfl⟩, trivial⟩⟩ (fun h => by cases h) (fun _ _ h => by cases h) (PtrsOK.get (l := ptrL) ⟨(fun h => by cases h), trivial⟩)
 ·
  exact .of 56 (by kernel_rfl) (by decide) (by decide) (by decide) ⟨_, Try.underlying27, by decide, AllI.get ⟨⟨_, rfl, rfl, rfl⟩, ⟨_, rfl, rfl, rfl⟩, ⟨_, rfl, rfl, rfl⟩, ⟨_, rfl, rfl, rfl⟩, trivial⟩⟩ (fun h => by cases h) (fun _ _ h => by cases h) (PtrsOK.get (l := ptrL) ⟨fun _ => ⟨27, Try.underlying57⟩, trivial⟩)
 ·
  exact .of 24 (by kernel_rfl) (by decide) (by decide) (by decide) ⟨3, Try.underlying32, rfl⟩ trivial (fun _ _ h => by cases h) (PtrsOK.get (l := ptrL) ⟨(fun h => by cases h), trivial⟩)
 ·
  exact .of 24 (by kernel_rfl) (by decide) (by decide) (by decide) ⟨24, Try.underlying35, rfl⟩ trivial (fun _ _ h => by cases h) (PtrsOK.get (l := ptrL) ⟨(fun h => by cases h), trivial⟩)
 ·
  exact .of 32 (by kernel_rfl) (by decide) (by decide) (by decide) ⟨_, Try.underlying54, by decide, AllI.get ⟨⟨_, rfl, rfl, rfl⟩, ⟨_, rfl, rfl, rfl⟩, trivial⟩⟩ (fun h => by cases h) (fun _ _ h => by cases h) (PtrsOK.get (l := ptrL) ⟨(fun h => by cases h), trivial⟩)
 ·
  exact .of 32 (by kernel_rfl) (by decide) (by decide) (by decide) ⟨_, Try.underlying55, by decide, AllI.get ⟨⟨_, rfl, rfl, rfl⟩, ⟨_, rfl, rfl, rfl⟩, trivial⟩⟩ (fun h => by cases h) (fun _ _ h => by cases h) (PtrsOK.get (l := ptrL) ⟨(fun h => by cases h), trivial⟩)
 ·
  exact .of 8 (by kernel_rfl) (by decide) (by decide) (by decide) Try.underlying58 trivial (fun _ _ h => by cases h) (PtrsOK.get (l := ptrL) ⟨(fun h => by cases h), trivial⟩)

abbrev sI (n : Int) : SV := .int .i64 n
abbrev sB (b : Bool) : SV := .bool b
abbrev sD3 (x : Val) : SV := .data (.named 0) x
abbrev sR3 (x : Val) : SV := .dref (.named 0) x
abbrev sD4 (x : Xpr) : SV := .data (.named 1) x
abbrev sR4 (x : Xpr) : SV := .dref (.named 1) x
abbrev sD5 (x : Rdr) : SV := .data (.named 2) x
abbrev sR5 (x : Rdr) : SV := .dref (.named 2) x
abbrev sD6 (x : List Int) : SV := .data (.slice (.int .i64)) x
abbrev sR6 (x : List Int) : SV := .dref (.slice (.int .i64)) x
abbrev sD7 (x : List Int) : SV := .data (.slice (.int .u8)) x
abbrev sR7 (x : List Int) : SV := .dref (.slice (.int .u8)) x
abbrev sD8 (x : List Val) : SV := .data (.slice (.named 0)) x
abbrev sR8 (x : List Val) : SV := .dref (.slice (.named 0)) x
abbrev sD9 (x : List Xpr) : SV := .data (.slice (.named 1)) x
abbrev sR9 (x : List Xpr) : SV := .dref (.slice (.named 1)) x

theorem Val.wfl {a : Val} (h : Wf ⟨.named 0, (a : Val)⟩) : (-9223372036854775808 ≤ Val.N a ∧ Val.N a ≤ 9223372036854775807) := (h.field (tv := ⟨(.int .i64), Val.N a⟩) (List.Mem.tail _ (List.Mem.head _))).int_inv

theorem Xpr.wfl {a : Xpr} (h : Wf ⟨.named 1, (a : Xpr)⟩) : (-9223372036854775808 ≤ Xpr.Kind a ∧ Xpr.Kind a ≤ 9223372036854775807) ∧ (-9223372036854775808 ≤ Xpr.Col a ∧ Xpr.Col a ≤ 9223372036854775807) ∧ ((List.length (Xpr.Kids a) : Nat) : Int) ≤ 9223372036854775807 := ⟨(h.field (tv := ⟨(.int .i64), Xpr.Kind a⟩) (List.Mem.head _)).int_inv, (h.field (tv := ⟨(.int .i64), Xpr.Col a⟩) (List.Mem.tail _ (List.Mem.head _))).int_inv, (h.field (tv := ⟨(.slice (.named 1)), Xpr.Kids a⟩) (List.Mem.tail _ (List.Mem.tail _ (List.Mem.tail _ (List.Mem.head _))))).len⟩

theorem Rdr.wfl {a : Rdr} (h : Wf ⟨.named 2, (a : Rdr)⟩) : ((List.length (Rdr.b a) : Nat) : Int) ≤ 9223372036854775807 ∧ (-9223372036854775808 ≤ Rdr.p a ∧ Rdr.p a ≤ 9223372036854775807) := ⟨(h.field (tv := ⟨(.slice (.int .u8)), Rdr.b a⟩) (List.Mem.head _)).len, (h.field (tv := ⟨(.int .i64), Rdr.p a⟩) (List.Mem.tail _ (List.Mem.head _))).int_inv⟩

end Go.Proofs.Ytjhnpnnlimpgdaa
