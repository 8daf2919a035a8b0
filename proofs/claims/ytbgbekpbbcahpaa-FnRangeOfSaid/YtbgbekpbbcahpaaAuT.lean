/-
  A part of the proof of this claim (AuT): what functions of the program compute, and plain facts of that. No conditions.
-/
import Derived.Test.YtbgbekpbbcahpaaAuU
import Derived.Eval
set_option linter.all false
namespace Go.Proofs.Ytbgbekpbbcahpaa
open Go Go.Am

def tyL : List (Nat × Ty) := [(3, (.int .i64)), (4, .bool), (5, (.int .u8)), (22, (.named 0)), (23, (.named 0)), (24, (.slice (.named 1))), (25, (.named 1)), (26, (.named 1)), (28, (.named 4)), (29, (.named 4)), (32, (.named 0)), (33, (.slice (.named 1))), (34, (.named 1)), (35, (.named 1)), (40, (.slice (.int .u8))), (41, (.slice (.slice (.named 0)))), (42, (.named 3)), (43, (.named 3)), (47, (.slice (.named 0))), (78, (.named 2)), (79, (.named 2)), (81, (.slice (.int .i64))), (95, (.int .i64))]

theorem tyOK {sp : List (Nat × FnSpec)} : CtxTy Try.prog (mkCtx tyL sp) := by
 refine CtxTy.of ⟨?_, ?_, ?_, ?_, ?_, ?_, ?_, ?_, ?_, ?_, ?_, ?_, ?_, ?_, ?_, ?_, ?_, ?_, ?_, ?_, ?_, ?_, ?_, trivial⟩
 ·
  exact .of 8 (by kernel_rfl) (by decide) (by decide) (by decide) Try.underlying3 trivial
 ·
  exact .of 1 (by kernel_rfl) (by decide) (by decide) (by decide) Try.underlying4 trivial
 ·
  exact .of 1 (by kernel_rfl) (by decide) (by decide) (by decide) Try.underlying5 trivial
 ·
  exact .of 16 (by kernel_rfl) (by decide) (by decide) (by decide) ⟨_, Try.underlying22, by decide, AllI.get ⟨⟨_, rfl, rfl, rfl⟩, ⟨_, rfl, rfl, rfl⟩, trivial⟩⟩ (fun _ => ⟨by kernel_rfl, by kernel_rfl, by kernel_rfl⟩)
 ·
  exact .of 16 (by kernel_rfl) (by decide) (by decide) (by decide) ⟨_, Try.underlying23, by decide, AllI.get ⟨⟨_, rfl, rfl, rfl⟩, ⟨_, rfl, rfl, rfl⟩, trivial⟩⟩ (fun _ => ⟨by kernel_rfl, by kernel_rfl, by kernel_rfl⟩)
 ·
  exact .of 24 (by kernel_rfl) (by decide) (by decide) (by decide) ⟨26, Try.underlying24, rfl⟩ trivial
 ·
  exact .of 56 (by kernel_rfl) (by decide) (by decide) (by decide) ⟨_, Try.underlying25, by decide, AllI.get ⟨⟨_, rfl, rfl, rfl⟩, ⟨_, rfl, rfl, rfl⟩, ⟨_, rfl, rfl, rfl⟩, ⟨_, rfl, rfl, rfl⟩, trivial⟩⟩ (fun h => by cases h)
 ·
  exact .of 56 (by kernel_rfl) (by decide) (by decide) (by decide) ⟨_, Try.underlying26, by decide, AllI.get ⟨⟨_, rfl, rfl, rfl⟩, ⟨_, rfl, rfl, rfl⟩, ⟨_, rfl, rfl, rfl⟩, ⟨_, rfl, rfl, rfl⟩, trivial⟩⟩ (fun h => by cases h)
 ·
  exact .of 16 (by kernel_rfl) (by decide) (by decide) (by decide) ⟨_, Try.underlying28, by decide, AllI.get ⟨⟨_, rfl, rfl, rfl⟩, ⟨_, rfl, rfl, rfl⟩, trivial⟩⟩ (fun _ => ⟨by kernel_rfl, by kernel_rfl, by kernel_rfl⟩)
 ·
  exact .of 16 (by kernel_rfl) (by decide) (by decide) (by decide) ⟨_, Try.underlying29, by decide, AllI.get ⟨⟨_, rfl, rfl, rfl⟩, ⟨_, rfl, rfl, rfl⟩, trivial⟩⟩ (fun _ => ⟨by kernel_rfl, by kernel_rfl, by kernel_rfl⟩)
 ·
  exact .of 16 (by kernel_rfl) (by decide) (by decide) (by decide) ⟨_, Try.underlying32, by decide, AllI.get ⟨⟨_, rfl, rfl, rfl⟩, ⟨_, rfl, rfl, rfl⟩, trivial⟩⟩ (fun _ => ⟨by kernel_rfl, by kernel_rfl, by kernel_rfl⟩)
 ·
  exact .of 24 (by kernel_rfl) (by decide) (by decide) (by decide) ⟨35, Try.underlying33, rfl⟩ trivial
 ·
  exact .of 56 (by kernel_rfl) (by decide) (by decide) (by decide) ⟨_, Try.underlying34, by decide, AllI.get ⟨⟨_, rfl, rfl, rfl⟩, ⟨_, rfl, rfl, rfl⟩, ⟨_, rfl, rfl, rfl⟩, ⟨_, rfl, rfl, rfl⟩, trivial⟩⟩ (fun h => by cases h)
 ·
  exact .of 56 (by kernel_rfl) (by decide) (by decide) (by decide) ⟨_, Try.underlying35, by decide, AllI.get ⟨⟨_, rfl, rfl, rfl⟩, ⟨_, rfl, rfl, rfl⟩, ⟨_, rfl, rfl, rfl⟩, ⟨_, rfl, rfl, rfl⟩, trivial⟩⟩ (fun h => by cases h)
 ·
  exact .of 24 (by kernel_rfl) (by decide) (by decide) (by decide) ⟨5, Try.underlying40, rfl⟩ trivial
 ·
  exact .of 24 (by kernel_rfl) (by decide) (by decide) (by decide) ⟨47, Try.underlying41, rfl⟩ trivial
 ·
  exact .of 32 (by kernel_rfl) (by decide) (by decide) (by decide) ⟨_, Try.underlying42, by decide, AllI.get ⟨⟨_, rfl, rfl, rfl⟩, ⟨_, rfl, rfl, rfl⟩, trivial⟩⟩ (fun h => by cases h)
 ·
  exact .of 32 (by kernel_rfl) (by decide) (by decide) (by decide) ⟨_, Try.underlying43, by decide, AllI.get ⟨⟨_, rfl, rfl, rfl⟩, ⟨_, rfl, rfl, rfl⟩, trivial⟩⟩ (fun h => by cases h)
 ·
  exact .of 24 (by kernel_rfl) (by decide) (by decide) (by decide) ⟨32, Try.underlying47, rfl⟩ trivial
 ·
  exact .of 32 (by kernel_rfl) (by decide) (by decide) (by decide) ⟨_, Try.underlying78, by decide, AllI.get ⟨⟨_, rfl, rfl, rfl⟩, ⟨_, rfl, rfl, rfl⟩, trivial⟩⟩ (fun h => by cases h)
 ·
  exact .of 32 (by kernel_rfl) (by decide) (by decide) (by decide) ⟨_, Try.underlying79, by decide, AllI.get ⟨⟨_, rfl, rfl, rfl⟩, ⟨_, rfl, rfl, rfl⟩, trivial⟩⟩ (fun h => by cases h)
 ·
  exact .of 24 (by kernel_rfl) (by decide) (by decide) (by decide) ⟨3, Try.underlying81, rfl⟩ trivial
 ·
  exact .of 8 (by kernel_rfl) (by decide) (by decide) (by decide) Try.underlying95 trivial

abbrev sI (n : Int) : SV := .int .i64 n
abbrev sB (b : Bool) : SV := .bool b
abbrev sD3 (x : Val) : SV := .data (.named 0) x
abbrev sR3 (x : Val) : SV := .dref (.named 0) x
abbrev sD4 (x : Xpr) : SV := .data (.named 1) x
abbrev sR4 (x : Xpr) : SV := .dref (.named 1) x
abbrev sD5 (x : Rdr) : SV := .data (.named 2) x
abbrev sR5 (x : Rdr) : SV := .dref (.named 2) x
abbrev sD6 (x : Tab) : SV := .data (.named 3) x
abbrev sR6 (x : Tab) : SV := .dref (.named 3) x
abbrev sD7 (x : Rng) : SV := .data (.named 4) x
abbrev sR7 (x : Rng) : SV := .dref (.named 4) x
abbrev sD8 (x : List Int) : SV := .data (.slice (.int .i64)) x
abbrev sR8 (x : List Int) : SV := .dref (.slice (.int .i64)) x
abbrev sD9 (x : List Int) : SV := .data (.slice (.int .u8)) x
abbrev sR9 (x : List Int) : SV := .dref (.slice (.int .u8)) x
abbrev sD10 (x : List Val) : SV := .data (.slice (.named 0)) x
abbrev sR10 (x : List Val) : SV := .dref (.slice (.named 0)) x
abbrev sD11 (x : List Xpr) : SV := .data (.slice (.named 1)) x
abbrev sR11 (x : List Xpr) : SV := .dref (.slice (.named 1)) x
abbrev sD12 (x : List (List Val)) : SV := .data (.slice (.slice (.named 0))) x
abbrev sR12 (x : List (List Val)) : SV := .dref (.slice (.slice (.named 0))) x

theorem Val.wfl {a : Val} (h : Wf ⟨.named 0, (a : Val)⟩) : (-9223372036854775808 ≤ Val.N a ∧ Val.N a ≤ 9223372036854775807) := (h.field (tv := ⟨(.int .i64), Val.N a⟩) (List.Mem.tail _ (List.Mem.head _))).int_inv

theorem Xpr.wfl {a : Xpr} (h : Wf ⟨.named 1, (a : Xpr)⟩) : (-9223372036854775808 ≤ Xpr.Kind a ∧ Xpr.Kind a ≤ 9223372036854775807) ∧ (-9223372036854775808 ≤ Xpr.Col a ∧ Xpr.Col a ≤ 9223372036854775807) ∧ ((List.length (Xpr.Kids a) : Nat) : Int) ≤ 9223372036854775807 := ⟨(h.field (tv := ⟨(.int .i64), Xpr.Kind a⟩) (List.Mem.head _)).int_inv, (h.field (tv := ⟨(.int .i64), Xpr.Col a⟩) (List.Mem.tail _ (List.Mem.head _))).int_inv, (h.field (tv := ⟨(.slice (.named 1)), Xpr.Kids a⟩) (List.Mem.tail _ (List.Mem.tail _ (List.Mem.tail _ (List.Mem.head _))))).len⟩

theorem Rdr.wfl {a : Rdr} (h : Wf ⟨.named 2, (a : Rdr)⟩) : ((List.length (Rdr.b a) : Nat) : Int) ≤ 9223372036854775807 ∧ (-9223372036854775808 ≤ Rdr.p a ∧ Rdr.p a ≤ 9223372036854775807) := ⟨(h.field (tv := ⟨(.slice (.int .u8)), Rdr.b a⟩) (List.Mem.head _)).len, (h.field (tv := ⟨(.int .i64), Rdr.p a⟩) (List.Mem.tail _ (List.Mem.head _))).int_inv⟩

theorem Tab.wfl {a : Tab} (h : Wf ⟨.named 3, (a : Tab)⟩) : (-9223372036854775808 ≤ Tab.Width a ∧ Tab.Width a ≤ 9223372036854775807) ∧ ((List.length (Tab.Rows a) : Nat) : Int) ≤ 9223372036854775807 := ⟨(h.field (tv := ⟨(.int .i64), Tab.Width a⟩) (List.Mem.head _)).int_inv, (h.field (tv := ⟨(.slice (.slice (.named 0))), Tab.Rows a⟩) (List.Mem.tail _ (List.Mem.head _))).len⟩

theorem Rng.wfl {a : Rng} (h : Wf ⟨.named 4, (a : Rng)⟩) : (-9223372036854775808 ≤ Rng.Low a ∧ Rng.Low a ≤ 9223372036854775807) ∧ (-9223372036854775808 ≤ Rng.High a ∧ Rng.High a ≤ 9223372036854775807) := ⟨(h.field (tv := ⟨(.int .i64), Rng.Low a⟩) (List.Mem.head _)).int_inv, (h.field (tv := ⟨(.int .i64), Rng.High a⟩) (List.Mem.tail _ (List.Mem.head _))).int_inv⟩

end Go.Proofs.Ytbgbekpbbcahpaa
