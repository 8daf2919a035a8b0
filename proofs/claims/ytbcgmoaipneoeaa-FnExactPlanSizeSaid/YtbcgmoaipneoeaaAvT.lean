/-
  A part of the proof of this claim (AvT): what functions of the program compute, and plain facts of that. No conditions.
-/
import Derived.Test.YtbcgmoaipneoeaaAvU
import Derived.Eval
set_option linter.all false
namespace Go.Proofs.Ytbcgmoaipneoeaa
open Go Go.Am

def tyL : List (Nat × Ty) := [(2, (.int .i64)), (3, (.int .i64)), (4, .bool), (5, (.int .u8)), (6, (.int .u8)), (12, (.int .u64)), (21, (.int .i32)), (22, (.slice (.named 1))), (23, (.slice (.int .i64))), (24, (.slice (.named 2))), (25, (.named 2)), (26, (.named 2)), (29, (.slice (.named 1))), (30, (.slice (.named 2))), (31, (.named 2)), (32, (.named 2)), (50, (.named 0)), (51, (.named 0)), (52, (.named 1)), (53, (.named 1)), (56, (.named 0)), (57, (.named 1)), (58, (.named 1)), (86, (.int .u32)), (87, (.int .u8)), (88, (.int .u8)), (91, (.int .i32)), (92, (.int .i32))]

theorem tyOK {sp : List (Nat × FnSpec)} : CtxTy Try.prog (mkCtx tyL sp) := by
 refine CtxTy.of ⟨?_, ?_, ?_, ?_, ?_, ?_, ?_, ?_, ?_, ?_, ?_, ?_, ?_, ?_, ?_, ?_, ?_, ?_, ?_, ?_, ?_, ?_, ?_, ?_, ?_, ?_, ?_, ?_, trivial⟩
 ·
  exact .of 8 (by kernel_rfl) (by decide) (by decide) (by decide) Try.underlying2 trivial (ArrsOK.get (l := arrL) ⟨(fun h => by cases h), trivial⟩)
 ·
  exact .of 8 (by kernel_rfl) (by decide) (by decide) (by decide) Try.underlying3 trivial (ArrsOK.get (l := arrL) ⟨fun _ => ArrAt.of (by decide) Try.underlying70 rfl (by kernel_rfl), trivial⟩)
 ·
  exact .of 1 (by kernel_rfl) (by decide) (by decide) (by decide) Try.underlying4 trivial (ArrsOK.get (l := arrL) ⟨(fun h => by cases h), trivial⟩)
 ·
  exact .of 1 (by kernel_rfl) (by decide) (by decide) (by decide) Try.underlying5 trivial (ArrsOK.get (l := arrL) ⟨(fun h => by cases h), trivial⟩)
 ·
  exact .of 1 (by kernel_rfl) (by decide) (by decide) (by decide) Try.underlying6 trivial (ArrsOK.get (l := arrL) ⟨(fun h => by cases h), trivial⟩)
 ·
  exact .of 8 (by kernel_rfl) (by decide) (by decide) (by decide) Try.underlying12 trivial (ArrsOK.get (l := arrL) ⟨(fun h => by cases h), trivial⟩)
 ·
  exact .of 4 (by kernel_rfl) (by decide) (by decide) (by decide) Try.underlying21 trivial (ArrsOK.get (l := arrL) ⟨(fun h => by cases h), trivial⟩)
 ·
  exact .of 24 (by kernel_rfl) (by decide) (by decide) (by decide) ⟨53, Try.underlying22, rfl⟩ trivial (ArrsOK.get (l := arrL) ⟨(fun h => by cases h), trivial⟩)
 ·
  exact .of 24 (by kernel_rfl) (by decide) (by decide) (by decide) ⟨3, Try.underlying23, rfl⟩ trivial (ArrsOK.get (l := arrL) ⟨(fun h => by cases h), trivial⟩)
 ·
  exact .of 24 (by kernel_rfl) (by decide) (by decide) (by decide) ⟨26, Try.underlying24, rfl⟩ trivial (ArrsOK.get (l := arrL) ⟨(fun h => by cases h), trivial⟩)
 ·
  exact .of 88 (by kernel_rfl) (by decide) (by decide) (by decide) ⟨_, Try.underlying25, by decide, AllI.get ⟨⟨_, rfl, rfl, rfl⟩, ⟨_, rfl, rfl, rfl⟩, ⟨_, rfl, rfl, rfl⟩, ⟨_, rfl, rfl, rfl⟩, ⟨_, rfl, rfl, rfl⟩, trivial⟩⟩ (fun h => by cases h) (ArrsOK.get (l := arrL) ⟨(fun h => by cases h), trivial⟩)
 ·
  exact .of 88 (by kernel_rfl) (by decide) (by decide) (by decide) ⟨_, Try.underlying26, by decide, AllI.get ⟨⟨_, rfl, rfl, rfl⟩, ⟨_, rfl, rfl, rfl⟩, ⟨_, rfl, rfl, rfl⟩, ⟨_, rfl, rfl, rfl⟩, ⟨_, rfl, rfl, rfl⟩, trivial⟩⟩ (fun h => by cases h) (ArrsOK.get (l := arrL) ⟨(fun h => by cases h), trivial⟩)
 ·
  exact .of 24 (by kernel_rfl) (by decide) (by decide) (by decide) ⟨58, Try.underlying29, rfl⟩ trivial (ArrsOK.get (l := arrL) ⟨(fun h => by cases h), trivial⟩)
 ·
  exact .of 24 (by kernel_rfl) (by decide) (by decide) (by decide) ⟨32, Try.underlying30, rfl⟩ trivial (ArrsOK.get (l := arrL) ⟨(fun h => by cases h), trivial⟩)
 ·
  exact .of 88 (by kernel_rfl) (by decide) (by decide) (by decide) ⟨_, Try.underlying31, by decide, AllI.get ⟨⟨_, rfl, rfl, rfl⟩, ⟨_, rfl, rfl, rfl⟩, ⟨_, rfl, rfl, rfl⟩, ⟨_, rfl, rfl, rfl⟩, ⟨_, rfl, rfl, rfl⟩, trivial⟩⟩ (fun h => by cases h) (ArrsOK.get (l := arrL) ⟨(fun h => by cases h), trivial⟩)
 ·
  exact .of 88 (by kernel_rfl) (by decide) (by decide) (by decide) ⟨_, Try.underlying32, by decide, AllI.get ⟨⟨_, rfl, rfl, rfl⟩, ⟨_, rfl, rfl, rfl⟩, ⟨_, rfl, rfl, rfl⟩, ⟨_, rfl, rfl, rfl⟩, ⟨_, rfl, rfl, rfl⟩, trivial⟩⟩ (fun h => by cases h) (ArrsOK.get (l := arrL) ⟨(fun h => by cases h), trivial⟩)
 ·
  exact .of 16 (by kernel_rfl) (by decide) (by decide) (by decide) ⟨_, Try.underlying50, by decide, AllI.get ⟨⟨_, rfl, rfl, rfl⟩, ⟨_, rfl, rfl, rfl⟩, trivial⟩⟩ (fun _ => ⟨by kernel_rfl, by kernel_rfl, by kernel_rfl⟩) (ArrsOK.get (l := arrL) ⟨(fun h => by cases h), trivial⟩)
 ·
  exact .of 16 (by kernel_rfl) (by decide) (by decide) (by decide) ⟨_, Try.underlying51, by decide, AllI.get ⟨⟨_, rfl, rfl, rfl⟩, ⟨_, rfl, rfl, rfl⟩, trivial⟩⟩ (fun _ => ⟨by kernel_rfl, by kernel_rfl, by kernel_rfl⟩) (ArrsOK.get (l := arrL) ⟨(fun h => by cases h), trivial⟩)
 ·
  exact .of 56 (by kernel_rfl) (by decide) (by decide) (by decide) ⟨_, Try.underlying52, by decide, AllI.get ⟨⟨_, rfl, rfl, rfl⟩, ⟨_, rfl, rfl, rfl⟩, ⟨_, rfl, rfl, rfl⟩, ⟨_, rfl, rfl, rfl⟩, trivial⟩⟩ (fun h => by cases h) (ArrsOK.get (l := arrL) ⟨(fun h => by cases h), trivial⟩)
 ·
  exact .of 56 (by kernel_rfl) (by decide) (by decide) (by decide) ⟨_, Try.underlying53, by decide, AllI.get ⟨⟨_, rfl, rfl, rfl⟩, ⟨_, rfl, rfl, rfl⟩, ⟨_, rfl, rfl, rfl⟩, ⟨_, rfl, rfl, rfl⟩, trivial⟩⟩ (fun h => by cases h) (ArrsOK.get (l := arrL) ⟨(fun h => by cases h), trivial⟩)
 ·
  exact .of 16 (by kernel_rfl) (by decide) (by decide) (by decide) ⟨_, Try.underlying56, by decide, AllI.get ⟨⟨_, rfl, rfl, rfl⟩, ⟨_, rfl, rfl, rfl⟩, trivial⟩⟩ (fun _ => ⟨by kernel_rfl, by kernel_rfl, by kernel_rfl⟩) (ArrsOK.get (l := arrL) ⟨(fun h => by cases h), trivial⟩)
 ·
  exact .of 56 (by kernel_rfl) (by decide) (by decide) (by decide) ⟨_, Try.underlying57, by decide, AllI.get ⟨⟨_, rfl, rfl, rfl⟩, ⟨_, rfl, rfl, rfl⟩, ⟨_, rfl, rfl, rfl⟩, ⟨_, rfl, rfl, rfl⟩, trivial⟩⟩ (fun h => by cases h) (ArrsOK.get (l := arrL) ⟨(fun h => by cases h), trivial⟩)
 ·
  exact .of 56 (by kernel_rfl) (by decide) (by decide) (by decide) ⟨_, Try.underlying58, by decide, AllI.get ⟨⟨_, rfl, rfl, rfl⟩, ⟨_, rfl, rfl, rfl⟩, ⟨_, rfl, rfl, rfl⟩, ⟨_, rfl, rfl, rfl⟩, trivial⟩⟩ (fun h => by cases h) (ArrsOK.get (l := arrL) ⟨(fun h => by cases h), trivial⟩)
 ·
  exact .of 4 (by kernel_rfl) (by decide) (by decide) (by decide) Try.underlying86 trivial (ArrsOK.get (l := arrL) ⟨(fun h => by cases h), trivial⟩)
 ·
  exact .of 1 (by kernel_rfl) (by decide) (by decide) (by decide) Try.underlying87 trivial (ArrsOK.get (l := arrL) ⟨(fun h => by cases h), trivial⟩)
 ·
  exact .of 1 (by kernel_rfl) (by decide) (by decide) (by decide) Try.underlying88 trivial (ArrsOK.get (l := arrL) ⟨(fun h => by cases h), trivial⟩)
 ·
  exact .of 4 (by kernel_rfl) (by decide) (by decide) (by decide) Try.underlying91 trivial (ArrsOK.get (l := arrL) ⟨(fun h => by cases h), trivial⟩)
 ·
  exact .of 4 (by kernel_rfl) (by decide) (by decide) (by decide) Try.underlying92 trivial (ArrsOK.get (l := arrL) ⟨(fun h => by cases h), trivial⟩)

abbrev sI (n : Int) : SV := .int .i64 n
abbrev sB (b : Bool) : SV := .bool b
abbrev sD6 (x : Val) : SV := .data (.named 0) x
abbrev sR6 (x : Val) : SV := .dref (.named 0) x
abbrev sD7 (x : Xpr) : SV := .data (.named 1) x
abbrev sR7 (x : Xpr) : SV := .dref (.named 1) x
abbrev sD8 (x : Pln) : SV := .data (.named 2) x
abbrev sR8 (x : Pln) : SV := .dref (.named 2) x
abbrev sD9 (x : List Int) : SV := .data (.slice (.int .i64)) x
abbrev sR9 (x : List Int) : SV := .dref (.slice (.int .i64)) x
abbrev sD10 (x : List Xpr) : SV := .data (.slice (.named 1)) x
abbrev sR10 (x : List Xpr) : SV := .dref (.slice (.named 1)) x
abbrev sD11 (x : List Pln) : SV := .data (.slice (.named 2)) x
abbrev sR11 (x : List Pln) : SV := .dref (.slice (.named 2)) x

theorem Val.wfl {a : Val} (h : Wf ⟨.named 0, (a : Val)⟩) : (-9223372036854775808 ≤ Val.N a ∧ Val.N a ≤ 9223372036854775807) := (h.field (tv := ⟨(.int .i64), Val.N a⟩) (List.Mem.tail _ (List.Mem.head _))).int_inv

theorem Xpr.wfl {a : Xpr} (h : Wf ⟨.named 1, (a : Xpr)⟩) : (-9223372036854775808 ≤ Xpr.Kind a ∧ Xpr.Kind a ≤ 9223372036854775807) ∧ (-9223372036854775808 ≤ Xpr.Col a ∧ Xpr.Col a ≤ 9223372036854775807) ∧ ((List.length (Xpr.Kids a) : Nat) : Int) ≤ 9223372036854775807 := ⟨(h.field (tv := ⟨(.int .i64), Xpr.Kind a⟩) (List.Mem.head _)).int_inv, (h.field (tv := ⟨(.int .i64), Xpr.Col a⟩) (List.Mem.tail _ (List.Mem.head _))).int_inv, (h.field (tv := ⟨(.slice (.named 1)), Xpr.Kids a⟩) (List.Mem.tail _ (List.Mem.tail _ (List.Mem.tail _ (List.Mem.head _))))).len⟩

theorem Pln.wfl {a : Pln} (h : Wf ⟨.named 2, (a : Pln)⟩) : (-9223372036854775808 ≤ Pln.Kind a ∧ Pln.Kind a ≤ 9223372036854775807) ∧ (-9223372036854775808 ≤ Pln.Table a ∧ Pln.Table a ≤ 9223372036854775807) ∧ ((List.length (Pln.Exprs a) : Nat) : Int) ≤ 9223372036854775807 ∧ ((List.length (Pln.Cols a) : Nat) : Int) ≤ 9223372036854775807 ∧ ((List.length (Pln.Kids a) : Nat) : Int) ≤ 9223372036854775807 := ⟨(h.field (tv := ⟨(.int .i64), Pln.Kind a⟩) (List.Mem.head _)).int_inv, (h.field (tv := ⟨(.int .i64), Pln.Table a⟩) (List.Mem.tail _ (List.Mem.head _))).int_inv, (h.field (tv := ⟨(.slice (.named 1)), Pln.Exprs a⟩) (List.Mem.tail _ (List.Mem.tail _ (List.Mem.head _)))).len, (h.field (tv := ⟨(.slice (.int .i64)), Pln.Cols a⟩) (List.Mem.tail _ (List.Mem.tail _ (List.Mem.tail _ (List.Mem.head _))))).len, (h.field (tv := ⟨(.slice (.named 2)), Pln.Kids a⟩) (List.Mem.tail _ (List.Mem.tail _ (List.Mem.tail _ (List.Mem.tail _ (List.Mem.head _)))))).len⟩

end Go.Proofs.Ytbcgmoaipneoeaa
