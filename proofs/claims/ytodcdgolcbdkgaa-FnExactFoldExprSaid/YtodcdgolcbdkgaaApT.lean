/-
  A part of the proof of this claim (ApT): what functions of the program compute, and plain facts of that. No conditions.
-/
import Derived.Test.YtodcdgolcbdkgaaApU
import Derived.Eval
set_option linter.all false
namespace Go.Proofs.Ytodcdgolcbdkgaa
open Go Go.Am

def tyL : List (Nat × Ty) := [(3, (.int .i64)), (4, .bool), (22, (.slice (.named 1))), (23, (.slice (.int .i64))), (24, (.slice (.named 2))), (26, (.named 2)), (27, (.slice (.named 3))), (31, (.slice (.named 1))), (32, (.slice (.named 2))), (34, (.named 2)), (36, (.slice (.named 3))), (46, (.slice (.slice .bool))), (48, (.slice .bool)), (68, (.named 0)), (70, (.named 1)), (72, (.named 0)), (74, (.named 1)), (87, (.named 3)), (90, (.named 3)), (132, (.slice (.named 0))), (136, (.int .i64))]

theorem tyOK {sp : List (Nat × FnSpec)} : CtxTy Try.prog (mkCtx tyL sp) := by
 refine CtxTy.of ⟨?_, ?_, ?_, ?_, ?_, ?_, ?_, ?_, ?_, ?_, ?_, ?_, ?_, ?_, ?_, ?_, ?_, ?_, ?_, ?_, ?_, trivial⟩
 ·
  exact .of 8 (by kernel_rfl) (by decide) (by decide) (by decide) Try.underlying3 trivial (ArrsOK.get (l := arrL) ⟨fun _ => ArrAt.of (by decide) Try.underlying127 rfl (by kernel_rfl), trivial⟩) (PtrsOK.get (l := ptrL) ⟨(fun h => by cases h), trivial⟩)
 ·
  exact .of 1 (by kernel_rfl) (by decide) (by decide) (by decide) Try.underlying4 trivial (ArrsOK.get (l := arrL) ⟨(fun h => by cases h), trivial⟩) (PtrsOK.get (l := ptrL) ⟨(fun h => by cases h), trivial⟩)
 ·
  exact .of 24 (by kernel_rfl) (by decide) (by decide) (by decide) ⟨70, Try.underlying22, rfl⟩ trivial (ArrsOK.get (l := arrL) ⟨(fun h => by cases h), trivial⟩) (PtrsOK.get (l := ptrL) ⟨(fun h => by cases h), trivial⟩)
 ·
  exact .of 24 (by kernel_rfl) (by decide) (by decide) (by decide) ⟨3, Try.underlying23, rfl⟩ trivial (ArrsOK.get (l := arrL) ⟨(fun h => by cases h), trivial⟩) (PtrsOK.get (l := ptrL) ⟨(fun h => by cases h), trivial⟩)
 ·
  exact .of 24 (by kernel_rfl) (by decide) (by decide) (by decide) ⟨26, Try.underlying24, rfl⟩ trivial (ArrsOK.get (l := arrL) ⟨(fun h => by cases h), trivial⟩) (PtrsOK.get (l := ptrL) ⟨(fun h => by cases h), trivial⟩)
 ·
  exact .of 88 (by kernel_rfl) (by decide) (by decide) (by decide) ⟨_, Try.underlying26, by decide, AllI.get ⟨⟨_, rfl, rfl, rfl⟩, ⟨_, rfl, rfl, rfl⟩, ⟨_, rfl, rfl, rfl⟩, ⟨_, rfl, rfl, rfl⟩, ⟨_, rfl, rfl, rfl⟩, trivial⟩⟩ (fun h => by cases h) (ArrsOK.get (l := arrL) ⟨(fun h => by cases h), trivial⟩) (PtrsOK.get (l := ptrL) ⟨(fun h => by cases h), trivial⟩)
 ·
  exact .of 24 (by kernel_rfl) (by decide) (by decide) (by decide) ⟨87, Try.underlying27, rfl⟩ trivial (ArrsOK.get (l := arrL) ⟨(fun h => by cases h), trivial⟩) (PtrsOK.get (l := ptrL) ⟨(fun h => by cases h), trivial⟩)
 ·
  exact .of 24 (by kernel_rfl) (by decide) (by decide) (by decide) ⟨74, Try.underlying31, rfl⟩ trivial (ArrsOK.get (l := arrL) ⟨(fun h => by cases h), trivial⟩) (PtrsOK.get (l := ptrL) ⟨(fun h => by cases h), trivial⟩)
 ·
  exact .of 24 (by kernel_rfl) (by decide) (by decide) (by decide) ⟨34, Try.underlying32, rfl⟩ trivial (ArrsOK.get (l := arrL) ⟨(fun h => by cases h), trivial⟩) (PtrsOK.get (l := ptrL) ⟨(fun h => by cases h), trivial⟩)
 ·
  exact .of 88 (by kernel_rfl) (by decide) (by decide) (by decide) ⟨_, Try.underlying34, by decide, AllI.get ⟨⟨_, rfl, rfl, rfl⟩, ⟨_, rfl, rfl, rfl⟩, ⟨_, rfl, rfl, rfl⟩, ⟨_, rfl, rfl, rfl⟩, ⟨_, rfl, rfl, rfl⟩, trivial⟩⟩ (fun h => by cases h) (ArrsOK.get (l := arrL) ⟨(fun h => by cases h), trivial⟩) (PtrsOK.get (l := ptrL) ⟨(fun h => by cases h), trivial⟩)
 ·
  exact .of 24 (by kernel_rfl) (by decide) (by decide) (by decide) ⟨90, Try.underlying36, rfl⟩ trivial (ArrsOK.get (l := arrL) ⟨(fun h => by cases h), trivial⟩) (PtrsOK.get (l := ptrL) ⟨(fun h => by cases h), trivial⟩)
 ·
  exact .of 24 (by kernel_rfl) (by decide) (by decide) (by decide) ⟨48, Try.underlying46, rfl⟩ trivial (ArrsOK.get (l := arrL) ⟨(fun h => by cases h), trivial⟩) (PtrsOK.get (l := ptrL) ⟨(fun h => by cases h), trivial⟩)
 ·
  exact .of 24 (by kernel_rfl) (by decide) (by decide) (by decide) ⟨4, Try.underlying48, rfl⟩ trivial (ArrsOK.get (l := arrL) ⟨(fun h => by cases h), trivial⟩) (PtrsOK.get (l := ptrL) ⟨(fun h => by cases h), trivial⟩)
 ·
  exact .of 16 (by kernel_rfl) (by decide) (by decide) (by decide) ⟨_, Try.underlying68, by decide, AllI.get ⟨⟨_, rfl, rfl, rfl⟩, ⟨_, rfl, rfl, rfl⟩, trivial⟩⟩ (fun _ => ⟨by kernel_rfl, by kernel_rfl, by kernel_rfl⟩) (ArrsOK.get (l := arrL) ⟨(fun h => by cases h), trivial⟩) (PtrsOK.get (l := ptrL) ⟨(fun h => by cases h), trivial⟩)
 ·
  exact .of 56 (by kernel_rfl) (by decide) (by decide) (by decide) ⟨_, Try.underlying70, by decide, AllI.get ⟨⟨_, rfl, rfl, rfl⟩, ⟨_, rfl, rfl, rfl⟩, ⟨_, rfl, rfl, rfl⟩, ⟨_, rfl, rfl, rfl⟩, trivial⟩⟩ (fun h => by cases h) (ArrsOK.get (l := arrL) ⟨(fun h => by cases h), trivial⟩) (PtrsOK.get (l := ptrL) ⟨(fun h => by cases h), trivial⟩)
 ·
  exact .of 16 (by kernel_rfl) (by decide) (by decide) (by decide) ⟨_, Try.underlying72, by decide, AllI.get ⟨⟨_, rfl, rfl, rfl⟩, ⟨_, rfl, rfl, rfl⟩, trivial⟩⟩ (fun _ => ⟨by kernel_rfl, by kernel_rfl, by kernel_rfl⟩) (ArrsOK.get (l := arrL) ⟨(fun h => by cases h), trivial⟩) (PtrsOK.get (l := ptrL) ⟨(fun h => by cases h), trivial⟩)
 ·
  exact .of 56 (by kernel_rfl) (by decide) (by decide) (by decide) ⟨_, Try.underlying74, by decide, AllI.get ⟨⟨_, rfl, rfl, rfl⟩, ⟨_, rfl, rfl, rfl⟩, ⟨_, rfl, rfl, rfl⟩, ⟨_, rfl, rfl, rfl⟩, trivial⟩⟩ (fun h => by cases h) (ArrsOK.get (l := arrL) ⟨(fun h => by cases h), trivial⟩) (PtrsOK.get (l := ptrL) ⟨fun _ => ⟨74, Try.underlying134⟩, trivial⟩)
 ·
  exact .of 56 (by kernel_rfl) (by decide) (by decide) (by decide) ⟨_, Try.underlying87, by decide, AllI.get ⟨⟨_, rfl, rfl, rfl⟩, ⟨_, rfl, rfl, rfl⟩, ⟨_, rfl, rfl, rfl⟩, trivial⟩⟩ (fun h => by cases h) (ArrsOK.get (l := arrL) ⟨(fun h => by cases h), trivial⟩) (PtrsOK.get (l := ptrL) ⟨(fun h => by cases h), trivial⟩)
 ·
  exact .of 56 (by kernel_rfl) (by decide) (by decide) (by decide) ⟨_, Try.underlying90, by decide, AllI.get ⟨⟨_, rfl, rfl, rfl⟩, ⟨_, rfl, rfl, rfl⟩, ⟨_, rfl, rfl, rfl⟩, trivial⟩⟩ (fun h => by cases h) (ArrsOK.get (l := arrL) ⟨(fun h => by cases h), trivial⟩) (PtrsOK.get (l := ptrL) ⟨(fun h => by cases h), trivial⟩)
 ·
  exact .of 24 (by kernel_rfl) (by decide) (by decide) (by decide) ⟨72, Try.underlying132, rfl⟩ trivial (ArrsOK.get (l := arrL) ⟨(fun h => by cases h), trivial⟩) (PtrsOK.get (l := ptrL) ⟨(fun h => by cases h), trivial⟩)
 ·
  exact .of 8 (by kernel_rfl) (by decide) (by decide) (by decide) Try.underlying136 trivial (ArrsOK.get (l := arrL) ⟨(fun h => by cases h), trivial⟩) (PtrsOK.get (l := ptrL) ⟨(fun h => by cases h), trivial⟩)

abbrev sI (n : Int) : SV := .int .i64 n
abbrev sB (b : Bool) : SV := .bool b
abbrev sD3 (x : Xpr) : SV := .data (.named 1) x
abbrev sR3 (x : Xpr) : SV := .dref (.named 1) x
abbrev sD8 (x : List Val) : SV := .data (.slice (.named 0)) x
abbrev sD9 (x : List Xpr) : SV := .data (.slice (.named 1)) x
theorem Val.wfl {a : Val} (h : Wf ⟨.named 0, (a : Val)⟩) : (-9223372036854775808 ≤ Val.N a ∧ Val.N a ≤ 9223372036854775807) := (h.field (tv := ⟨(.int .i64), Val.N a⟩) (List.Mem.tail _ (List.Mem.head _))).int_inv

theorem Xpr.wfl {a : Xpr} (h : Wf ⟨.named 1, (a : Xpr)⟩) : (-9223372036854775808 ≤ Xpr.Kind a ∧ Xpr.Kind a ≤ 9223372036854775807) ∧ (-9223372036854775808 ≤ Xpr.Col a ∧ Xpr.Col a ≤ 9223372036854775807) ∧ ((List.length (Xpr.Kids a) : Nat) : Int) ≤ 9223372036854775807 := ⟨(h.field (tv := ⟨(.int .i64), Xpr.Kind a⟩) (List.Mem.head _)).int_inv, (h.field (tv := ⟨(.int .i64), Xpr.Col a⟩) (List.Mem.tail _ (List.Mem.head _))).int_inv, (h.field (tv := ⟨(.slice (.named 1)), Xpr.Kids a⟩) (List.Mem.tail _ (List.Mem.tail _ (List.Mem.tail _ (List.Mem.head _))))).len⟩

theorem Pln.wfl {a : Pln} (h : Wf ⟨.named 2, (a : Pln)⟩) : (-9223372036854775808 ≤ Pln.Kind a ∧ Pln.Kind a ≤ 9223372036854775807) ∧ (-9223372036854775808 ≤ Pln.Table a ∧ Pln.Table a ≤ 9223372036854775807) ∧ ((List.length (Pln.Exprs a) : Nat) : Int) ≤ 9223372036854775807 ∧ ((List.length (Pln.Cols a) : Nat) : Int) ≤ 9223372036854775807 ∧ ((List.length (Pln.Kids a) : Nat) : Int) ≤ 9223372036854775807 := ⟨(h.field (tv := ⟨(.int .i64), Pln.Kind a⟩) (List.Mem.head _)).int_inv, (h.field (tv := ⟨(.int .i64), Pln.Table a⟩) (List.Mem.tail _ (List.Mem.head _))).int_inv, (h.field (tv := ⟨(.slice (.named 1)), Pln.Exprs a⟩) (List.Mem.tail _ (List.Mem.tail _ (List.Mem.head _)))).len, (h.field (tv := ⟨(.slice (.int .i64)), Pln.Cols a⟩) (List.Mem.tail _ (List.Mem.tail _ (List.Mem.tail _ (List.Mem.head _))))).len, (h.field (tv := ⟨(.slice (.named 2)), Pln.Kids a⟩) (List.Mem.tail _ (List.Mem.tail _ (List.Mem.tail _ (List.Mem.tail _ (List.Mem.head _)))))).len⟩

theorem Sta.wfl {a : Sta} (h : Wf ⟨.named 3, (a : Sta)⟩) : (-9223372036854775808 ≤ Sta.Rows a ∧ Sta.Rows a ≤ 9223372036854775807) ∧ ((List.length (Sta.Distinct a) : Nat) : Int) ≤ 9223372036854775807 ∧ ((List.length (Sta.Nulls a) : Nat) : Int) ≤ 9223372036854775807 := ⟨(h.field (tv := ⟨(.int .i64), Sta.Rows a⟩) (List.Mem.head _)).int_inv, (h.field (tv := ⟨(.slice (.int .i64)), Sta.Distinct a⟩) (List.Mem.tail _ (List.Mem.head _))).len, (h.field (tv := ⟨(.slice (.int .i64)), Sta.Nulls a⟩) (List.Mem.tail _ (List.Mem.tail _ (List.Mem.head _)))).len⟩

theorem Cel.wfl {a : Cel} (h : Wf ⟨.named 4, (a : Cel)⟩) : (-9223372036854775808 ≤ Cel.v a ∧ Cel.v a ≤ 9223372036854775807) := (h.field (tv := ⟨(.int .i64), Cel.v a⟩) (List.Mem.head _)).int_inv

end Go.Proofs.Ytodcdgolcbdkgaa
