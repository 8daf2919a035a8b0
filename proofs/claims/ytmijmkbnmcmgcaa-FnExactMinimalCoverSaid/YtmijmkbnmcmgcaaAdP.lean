/-
  A part of the proof of this claim (AdP): what functions of the program compute, and plain facts of that. No conditions.
-/
import Derived.Test.YtmijmkbnmcmgcaaAdO
set_option linter.all false
namespace Go.Proofs.Ytmijmkbnmcmgcaa
open Go Go.Am
noncomputable section

def iimplies (fds : List Dep) (f : Dep) : Bool := (contains (closure fds (Dep.From f)) (Dep.To f))

def iimplies_sp : FnSpec := mkSpec [.val (.slice (.named 0)), .val (.named 0)] [.val .bool] (fun (fds : List Dep) (f : Dep) => ((0 ≤ f.From ∧ f.From < 64) ∧ (0 ≤ f.To ∧ f.To < 64)) ∧ OKL fds) (fun (fds : List Dep) (f : Dep) => [⟨.bool, (iimplies fds f)⟩])

theorem iimplies_ok : FnOK Try.prog 53 iimplies_sp := by
 have hC : CtxOK Try.prog (mkCtx tyL [(41, closure_sp), (46, contains_sp)]) := CtxOK.cons closure_ok (CtxOK.cons contains_ok (CtxOK.nil tyOK))
 have hM : Try.prog.follows .mixedOrders = true := Try.checked.mixed
 refine FnOK.of_body Try.func53 (by kernel_rfl) rfl (C := (mkCtx tyL [(41, closure_sp), (46, contains_sp)])) hC.ty (by kernel_rfl) ?_
 intro (fds : List Dep) (f : Dep) hwf hpre E
 have hpre : ((0 ≤ f.From ∧ f.From < 64) ∧ (0 ≤ f.To ∧ f.To < 64)) ∧ OKL fds := hpre
 have hw_fds : Wf ⟨(.slice (.named 0)), (fds : List Dep)⟩ := hwf _ (List.Mem.head _)
 have hl_fds : ((List.length fds : Nat) : Int) ≤ 9223372036854775807 := hw_fds.len
 have hw_f : Wf ⟨(.named 0), (f : Dep)⟩ := hwf _ (List.Mem.tail _ (List.Mem.head _))
 have hr_f_From : -9223372036854775808 ≤ Dep.From f ∧ Dep.From f ≤ 9223372036854775807 := (hw_f.field (tv := ⟨(.int .i64), Dep.From f⟩) (List.Mem.head _)).int_inv
 have hr_f_To : -9223372036854775808 ≤ Dep.To f ∧ Dep.To f ≤ 9223372036854775807 := (hw_f.field (tv := ⟨(.int .i64), Dep.To f⟩) (List.Mem.tail _ (List.Mem.head _))).int_inv
 have e0 : iimplies fds f = iimplies fds f := rfl
 refine AW.seq (AW.r1U hC [0, 3] [12] [(3, .ref 12 1 0)] [(12, .box 1 [.int .i64 (Dep.From f), .int .i64 (Dep.To f)])] ?_)
 refine AW.seq (AW.d0 hC hM [4] [] ⟨[(4, .bool (contains (closure fds (Dep.From f)) (Dep.To f)))], []⟩ [((0 ≤ (Dep.From f) ∧ (Dep.From f) < 64) ∧ ∀ f ∈ fds, (0 ≤ f.From ∧ f.From < 64) ∧ (0 ≤ f.To ∧ f.To < 64)), (True)] ?_ ?_)
 ·
  refine ⟨?_, ?_, trivial⟩
  ·
   exact ⟨hpre.1.1, hpre.2⟩
  ·
   trivial
 exact AW.ret (AW.retE (β := Bool) (fun v => [⟨.bool, v⟩]) (fun v => []) (v := (contains (closure fds (Dep.From f)) (Dep.To f))) e0 (by kernel_rfl) rfl rfl)

def has (s : Int) (c : Int) : Bool := (((s / 2 ^ (Int.toNat c)) % 2) == 1)

def has_sp : FnSpec := mkSpec [.val (.int .i64), .val (.int .i64)] [.val .bool] (fun (s : Int) (c : Int) => 0 ≤ s ∧ (0 ≤ c ∧ c ≤ 6)) (fun (s : Int) (c : Int) => [⟨.bool, (has s c)⟩])

theorem has_ok : FnOK Try.prog 62 has_sp := by
 have hC : CtxOK Try.prog (mkCtx tyL []) := CtxOK.nil tyOK
 refine FnOK.of_body Try.func62 (by kernel_rfl) rfl (C := (mkCtx tyL [])) hC.ty (by kernel_rfl) ?_
 intro (s : Int) (c : Int) hwf hpre E
 have hpre : 0 ≤ s ∧ (0 ≤ c ∧ c ≤ 6) := hpre
 have hw_s : Wf ⟨(.int .i64), (s : Int)⟩ := hwf _ (List.Mem.head _)
 have hr_s : -9223372036854775808 ≤ s ∧ s ≤ 9223372036854775807 := hw_s.int_inv
 have hw_c : Wf ⟨(.int .i64), (c : Int)⟩ := hwf _ (List.Mem.tail _ (List.Mem.head _))
 have hr_c : -9223372036854775808 ≤ c ∧ c ≤ 9223372036854775807 := hw_c.int_inv
 have e0 : has s c = has s c := rfl
 refine AW.seq (AW.r1U hC [0, 1] [] [] [] ?_)
 refine AW.seq (AW.r0 hC [4] [] ⟨[(4, .bool (((s / 2 ^ (Int.toNat c)) % 2) == 1))], []⟩ [(0 ≤ c ∧ c ≤ 64), (0 ≤ (s / 2 ^ (Int.toNat c)) ∧ 0 < (2 : Int))] ?_ ?_)
 ·
  refine ⟨?_, ?_, trivial⟩
  ·
   have := Int.ediv_nonneg (a := s) (b := 2 ^ c.toNat) hpre.1 (Int.le_of_lt (Int.pow_pos (by decide)))
   omega
  ·
   have := Int.ediv_nonneg (a := s) (b := 2 ^ c.toNat) hpre.1 (Int.le_of_lt (Int.pow_pos (by decide)))
   omega
 exact AW.ret (AW.retE (β := Bool) (fun v => [⟨.bool, v⟩]) (fun v => []) (v := (((s / 2 ^ (Int.toNat c)) % 2) == 1)) e0 (by kernel_rfl) rfl rfl)

def implies (fds : List Dep) (f : Dep) : Bool := ((bits .and .i64 (closureOf fds (Dep.From f)) (Dep.To f)) == (Dep.To f))

def implies_sp : FnSpec := mkSpec [.val (.slice (.named 0)), .val (.named 0)] [.val .bool] (fun (fds : List Dep) (f : Dep) => ((0 ≤ f.From ∧ f.From < 64) ∧ (0 ≤ f.To ∧ f.To < 64)) ∧ OKL fds) (fun (fds : List Dep) (f : Dep) => [⟨.bool, (implies fds f)⟩])

theorem implies_ok : FnOK Try.prog 63 implies_sp := by
 have hC : CtxOK Try.prog (mkCtx tyL [(38, closureOf_sp)]) := CtxOK.cons closureOf_ok (CtxOK.nil tyOK)
 have hM : Try.prog.follows .mixedOrders = true := Try.checked.mixed
 refine FnOK.of_body Try.func63 (by kernel_rfl) rfl (C := (mkCtx tyL [(38, closureOf_sp)])) hC.ty (by kernel_rfl) ?_
 intro (fds : List Dep) (f : Dep) hwf hpre E
 have hpre : ((0 ≤ f.From ∧ f.From < 64) ∧ (0 ≤ f.To ∧ f.To < 64)) ∧ OKL fds := hpre
 have hw_fds : Wf ⟨(.slice (.named 0)), (fds : List Dep)⟩ := hwf _ (List.Mem.head _)
 have hl_fds : ((List.length fds : Nat) : Int) ≤ 9223372036854775807 := hw_fds.len
 have hw_f : Wf ⟨(.named 0), (f : Dep)⟩ := hwf _ (List.Mem.tail _ (List.Mem.head _))
 have hr_f_From : -9223372036854775808 ≤ Dep.From f ∧ Dep.From f ≤ 9223372036854775807 := (hw_f.field (tv := ⟨(.int .i64), Dep.From f⟩) (List.Mem.head _)).int_inv
 have hr_f_To : -9223372036854775808 ≤ Dep.To f ∧ Dep.To f ≤ 9223372036854775807 := (hw_f.field (tv := ⟨(.int .i64), Dep.To f⟩) (List.Mem.tail _ (List.Mem.head _))).int_inv
 have e0 : implies fds f = implies fds f := rfl
 refine AW.seq (AW.r1U hC [0, 3] [12] [(3, .ref 12 1 0)] [(12, .box 1 [.int .i64 (Dep.From f), .int .i64 (Dep.To f)])] ?_)
 refine AW.seq (AW.d0 hC hM [4] [] ⟨[(4, .bool ((bits .and .i64 (closureOf fds (Dep.From f)) (Dep.To f)) == (Dep.To f)))], []⟩ [((0 ≤ (Dep.From f) ∧ (Dep.From f) < 64) ∧ ∀ f ∈ fds, (0 ≤ f.From ∧ f.From < 64) ∧ (0 ≤ f.To ∧ f.To < 64))] ?_ ?_)
 ·
  refine ⟨?_, trivial⟩
  ·
   exact ⟨hpre.1.1, hpre.2⟩
 exact AW.ret (AW.retE (β := Bool) (fun v => [⟨.bool, v⟩]) (fun v => []) (v := ((bits .and .i64 (closureOf fds (Dep.From f)) (Dep.To f)) == (Dep.To f))) e0 (by kernel_rfl) rfl rfl)

theorem fin64 {P : Int → Nat → Prop} (h : ∀ a : Fin 64, ∀ c : Fin 6, P ((a.val : Nat) : Int) c.val) {a : Int} (ha : 0 ≤ a ∧ a < 64) {c : Nat} (hc : c < 6) : P a c := by
 obtain ⟨n, rfl⟩ := Int.eq_ofNat_of_zero_le ha.1
 exact h ⟨n, by omega⟩ ⟨c, hc⟩

theorem clr_eq {a : Int} (ha : 0 ≤ a ∧ a < 64) {c : Nat} (hc : c < 6) : bits .andNot .i64 a (1 * 2 ^ c) = bif ((a / 2 ^ c) % 2 == 1) then a - 1 * 2 ^ c else a :=
 fin64 (P := fun a c => bits .andNot .i64 a (1 * 2 ^ c) = bif ((a / 2 ^ c) % 2 == 1) then a - 1 * 2 ^ c else a) (by decide) ha hc

theorem con_eq {a : Int} (ha : 0 ≤ a ∧ a < 64) {c : Nat} (hc : c < 6) : contains a (1 * 2 ^ c) = ((a / 2 ^ c) % 2 == 1) :=
 fin64 (P := fun a c => contains a (1 * 2 ^ c) = ((a / 2 ^ c) % 2 == 1)) (by decide) ha hc

theorem sub_in {a : Int} (ha : 0 ≤ a ∧ a < 64) {c : Nat} (hc : c < 6) (h : ((a / 2 ^ c) % 2 == 1) = true) : 0 ≤ a - 1 * 2 ^ c :=
 fin64 (P := fun a c => ((a / 2 ^ c) % 2 == 1) = true → 0 ≤ a - 1 * 2 ^ c) (by decide) ha hc h

theorem clr_in {a : Int} (ha : 0 ≤ a ∧ a < 64) {c : Nat} (hc : c < 6) : 0 ≤ bits .andNot .i64 a (1 * 2 ^ c) ∧ bits .andNot .i64 a (1 * 2 ^ c) < 64 := by
 rw [clr_eq ha hc]
 cases h : ((a / 2 ^ c) % 2 == 1) with
 | false => exact ha
 | true =>
  have := sub_in ha hc h
  have p : (1 : Int) ≤ 2 ^ c := by
   have := Nat.one_le_two_pow (n := c)
   exact_mod_cast this
  rw [cond_true]
  omega

theorem bit_in {c : Nat} (hc : c < 6) : 0 ≤ (1 : Int) * 2 ^ c ∧ (1 : Int) * 2 ^ c < 64 :=
 fin64 (P := fun _ c => 0 ≤ (1 : Int) * 2 ^ c ∧ (1 : Int) * 2 ^ c < 64) (by decide) (a := 0) ⟨by decide, by decide⟩ hc

theorem deps_ok {fds : List Dep} {w : Int} (h : ValidDependencies fds w = true) : (1 ≤ w ∧ w ≤ 6) ∧ fds.length ≤ 8 ∧ OKL fds := by
 obtain ⟨hw, h8, hf⟩ := ValidDependencies_iff.1 h
 refine ⟨hw, h8, fun f hm => ?_⟩
 have := depValid_iff.1 (hf f hm)
 exact ⟨⟨this.1.1, pow_le64 hw this.1.2⟩, ⟨this.2.1, pow_le64 hw this.2.2⟩⟩

theorem two_ok {l : List Dep} {i j : Nat} (h : l.length ≤ 1000) : ((List.length [l.take i, l.drop j] : Nat) : Int) ≤ 1000 ∧ ∀ k : Nat, k < List.length [l.take i, l.drop j] → ((List.length (List.getD [l.take i, l.drop j] k []) : Nat) : Int) ≤ 1000000 := by
 refine ⟨by simp, fun k hk => ?_⟩
 match k with
 | 0 => show ((List.length (l.take i) : Nat) : Int) ≤ 1000000; rw [List.length_take]; omega
 | 1 => show ((List.length (l.drop j) : Nat) : Int) ≤ 1000000; rw [List.length_drop]; omega
 | k + 2 => simp at hk; omega

end
end Go.Proofs.Ytmijmkbnmcmgcaa
