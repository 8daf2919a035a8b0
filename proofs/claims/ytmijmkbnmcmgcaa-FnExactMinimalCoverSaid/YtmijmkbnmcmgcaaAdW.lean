/-
  A part of the proof of this claim (AdW): what functions of the program compute, and plain facts of that. No conditions.
-/
import Derived.Test.YtmijmkbnmcmgcaaAdQ
set_option linter.all false
namespace Go.Proofs.Ytmijmkbnmcmgcaa
open Go Go.Am
noncomputable section

theorem has_eq (a : Int) (c : Nat) : has a ((c : Nat) : Int) = ((a / 2 ^ c) % 2 == 1) := rfl

theorem has_sub {a : Int} (ha : 0 ≤ a ∧ a < 64) {c : Nat} (hc : c < 6) (h : has a ((c : Nat) : Int) = true) : 0 ≤ a - 1 * 2 ^ c ∧ a - 1 * 2 ^ c < 64 := by
 have h1 := sub_in ha hc h
 have h2 := bit_in hc
 omega

theorem rest_len {l : List Dep} {i : Nat} (hi : i < l.length) : ((([] : List Dep) ++ l.take i) ++ l.drop (i + 1)).length = l.length - 1 := by
 have := concat_len hi
 rw [concat_two] at this
 exact this

theorem OKL.rest2 {l : List Dep} (h : OKL l) (i : Nat) : OKL ((([] : List Dep) ++ l.take i) ++ l.drop (i + 1)) := by
 have := h.rest i
 rw [concat_two] at this
 exact this

def minimalCover_l1 (fds : List Dep) (width : Int) (i : Nat) : Nat → Nat → (List Dep) → (List Dep)
 | 0, c, out1 => out1
 | k + 1, c, out1 => (bif (decide (((c : Nat) : Int) < width)) then (bif (bif (has (Dep.To (List.getD fds i Dep.zero)) ((c : Nat) : Int)) then (!(has (Dep.From (List.getD fds i Dep.zero)) ((c : Nat) : Int))) else false) then (minimalCover_l1 fds width i k (c + 1) (out1 ++ ([(Dep.mk (Dep.From (List.getD fds i Dep.zero)) ((1 : Int) * 2 ^ c))] : List Dep))) else (minimalCover_l1 fds width i k (c + 1) out1)) else out1)

def minimalCover_l0 (fds : List Dep) (width : Int) : Nat → Nat → (List Dep) → (List Dep)
 | 0, i, out => out
 | k + 1, i, out => (bif (decide (((i : Nat) : Int) < ((List.length fds : Nat) : Int))) then (Go.Am.andThen (minimalCover_l1 fds width i (Int.toNat (width - ((0 : Nat) : Int)) + 1) 0 out) (fun z => (fun (out1 : List Dep) => (minimalCover_l0 fds width k (i + 1) out1)) z)) else out)

def minimalCover_l3 (width : Int) (i : Nat) : Nat → Nat → (List Dep) → (List Dep)
 | 0, c, out2 => out2
 | k + 1, c, out2 => (bif (decide (((c : Nat) : Int) < width)) then (bif (bif (has (Dep.From (List.getD out2 i Dep.zero)) ((c : Nat) : Int)) then (implies out2 (Dep.mk ((Dep.From (List.getD out2 i Dep.zero)) - ((1 : Int) * 2 ^ c)) (Dep.To (List.getD out2 i Dep.zero)))) else false) then (minimalCover_l3 width i k (c + 1) (List.set out2 i (Dep.mk ((Dep.From (List.getD out2 i Dep.zero)) - ((1 : Int) * 2 ^ c)) (Dep.To (List.getD out2 i Dep.zero))))) else (minimalCover_l3 width i k (c + 1) out2)) else out2)

def minimalCover_l2 (width : Int) : Nat → Nat → (List Dep) → (List Dep)
 | 0, i, out1 => out1
 | k + 1, i, out1 => (bif (decide (((i : Nat) : Int) < ((List.length out1 : Nat) : Int))) then (Go.Am.andThen (minimalCover_l3 width i (Int.toNat (width - ((0 : Nat) : Int)) + 1) 0 out1) (fun z => (fun (out2 : List Dep) => (minimalCover_l2 width k (i + 1) out2)) z)) else out1)

def minimalCover_l4 : Nat → (List Dep) → Nat → (List Dep)
 | 0, out2, i => out2
 | k + 1, out2, i => (bif (decide (((i : Nat) : Int) < ((List.length out2 : Nat) : Int))) then (bif (implies ((([] : List Dep) ++ (List.take i out2)) ++ (List.drop (i + 1) out2)) (List.getD out2 i Dep.zero)) then (minimalCover_l4 k ((([] : List Dep) ++ (List.take i out2)) ++ (List.drop (i + 1) out2)) i) else (minimalCover_l4 k out2 (i + 1))) else out2)

def minimalCover (fds : List Dep) (width : Int) : (List Dep) := (Go.Am.andThen (minimalCover_l0 fds width ((List.length fds) - 0 + 1) 0 ([] : List Dep)) (fun z => (fun (out : List Dep) => (Go.Am.andThen (minimalCover_l2 width ((List.length out) - 0 + 1) 0 out) (fun z => (fun (out1 : List Dep) => (Go.Am.andThen (minimalCover_l4 (List.length out1 - 0 + 1) out1 0) (fun z => (fun (out2 : List Dep) => out2) z))) z))) z))

def minimalCover_sp : FnSpec := mkSpec [.val (.slice (.named 0)), .val (.int .i64)] [.val (.slice (.named 0))] (fun (fds : List Dep) (width : Int) => (1 ≤ width ∧ width ≤ 6) ∧ fds.length ≤ 8 ∧ OKL fds) (fun (fds : List Dep) (width : Int) => [⟨(.slice (.named 0)), (minimalCover fds width)⟩])

theorem minimalCover_ok : FnOK Try.prog 55 minimalCover_sp := by
 have hC : CtxOK Try.prog (mkCtx tyL [(62, has_sp), (63, implies_sp)]) := CtxOK.cons has_ok (CtxOK.cons implies_ok (CtxOK.nil tyOK))
 have hM : Try.prog.follows .mixedOrders = true := Try.checked.mixed
 refine FnOK.of_body Try.func55 (by kernel_rfl) rfl (C := (mkCtx tyL [(62, has_sp), (63, implies_sp)])) hC.ty (by kernel_rfl) ?_
 intro (fds : List Dep) (width : Int) hwf hpre E
 have hpre : (1 ≤ width ∧ width ≤ 6) ∧ fds.length ≤ 8 ∧ OKL fds := hpre
 have hw_fds : Wf ⟨(.slice (.named 0)), (fds : List Dep)⟩ := hwf _ (List.Mem.head _)
 have hl_fds : ((List.length fds : Nat) : Int) ≤ 9223372036854775807 := hw_fds.len
 have hw_width : Wf ⟨(.int .i64), (width : Int)⟩ := hwf _ (List.Mem.tail _ (List.Mem.head _))
 have hr_width : -9223372036854775808 ≤ width ∧ width ≤ 9223372036854775807 := hw_width.int_inv
 obtain ⟨hw6, hl8, hok⟩ := hpre
 have e0 : minimalCover fds width = minimalCover fds width := rfl
 refine AW.seq (AW.r1U hC [0, 1] [] [] [] ?_)
 refine AW.seq (AW.r1U hC [0, 1, 5] [48] [(5, .arr 48 1)] [(48, .arr 1 (.named 0) (([] : List Dep) : List Dep))] ?_)
 refine AW.seq (AW.seq (AW.wf_arr (id := 48) (ep := 1) (t := (.named 0)) (xs := (([] : List Dep) : List Dep)) (by kernel_rfl) fun ha1 _ => ?_))
 replace ha1 : ((List.length ([] : List Dep) : Nat) : Int) ≤ 4294967296 := ha1
 refine AW.r1U hC [0, 1, 5, 6] [48] [(6, .int .i64 0)] [] ?_
 refine AW.cutQ (α := (List Dep)) (fun x => ⟨[(1, .int .i64 width), (5, .arr 48 1)], [(48, .arr 1 (.named 0) (x : List Dep))]⟩) (fun x => (OKL x ∧ ((List.length x : Nat) : Int) ≤ 48) ∧ (minimalCover_l0 fds width ((List.length fds) - 0 + 1) 0 ([] : List Dep)) = x) ?_ ?_
 ·
  skip
  refine AW.block (AW.loop (α := Nat × (List Dep)) (fun x => ⟨[(0, .data (.slice (.named 0)) (fds : List Dep)), (1, .int .i64 width), (5, .arr 48 1), (6, .int .i64 ((x.1 : Nat) : Int))], [(48, .arr 1 (.named 0) (x.2 : List Dep))]⟩) (fun x => (OKL x.2 ∧ ((List.length x.2 : Nat) : Int) ≤ 6 * x.1 ∧ x.1 ≤ List.length fds) ∧ ∃ k, (List.length fds) - x.1 < k ∧ (minimalCover_l0 fds width ((List.length fds) - 0 + 1) 0 ([] : List Dep)) = minimalCover_l0 fds width k x.1 x.2) (fun x => (List.length fds) - x.1) (0, ([] : List Dep)) (by kernel_rfl) ⟨?_, _, Nat.lt_succ_self _, rfl⟩ ?_)
  ·
   show OKL ([] : List Dep) ∧ ((List.length ([] : List Dep) : Nat) : Int) ≤ 6 * 0 ∧ 0 ≤ List.length fds
   exact ⟨OKL.nil, by simp, Nat.zero_le _⟩
  ·
   intro x hR
   obtain ⟨i, out⟩ := x
   obtain ⟨hI0, k118, hk116, e117⟩ := hR
   replace hI0 : OKL out ∧ ((List.length out : Nat) : Int) ≤ 6 * i ∧ i ≤ List.length fds := hI0
   replace hk116 : (List.length fds) - i < k118 := hk116
   obtain ⟨k118q, rfl⟩ : ∃ k, k118 = k + 1 := ⟨k118 - 1, by omega⟩
   refine AW.seq (AW.seq (AW.wf_arr (id := 48) (ep := 1) (t := (.named 0)) (xs := (out : List Dep)) (by kernel_rfl) fun ha119 _ => ?_))
   replace ha119 : ((List.length out : Nat) : Int) ≤ 4294967296 := ha119
   refine AW.r1U hC [0, 1, 5, 6, 16] [48] [(16, .bool (decide (((i : Nat) : Int) < ((List.length fds : Nat) : Int))))] [] ?_
   refine AW.cd (decide (((i : Nat) : Int) < ((List.length fds : Nat) : Int))) ?_ ?_
   ·
    intro h120
    have h120q : ((i : Nat) : Int) < ((List.length fds : Nat) : Int) := (of_decide_eq_true h120)
    have e121 := e117.trans (Go.Am.bif_t h120)
    refine AW.kpU [0, 1, 5, 6] [48] [] [] ?_
    refine AW.skip (AW.seq (AW.block (AW.seq (AW.wf_arr (id := 48) (ep := 1) (t := (.named 0)) (xs := (out : List Dep)) (by kernel_rfl) fun ha122 _ => ?_))))
    replace ha122 : ((List.length out : Nat) : Int) ≤ 4294967296 := ha122
    refine AW.r1U hC [0, 1, 5, 6, 7] [48] [(7, .int .i64 0)] [] ?_
    refine AW.cutQ (α := (List Dep)) (fun x => ⟨[(0, .data (.slice (.named 0)) (fds : List Dep)), (1, .int .i64 width), (5, .arr 48 1), (6, .int .i64 ((i : Nat) : Int))], [(48, .arr 1 (.named 0) (x : List Dep))]⟩) (fun x => (OKL x ∧ ((List.length x : Nat) : Int) ≤ 6 * i + 6) ∧ (minimalCover_l1 fds width i (Int.toNat (width - ((0 : Nat) : Int)) + 1) 0 out) = x) ?_ ?_
    ·
     skip
     refine AW.block (AW.loop (α := Nat × (List Dep)) (fun x => ⟨[(0, .data (.slice (.named 0)) (fds : List Dep)), (1, .int .i64 width), (5, .arr 48 1), (6, .int .i64 ((i : Nat) : Int)), (7, .int .i64 ((x.1 : Nat) : Int))], [(48, .arr 1 (.named 0) (x.2 : List Dep))]⟩) (fun x => (OKL x.2 ∧ ((List.length x.2 : Nat) : Int) ≤ 6 * i + x.1 ∧ (x.1 : Int) ≤ width) ∧ ∃ k, Int.toNat (width - ((x.1 : Nat) : Int)) < k ∧ (minimalCover_l1 fds width i (Int.toNat (width - ((0 : Nat) : Int)) + 1) 0 out) = minimalCover_l1 fds width i k x.1 x.2) (fun x => Int.toNat (width - ((x.1 : Nat) : Int))) (0, out) (by kernel_rfl) ⟨?_, _, Nat.lt_succ_self _, rfl⟩ ?_)
     ·
      show OKL out ∧ ((List.length out : Nat) : Int) ≤ 6 * i + 0 ∧ (0 : Int) ≤ width
      exact ⟨hI0.1, by omega, by omega⟩
     ·
      intro x hR
      obtain ⟨c, out1⟩ := x
      obtain ⟨hI1, k125, hk123, e124⟩ := hR
      replace hI1 : OKL out1 ∧ ((List.length out1 : Nat) : Int) ≤ 6 * i + c ∧ (c : Int) ≤ width := hI1
      replace hk123 : Int.toNat (width - ((c : Nat) : Int)) < k125 := hk123
      obtain ⟨k125q, rfl⟩ : ∃ k, k125 = k + 1 := ⟨k125 - 1, by omega⟩
      have hf := OKL.at (l := fds) hok (i := i)
      refine AW.seq (AW.seq (AW.wf_arr (id := 48) (ep := 1) (t := (.named 0)) (xs := (out1 : List Dep)) (by kernel_rfl) fun ha126 _ => ?_))
      replace ha126 : ((List.length out1 : Nat) : Int) ≤ 4294967296 := ha126
      refine AW.r1U hC [0, 1, 5, 6, 7, 21] [48] [(21, .bool (decide (((c : Nat) : Int) < width)))] [] ?_
      refine AW.cd (decide (((c : Nat) : Int) < width)) ?_ ?_
      ·
       intro h127
       have h127q : ((c : Nat) : Int) < width := (of_decide_eq_true h127)
       have e128 := e124.trans (Go.Am.bif_t h127)
       refine AW.kpU [0, 1, 5, 6, 7] [48] [] [] ?_
       refine AW.skip (AW.seq (AW.block (AW.seq (AW.wf_arr (id := 48) (ep := 1) (t := (.named 0)) (xs := (out1 : List Dep)) (by kernel_rfl) fun ha129 _ => ?_))))
       replace ha129 : ((List.length out1 : Nat) : Int) ≤ 4294967296 := ha129
       refine AW.r0U hC [0, 1, 5, 6, 7, 40] [48] [(40, .bool (bif (has (Dep.To (List.getD fds i Dep.zero)) ((c : Nat) : Int)) then (!(has (Dep.From (List.getD fds i Dep.zero)) ((c : Nat) : Int))) else false))] [] [(0 ≤ ((i : Nat) : Int) ∧ ((i : Nat) : Int) < ((List.length fds : Nat) : Int)), (0 ≤ (Dep.To (List.getD fds i Dep.zero)) ∧ (0 ≤ ((c : Nat) : Int) ∧ ((c : Nat) : Int) ≤ 6)), (((has (Dep.To (List.getD fds i Dep.zero)) ((c : Nat) : Int)) = true) → (((has (Dep.To (List.getD fds i Dep.zero)) ((c : Nat) : Int)) = true))), (((has (Dep.To (List.getD fds i Dep.zero)) ((c : Nat) : Int)) = true) → (((has (Dep.To (List.getD fds i Dep.zero)) ((c : Nat) : Int)) = true))), (((has (Dep.To (List.getD fds i Dep.zero)) ((c : Nat) : Int)) = true) → (0 ≤ ((i : Nat) : Int) ∧ ((i : Nat) : Int) < ((List.length fds : Nat) : Int))), (((has (Dep.To (List.getD fds i Dep.zero)) ((c : Nat) : Int)) = true) → (((has (Dep.To (List.getD fds i Dep.zero)) ((c : Nat) : Int)) = true))), (((has (Dep.To (List.getD fds i Dep.zero)) ((c : Nat) : Int)) = true) → (((has (Dep.To (List.getD fds i Dep.zero)) ((c : Nat) : Int)) = true))), (((has (Dep.To (List.getD fds i Dep.zero)) ((c : Nat) : Int)) = true) → (((has (Dep.To (List.getD fds i Dep.zero)) ((c : Nat) : Int)) = true))), (((has (Dep.To (List.getD fds i Dep.zero)) ((c : Nat) : Int)) = true) → (((has (Dep.To (List.getD fds i Dep.zero)) ((c : Nat) : Int)) = true))), (((has (Dep.To (List.getD fds i Dep.zero)) ((c : Nat) : Int)) = true) → (0 ≤ (Dep.From (List.getD fds i Dep.zero)) ∧ (0 ≤ ((c : Nat) : Int) ∧ ((c : Nat) : Int) ≤ 6))), (((has (Dep.To (List.getD fds i Dep.zero)) ((c : Nat) : Int)) = true) → (((has (Dep.To (List.getD fds i Dep.zero)) ((c : Nat) : Int)) = true))), (((has (Dep.To (List.getD fds i Dep.zero)) ((c : Nat) : Int)) = true) → (((has (Dep.To (List.getD fds i Dep.zero)) ((c : Nat) : Int)) = true)))] ?_ ?_
       ·
        refine ⟨?_, ?_, ?_, ?_, ?_, ?_, ?_, ?_, ?_, ?_, ?_, ?_, trivial⟩
        ·
         omega
        ·
         omega
        ·
         intro g130
         have g130p0 : (has (Dep.To (List.getD fds i Dep.zero)) ((c : Nat) : Int)) = true := g130
         assumption
        ·
         intro g131
         have g131p0 : (has (Dep.To (List.getD fds i Dep.zero)) ((c : Nat) : Int)) = true := g131
         assumption
        ·
         intro g132
         have g132p0 : (has (Dep.To (List.getD fds i Dep.zero)) ((c : Nat) : Int)) = true := g132
         omega
        ·
         intro g133
         have g133p0 : (has (Dep.To (List.getD fds i Dep.zero)) ((c : Nat) : Int)) = true := g133
         assumption
        ·
         intro g134
         have g134p0 : (has (Dep.To (List.getD fds i Dep.zero)) ((c : Nat) : Int)) = true := g134
         assumption
        ·
         intro g135
         have g135p0 : (has (Dep.To (List.getD fds i Dep.zero)) ((c : Nat) : Int)) = true := g135
         assumption
        ·
         intro g136
         have g136p0 : (has (Dep.To (List.getD fds i Dep.zero)) ((c : Nat) : Int)) = true := g136
         assumption
        ·
         intro g137
         have g137p0 : (has (Dep.To (List.getD fds i Dep.zero)) ((c : Nat) : Int)) = true := g137
         omega
        ·
         intro g138
         have g138p0 : (has (Dep.To (List.getD fds i Dep.zero)) ((c : Nat) : Int)) = true := g138
         assumption
        ·
         intro g139
         have g139p0 : (has (Dep.To (List.getD fds i Dep.zero)) ((c : Nat) : Int)) = true := g139
         assumption
       refine AW.cd (bif (has (Dep.To (List.getD fds i Dep.zero)) ((c : Nat) : Int)) then (!(has (Dep.From (List.getD fds i Dep.zero)) ((c : Nat) : Int))) else false) ?_ ?_
       ·
        intro h140
        have h140q : ((has (Dep.To (List.getD fds i Dep.zero)) ((c : Nat) : Int)) = true) ∧ ((has (Dep.From (List.getD fds i Dep.zero)) ((c : Nat) : Int)) = false) := (And.imp (fun h => h) (fun h => (Go.Am.not_pos h)) (Go.Am.and_pos h140))
        have e141 := e128.trans (Go.Am.bif_t h140)
        refine AW.wf_arr (id := 48) (ep := 1) (t := (.named 0)) (xs := (out1 : List Dep)) (by kernel_rfl) fun ha142 _ => ?_
        replace ha142 : ((List.length out1 : Nat) : Int) ≤ 4294967296 := ha142
        refine AW.d0U hC hM [0, 1, 5, 6, 7] [48] [] [(48, .arr 1 (.named 0) ((out1 ++ ([(Dep.mk (Dep.From (List.getD fds i Dep.zero)) ((1 : Int) * 2 ^ c))] : List Dep)) : List Dep))] [(0 ≤ ((i : Nat) : Int) ∧ ((i : Nat) : Int) < ((List.length fds : Nat) : Int)), (0 ≤ ((c : Nat) : Int) ∧ ((c : Nat) : Int) ≤ 64), (-9223372036854775808 ≤ ((1 : Int) * 2 ^ c) ∧ ((1 : Int) * 2 ^ c) ≤ 9223372036854775807), (((List.length out1 : Nat) : Int) + ((List.length ([(Dep.mk (Dep.From (List.getD fds i Dep.zero)) ((1 : Int) * 2 ^ c))] : List Dep) : Nat) : Int) ≤ 4294967296)] ?_ ?_
        ·
         refine ⟨?_, ?_, ?_, ?_, trivial⟩
         ·
          omega
         ·
          omega
         ·
          have := bit_in (c := c) (by omega); first | omega | (have hq := hI3.1.at (i := i) (by omega); omega)
         ·
          simp only [List.length_append, List.length_cons, List.length_nil, List.length_take, List.length_drop]
          omega
        refine AW.wf_arr (id := 48) (ep := 1) (t := (.named 0)) (xs := ((out1 ++ ([(Dep.mk (Dep.From (List.getD fds i Dep.zero)) ((1 : Int) * 2 ^ c))] : List Dep)) : List Dep)) (by kernel_rfl) fun ha143 _ => ?_
        replace ha143 : ((List.length (out1 ++ ([(Dep.mk (Dep.From (List.getD fds i Dep.zero)) ((1 : Int) * 2 ^ c))] : List Dep)) : Nat) : Int) ≤ 4294967296 := ha143
        refine AW.r0U hC [0, 1, 5, 6, 7] [48] [(7, .int .i64 ((c + 1 : Nat) : Int))] [] [(-9223372036854775808 ≤ ((c + 1 : Nat) : Int) ∧ ((c + 1 : Nat) : Int) ≤ 9223372036854775807)] ?_ ?_
        ·
         refine ⟨?_, trivial⟩
         ·
          omega
        refine AW.back (x := (c, out1)) (c + 1, (out1 ++ ([(Dep.mk (Dep.From (List.getD fds i Dep.zero)) ((1 : Int) * 2 ^ c))] : List Dep))) (by kernel_rfl) ⟨?_, k125q, ?_, e141⟩ ?_
        ·
         show OKL (out1 ++ ([(Dep.mk (Dep.From (List.getD fds i Dep.zero)) ((1 : Int) * 2 ^ c))] : List Dep)) ∧ ((List.length (out1 ++ ([(Dep.mk (Dep.From (List.getD fds i Dep.zero)) ((1 : Int) * 2 ^ c))] : List Dep)) : Nat) : Int) ≤ 6 * i + (c + 1) ∧ ((c + 1) : Int) ≤ width
         exact ⟨hI1.1.snoc ⟨(hf (by omega)).1, bit_in (by omega)⟩, by simp only [List.length_append, List.length_cons, List.length_nil]; omega, by omega⟩
        ·
         show Int.toNat (width - (((c + 1) : Nat) : Int)) < k125q
         omega
        ·
         show Int.toNat (width - (((c + 1) : Nat) : Int)) < Int.toNat (width - ((c : Nat) : Int))
         omega
       ·
        intro h144
        have h144q : ((has (Dep.To (List.getD fds i Dep.zero)) ((c : Nat) : Int)) = false) ∨ ((has (Dep.From (List.getD fds i Dep.zero)) ((c : Nat) : Int)) = true) := (Or.imp (fun h => h) (fun h => (Go.Am.not_neg h)) (Go.Am.and_neg h144))
        have e145 := e128.trans (Go.Am.bif_f h144)
        refine AW.kpU [0, 1, 5, 6, 7] [48] [] [] ?_
        refine AW.skip (AW.wf_arr (id := 48) (ep := 1) (t := (.named 0)) (xs := (out1 : List Dep)) (by kernel_rfl) fun ha146 _ => ?_)
        replace ha146 : ((List.length out1 : Nat) : Int) ≤ 4294967296 := ha146
        refine AW.r0U hC [0, 1, 5, 6, 7] [48] [(7, .int .i64 ((c + 1 : Nat) : Int))] [] [(-9223372036854775808 ≤ ((c + 1 : Nat) : Int) ∧ ((c + 1 : Nat) : Int) ≤ 9223372036854775807)] ?_ ?_
        ·
         refine ⟨?_, trivial⟩
         ·
          omega
        refine AW.back (x := (c, out1)) (c + 1, out1) (by kernel_rfl) ⟨?_, k125q, ?_, e145⟩ ?_
        ·
         show OKL out1 ∧ ((List.length out1 : Nat) : Int) ≤ 6 * i + (c + 1) ∧ ((c + 1) : Int) ≤ width
         exact ⟨hI1.1, by omega, by omega⟩
        ·
         show Int.toNat (width - (((c + 1) : Nat) : Int)) < k125q
         omega
        ·
         show Int.toNat (width - (((c + 1) : Nat) : Int)) < Int.toNat (width - ((c : Nat) : Int))
         omega
      ·
       intro h147
       have h147q : ¬ (((c : Nat) : Int) < width) := (of_decide_eq_false h147)
       have e148 := e124.trans (Go.Am.bif_f h147)
       refine AW.kpU [0, 1, 5, 6] [48] [] [] ?_
       refine AW.exit ?_
       refine AW.meet out1 (by kernel_rfl) ⟨?_, e148⟩
       show OKL out1 ∧ ((List.length out1 : Nat) : Int) ≤ 6 * i + 6
       exact ⟨hI1.1, by omega⟩
    ·
     intro out1 hR
     obtain ⟨hJ1, e149⟩ := hR
     replace hJ1 : OKL out1 ∧ ((List.length out1 : Nat) : Int) ≤ 6 * i + 6 := hJ1
     have e150 := e121.trans (Go.Am.then_eq e149)
     refine AW.wf_arr (id := 48) (ep := 1) (t := (.named 0)) (xs := (out1 : List Dep)) (by kernel_rfl) fun ha151 _ => ?_
     replace ha151 : ((List.length out1 : Nat) : Int) ≤ 4294967296 := ha151
     refine AW.r0U hC [0, 1, 5, 6] [48] [(6, .int .i64 ((i + 1 : Nat) : Int))] [] [(-9223372036854775808 ≤ ((i + 1 : Nat) : Int) ∧ ((i + 1 : Nat) : Int) ≤ 9223372036854775807)] ?_ ?_
     ·
      refine ⟨?_, trivial⟩
      ·
       omega
     refine AW.back (x := (i, out)) (i + 1, out1) (by kernel_rfl) ⟨?_, k118q, ?_, e150⟩ ?_
     ·
      show OKL out1 ∧ ((List.length out1 : Nat) : Int) ≤ 6 * (i + 1) ∧ (i + 1) ≤ List.length fds
      exact ⟨hJ1.1, by omega, by omega⟩
     ·
      show (List.length fds) - (i + 1) < k118q
      omega
     ·
      show (List.length fds) - (i + 1) < (List.length fds) - i
      omega
   ·
    intro h152
    have h152q : ¬ (((i : Nat) : Int) < ((List.length fds : Nat) : Int)) := (of_decide_eq_false h152)
    have e153 := e117.trans (Go.Am.bif_f h152)
    refine AW.kpU [1, 5] [48] [] [] ?_
    refine AW.exit ?_
    refine AW.meet out (by kernel_rfl) ⟨?_, e153⟩
    show OKL out ∧ ((List.length out : Nat) : Int) ≤ 48
    exact ⟨hI0.1, by omega⟩
 ·
  intro out hR
  obtain ⟨hJ0, e154⟩ := hR
  replace hJ0 : OKL out ∧ ((List.length out : Nat) : Int) ≤ 48 := hJ0
  have e155 := e0.trans (Go.Am.then_eq e154)
  refine AW.seq (AW.seq (AW.wf_arr (id := 48) (ep := 1) (t := (.named 0)) (xs := (out : List Dep)) (by kernel_rfl) fun ha156 _ => ?_))
  replace ha156 : ((List.length out : Nat) : Int) ≤ 4294967296 := ha156
  refine AW.r1U hC [1, 5, 8] [48] [(8, .int .i64 0)] [] ?_
  refine AW.cutQ (α := (List Dep)) (fun x => ⟨[(5, .arr 48 1)], [(48, .arr 1 (.named 0) (x : List Dep))]⟩) (fun x => (OKL x ∧ List.length x ≤ 48) ∧ (minimalCover_l2 width ((List.length out) - 0 + 1) 0 out) = x) ?_ ?_
  ·
   skip
   refine AW.block (AW.loop (α := Nat × (List Dep)) (fun x => ⟨[(1, .int .i64 width), (5, .arr 48 1), (8, .int .i64 ((x.1 : Nat) : Int))], [(48, .arr 1 (.named 0) (x.2 : List Dep))]⟩) (fun x => (OKL x.2 ∧ List.length x.2 ≤ 48) ∧ ∃ k, (List.length x.2) - x.1 < k ∧ (minimalCover_l2 width ((List.length out) - 0 + 1) 0 out) = minimalCover_l2 width k x.1 x.2) (fun x => (List.length x.2) - x.1) (0, out) (by kernel_rfl) ⟨?_, _, Nat.lt_succ_self _, rfl⟩ ?_)
   ·
    show OKL out ∧ List.length out ≤ 48
    exact ⟨hJ0.1, by omega⟩
   ·
    intro x hR
    obtain ⟨i, out1⟩ := x
    obtain ⟨hI2, k273, hk271, e272⟩ := hR
    replace hI2 : OKL out1 ∧ List.length out1 ≤ 48 := hI2
    replace hk271 : (List.length out1) - i < k273 := hk271
    obtain ⟨k273q, rfl⟩ : ∃ k, k273 = k + 1 := ⟨k273 - 1, by omega⟩
    refine AW.seq (AW.seq (AW.wf_arr (id := 48) (ep := 1) (t := (.named 0)) (xs := (out1 : List Dep)) (by kernel_rfl) fun ha274 _ => ?_))
    replace ha274 : ((List.length out1 : Nat) : Int) ≤ 4294967296 := ha274
    refine AW.r1U hC [1, 5, 8, 55] [48] [(55, .bool (decide (((i : Nat) : Int) < ((List.length out1 : Nat) : Int))))] [] ?_
    refine AW.cd (decide (((i : Nat) : Int) < ((List.length out1 : Nat) : Int))) ?_ ?_
    ·
     intro h275
     have h275q : ((i : Nat) : Int) < ((List.length out1 : Nat) : Int) := (of_decide_eq_true h275)
     have e276 := e272.trans (Go.Am.bif_t h275)
     refine AW.kpU [1, 5, 8] [48] [] [] ?_
     refine AW.skip (AW.seq (AW.block (AW.seq (AW.wf_arr (id := 48) (ep := 1) (t := (.named 0)) (xs := (out1 : List Dep)) (by kernel_rfl) fun ha277 _ => ?_))))
     replace ha277 : ((List.length out1 : Nat) : Int) ≤ 4294967296 := ha277
     refine AW.r1U hC [1, 5, 8, 9] [48] [(9, .int .i64 0)] [] ?_
     refine AW.cutQ (α := (List Dep)) (fun x => ⟨[(1, .int .i64 width), (5, .arr 48 1), (8, .int .i64 ((i : Nat) : Int))], [(48, .arr 1 (.named 0) (x : List Dep))]⟩) (fun x => (OKL x ∧ List.length x = List.length out1) ∧ (minimalCover_l3 width i (Int.toNat (width - ((0 : Nat) : Int)) + 1) 0 out1) = x) ?_ ?_
     ·
      skip
      refine AW.block (AW.loop (α := Nat × (List Dep)) (fun x => ⟨[(1, .int .i64 width), (5, .arr 48 1), (8, .int .i64 ((i : Nat) : Int)), (9, .int .i64 ((x.1 : Nat) : Int))], [(48, .arr 1 (.named 0) (x.2 : List Dep))]⟩) (fun x => (OKL x.2 ∧ List.length x.2 = List.length out1) ∧ ∃ k, Int.toNat (width - ((x.1 : Nat) : Int)) < k ∧ (minimalCover_l3 width i (Int.toNat (width - ((0 : Nat) : Int)) + 1) 0 out1) = minimalCover_l3 width i k x.1 x.2) (fun x => Int.toNat (width - ((x.1 : Nat) : Int))) (0, out1) (by kernel_rfl) ⟨?_, _, Nat.lt_succ_self _, rfl⟩ ?_)
      ·
       show OKL out1 ∧ List.length out1 = List.length out1
       exact ⟨hI2.1, rfl⟩
      ·
       intro x hR
       obtain ⟨c, out2⟩ := x
       obtain ⟨hI3, k280, hk278, e279⟩ := hR
       replace hI3 : OKL out2 ∧ List.length out2 = List.length out1 := hI3
       replace hk278 : Int.toNat (width - ((c : Nat) : Int)) < k280 := hk278
       obtain ⟨k280q, rfl⟩ : ∃ k, k280 = k + 1 := ⟨k280 - 1, by omega⟩
       refine AW.seq (AW.seq (AW.wf_arr (id := 48) (ep := 1) (t := (.named 0)) (xs := (out2 : List Dep)) (by kernel_rfl) fun ha281 _ => ?_))
       replace ha281 : ((List.length out2 : Nat) : Int) ≤ 4294967296 := ha281
       refine AW.r1U hC [1, 5, 8, 9, 60] [48] [(60, .bool (decide (((c : Nat) : Int) < width)))] [] ?_
       refine AW.cd (decide (((c : Nat) : Int) < width)) ?_ ?_
       ·
        intro h282
        have h282q : ((c : Nat) : Int) < width := (of_decide_eq_true h282)
        have e283 := e279.trans (Go.Am.bif_t h282)
        refine AW.kpU [1, 5, 8, 9] [48] [] [] ?_
        refine AW.skip (AW.seq (AW.block (AW.seq (AW.wf_arr (id := 48) (ep := 1) (t := (.named 0)) (xs := (out2 : List Dep)) (by kernel_rfl) fun ha284 _ => ?_))))
        replace ha284 : ((List.length out2 : Nat) : Int) ≤ 4294967296 := ha284
        refine AW.d0U hC hM [1, 5, 8, 9, 87] [48] [(87, .bool (bif (has (Dep.From (List.getD out2 i Dep.zero)) ((c : Nat) : Int)) then (implies out2 (Dep.mk ((Dep.From (List.getD out2 i Dep.zero)) - ((1 : Int) * 2 ^ c)) (Dep.To (List.getD out2 i Dep.zero)))) else false))] [] [(0 ≤ ((i : Nat) : Int) ∧ ((i : Nat) : Int) < ((List.length out2 : Nat) : Int)), (0 ≤ (Dep.From (List.getD out2 i Dep.zero)) ∧ (0 ≤ ((c : Nat) : Int) ∧ ((c : Nat) : Int) ≤ 6)), (((has (Dep.From (List.getD out2 i Dep.zero)) ((c : Nat) : Int)) = true) → (((has (Dep.From (List.getD out2 i Dep.zero)) ((c : Nat) : Int)) = true))), (((has (Dep.From (List.getD out2 i Dep.zero)) ((c : Nat) : Int)) = true) → (((has (Dep.From (List.getD out2 i Dep.zero)) ((c : Nat) : Int)) = true))), (((has (Dep.From (List.getD out2 i Dep.zero)) ((c : Nat) : Int)) = true) → (0 ≤ ((i : Nat) : Int) ∧ ((i : Nat) : Int) < ((List.length out2 : Nat) : Int))), (((has (Dep.From (List.getD out2 i Dep.zero)) ((c : Nat) : Int)) = true) → (((has (Dep.From (List.getD out2 i Dep.zero)) ((c : Nat) : Int)) = true))), (((has (Dep.From (List.getD out2 i Dep.zero)) ((c : Nat) : Int)) = true) → (((has (Dep.From (List.getD out2 i Dep.zero)) ((c : Nat) : Int)) = true))), (((has (Dep.From (List.getD out2 i Dep.zero)) ((c : Nat) : Int)) = true) → (((has (Dep.From (List.getD out2 i Dep.zero)) ((c : Nat) : Int)) = true))), (((has (Dep.From (List.getD out2 i Dep.zero)) ((c : Nat) : Int)) = true) → (0 ≤ ((c : Nat) : Int) ∧ ((c : Nat) : Int) ≤ 64)), (((has (Dep.From (List.getD out2 i Dep.zero)) ((c : Nat) : Int)) = true) → (-9223372036854775808 ≤ ((1 : Int) * 2 ^ c) ∧ ((1 : Int) * 2 ^ c) ≤ 9223372036854775807)), (((has (Dep.From (List.getD out2 i Dep.zero)) ((c : Nat) : Int)) = true) → (((has (Dep.From (List.getD out2 i Dep.zero)) ((c : Nat) : Int)) = true))), (((has (Dep.From (List.getD out2 i Dep.zero)) ((c : Nat) : Int)) = true) → (((has (Dep.From (List.getD out2 i Dep.zero)) ((c : Nat) : Int)) = true))), (((has (Dep.From (List.getD out2 i Dep.zero)) ((c : Nat) : Int)) = true) → (-9223372036854775808 ≤ ((Dep.From (List.getD out2 i Dep.zero)) - ((1 : Int) * 2 ^ c)) ∧ ((Dep.From (List.getD out2 i Dep.zero)) - ((1 : Int) * 2 ^ c)) ≤ 9223372036854775807)), (((has (Dep.From (List.getD out2 i Dep.zero)) ((c : Nat) : Int)) = true) → (((has (Dep.From (List.getD out2 i Dep.zero)) ((c : Nat) : Int)) = true))), (((has (Dep.From (List.getD out2 i Dep.zero)) ((c : Nat) : Int)) = true) → (((has (Dep.From (List.getD out2 i Dep.zero)) ((c : Nat) : Int)) = true))), (((has (Dep.From (List.getD out2 i Dep.zero)) ((c : Nat) : Int)) = true) → (0 ≤ ((i : Nat) : Int) ∧ ((i : Nat) : Int) < ((List.length out2 : Nat) : Int))), (((has (Dep.From (List.getD out2 i Dep.zero)) ((c : Nat) : Int)) = true) → (((has (Dep.From (List.getD out2 i Dep.zero)) ((c : Nat) : Int)) = true))), (((has (Dep.From (List.getD out2 i Dep.zero)) ((c : Nat) : Int)) = true) → (((has (Dep.From (List.getD out2 i Dep.zero)) ((c : Nat) : Int)) = true))), (((has (Dep.From (List.getD out2 i Dep.zero)) ((c : Nat) : Int)) = true) → (((has (Dep.From (List.getD out2 i Dep.zero)) ((c : Nat) : Int)) = true))), (((has (Dep.From (List.getD out2 i Dep.zero)) ((c : Nat) : Int)) = true) → (((has (Dep.From (List.getD out2 i Dep.zero)) ((c : Nat) : Int)) = true))), (((has (Dep.From (List.getD out2 i Dep.zero)) ((c : Nat) : Int)) = true) → (((has (Dep.From (List.getD out2 i Dep.zero)) ((c : Nat) : Int)) = true))), (((has (Dep.From (List.getD out2 i Dep.zero)) ((c : Nat) : Int)) = true) → (((has (Dep.From (List.getD out2 i Dep.zero)) ((c : Nat) : Int)) = true))), (((has (Dep.From (List.getD out2 i Dep.zero)) ((c : Nat) : Int)) = true) → (((0 ≤ (Dep.mk ((Dep.From (List.getD out2 i Dep.zero)) - ((1 : Int) * 2 ^ c)) (Dep.To (List.getD out2 i Dep.zero))).From ∧ (Dep.mk ((Dep.From (List.getD out2 i Dep.zero)) - ((1 : Int) * 2 ^ c)) (Dep.To (List.getD out2 i Dep.zero))).From < 64) ∧ (0 ≤ (Dep.mk ((Dep.From (List.getD out2 i Dep.zero)) - ((1 : Int) * 2 ^ c)) (Dep.To (List.getD out2 i Dep.zero))).To ∧ (Dep.mk ((Dep.From (List.getD out2 i Dep.zero)) - ((1 : Int) * 2 ^ c)) (Dep.To (List.getD out2 i Dep.zero))).To < 64)) ∧ OKL out2)), (((has (Dep.From (List.getD out2 i Dep.zero)) ((c : Nat) : Int)) = true) → (((has (Dep.From (List.getD out2 i Dep.zero)) ((c : Nat) : Int)) = true)))] ?_ ?_
        ·
         refine ⟨?_, ?_, ?_, ?_, ?_, ?_, ?_, ?_, ?_, ?_, ?_, ?_, ?_, ?_, ?_, ?_, ?_, ?_, ?_, ?_, ?_, ?_, ?_, ?_, trivial⟩
         ·
          omega
         ·
          exact ⟨(hI3.1.at (by omega)).1.1, by omega⟩
         ·
          intro g285
          have g285p0 : (has (Dep.From (List.getD out2 i Dep.zero)) ((c : Nat) : Int)) = true := g285
          assumption
         ·
          intro g286
          have g286p0 : (has (Dep.From (List.getD out2 i Dep.zero)) ((c : Nat) : Int)) = true := g286
          assumption
         ·
          intro g287
          have g287p0 : (has (Dep.From (List.getD out2 i Dep.zero)) ((c : Nat) : Int)) = true := g287
          omega
         ·
          intro g288
          have g288p0 : (has (Dep.From (List.getD out2 i Dep.zero)) ((c : Nat) : Int)) = true := g288
          assumption
         ·
          intro g289
          have g289p0 : (has (Dep.From (List.getD out2 i Dep.zero)) ((c : Nat) : Int)) = true := g289
          assumption
         ·
          intro g290
          have g290p0 : (has (Dep.From (List.getD out2 i Dep.zero)) ((c : Nat) : Int)) = true := g290
          assumption
         ·
          intro g291
          have g291p0 : (has (Dep.From (List.getD out2 i Dep.zero)) ((c : Nat) : Int)) = true := g291
          omega
         ·
          intro g292
          have g292p0 : (has (Dep.From (List.getD out2 i Dep.zero)) ((c : Nat) : Int)) = true := g292
          have := bit_in (c := c) (by omega); first | omega | (have hq := hI3.1.at (i := i) (by omega); omega)
         ·
          intro g293
          have g293p0 : (has (Dep.From (List.getD out2 i Dep.zero)) ((c : Nat) : Int)) = true := g293
          assumption
         ·
          intro g294
          have g294p0 : (has (Dep.From (List.getD out2 i Dep.zero)) ((c : Nat) : Int)) = true := g294
          assumption
         ·
          intro g295
          have g295p0 : (has (Dep.From (List.getD out2 i Dep.zero)) ((c : Nat) : Int)) = true := g295
          have := bit_in (c := c) (by omega); first | omega | (have hq := hI3.1.at (i := i) (by omega); omega)
         ·
          intro g296
          have g296p0 : (has (Dep.From (List.getD out2 i Dep.zero)) ((c : Nat) : Int)) = true := g296
          assumption
         ·
          intro g297
          have g297p0 : (has (Dep.From (List.getD out2 i Dep.zero)) ((c : Nat) : Int)) = true := g297
          assumption
         ·
          intro g298
          have g298p0 : (has (Dep.From (List.getD out2 i Dep.zero)) ((c : Nat) : Int)) = true := g298
          omega
         ·
          intro g299
          have g299p0 : (has (Dep.From (List.getD out2 i Dep.zero)) ((c : Nat) : Int)) = true := g299
          assumption
         ·
          intro g300
          have g300p0 : (has (Dep.From (List.getD out2 i Dep.zero)) ((c : Nat) : Int)) = true := g300
          assumption
         ·
          intro g301
          have g301p0 : (has (Dep.From (List.getD out2 i Dep.zero)) ((c : Nat) : Int)) = true := g301
          assumption
         ·
          intro g302
          have g302p0 : (has (Dep.From (List.getD out2 i Dep.zero)) ((c : Nat) : Int)) = true := g302
          assumption
         ·
          intro g303
          have g303p0 : (has (Dep.From (List.getD out2 i Dep.zero)) ((c : Nat) : Int)) = true := g303
          assumption
         ·
          intro g304
          have g304p0 : (has (Dep.From (List.getD out2 i Dep.zero)) ((c : Nat) : Int)) = true := g304
          assumption
         ·
          intro g305
          have g305p0 : (has (Dep.From (List.getD out2 i Dep.zero)) ((c : Nat) : Int)) = true := g305
          exact ⟨⟨has_sub (hI3.1.at (by omega)).1 (by omega) (by assumption), (hI3.1.at (by omega)).2⟩, hI3.1⟩
         ·
          intro g306
          have g306p0 : (has (Dep.From (List.getD out2 i Dep.zero)) ((c : Nat) : Int)) = true := g306
          assumption
        refine AW.cd (bif (has (Dep.From (List.getD out2 i Dep.zero)) ((c : Nat) : Int)) then (implies out2 (Dep.mk ((Dep.From (List.getD out2 i Dep.zero)) - ((1 : Int) * 2 ^ c)) (Dep.To (List.getD out2 i Dep.zero)))) else false) ?_ ?_
        ·
         intro h307
         have h307q : ((has (Dep.From (List.getD out2 i Dep.zero)) ((c : Nat) : Int)) = true) ∧ ((implies out2 (Dep.mk ((Dep.From (List.getD out2 i Dep.zero)) - ((1 : Int) * 2 ^ c)) (Dep.To (List.getD out2 i Dep.zero)))) = true) := (And.imp (fun h => h) (fun h => h) (Go.Am.and_pos h307))
         have e308 := e283.trans (Go.Am.bif_t h307)
         refine AW.wf_arr (id := 48) (ep := 1) (t := (.named 0)) (xs := (out2 : List Dep)) (by kernel_rfl) fun ha309 _ => ?_
         replace ha309 : ((List.length out2 : Nat) : Int) ≤ 4294967296 := ha309
         refine AW.d0U hC hM [1, 5, 8, 9] [48] [] [(48, .arr 1 (.named 0) ((List.set out2 i (Dep.mk ((Dep.From (List.getD out2 i Dep.zero)) - ((1 : Int) * 2 ^ c)) (Dep.To (List.getD out2 i Dep.zero)))) : List Dep))] [(0 ≤ ((i : Nat) : Int) ∧ ((i : Nat) : Int) < ((List.length out2 : Nat) : Int)), (0 ≤ ((c : Nat) : Int) ∧ ((c : Nat) : Int) ≤ 64), (-9223372036854775808 ≤ ((1 : Int) * 2 ^ c) ∧ ((1 : Int) * 2 ^ c) ≤ 9223372036854775807), (-9223372036854775808 ≤ ((Dep.From (List.getD out2 i Dep.zero)) - ((1 : Int) * 2 ^ c)) ∧ ((Dep.From (List.getD out2 i Dep.zero)) - ((1 : Int) * 2 ^ c)) ≤ 9223372036854775807), (0 ≤ ((i : Nat) : Int) ∧ ((i : Nat) : Int) < ((List.length out2 : Nat) : Int))] ?_ ?_
         ·
          refine ⟨?_, ?_, ?_, ?_, ?_, trivial⟩
          ·
           omega
          ·
           omega
          ·
           have := bit_in (c := c) (by omega); first | omega | (have hq := hI3.1.at (i := i) (by omega); omega)
          ·
           have := bit_in (c := c) (by omega); first | omega | (have hq := hI3.1.at (i := i) (by omega); omega)
          ·
           omega
         refine AW.wf_arr (id := 48) (ep := 1) (t := (.named 0)) (xs := ((List.set out2 i (Dep.mk ((Dep.From (List.getD out2 i Dep.zero)) - ((1 : Int) * 2 ^ c)) (Dep.To (List.getD out2 i Dep.zero)))) : List Dep)) (by kernel_rfl) fun ha310 _ => ?_
         replace ha310 : ((List.length (List.set out2 i (Dep.mk ((Dep.From (List.getD out2 i Dep.zero)) - ((1 : Int) * 2 ^ c)) (Dep.To (List.getD out2 i Dep.zero)))) : Nat) : Int) ≤ 4294967296 := ha310
         refine AW.r0U hC [1, 5, 8, 9] [48] [(9, .int .i64 ((c + 1 : Nat) : Int))] [] [(-9223372036854775808 ≤ ((c + 1 : Nat) : Int) ∧ ((c + 1 : Nat) : Int) ≤ 9223372036854775807)] ?_ ?_
         ·
          refine ⟨?_, trivial⟩
          ·
           omega
         refine AW.back (x := (c, out2)) (c + 1, (List.set out2 i (Dep.mk ((Dep.From (List.getD out2 i Dep.zero)) - ((1 : Int) * 2 ^ c)) (Dep.To (List.getD out2 i Dep.zero))))) (by kernel_rfl) ⟨?_, k280q, ?_, e308⟩ ?_
         ·
          show OKL (List.set out2 i (Dep.mk ((Dep.From (List.getD out2 i Dep.zero)) - ((1 : Int) * 2 ^ c)) (Dep.To (List.getD out2 i Dep.zero)))) ∧ List.length (List.set out2 i (Dep.mk ((Dep.From (List.getD out2 i Dep.zero)) - ((1 : Int) * 2 ^ c)) (Dep.To (List.getD out2 i Dep.zero)))) = List.length out1
          exact ⟨hI3.1.set _ ⟨has_sub (hI3.1.at (by omega)).1 (by omega) h307q.1, (hI3.1.at (by omega)).2⟩, by rw [List.length_set]; exact hI3.2⟩
         ·
          show Int.toNat (width - (((c + 1) : Nat) : Int)) < k280q
          omega
         ·
          show Int.toNat (width - (((c + 1) : Nat) : Int)) < Int.toNat (width - ((c : Nat) : Int))
          omega
        ·
         intro h311
         have h311q : ((has (Dep.From (List.getD out2 i Dep.zero)) ((c : Nat) : Int)) = false) ∨ ((implies out2 (Dep.mk ((Dep.From (List.getD out2 i Dep.zero)) - ((1 : Int) * 2 ^ c)) (Dep.To (List.getD out2 i Dep.zero)))) = false) := (Or.imp (fun h => h) (fun h => h) (Go.Am.and_neg h311))
         have e312 := e283.trans (Go.Am.bif_f h311)
         refine AW.kpU [1, 5, 8, 9] [48] [] [] ?_
         refine AW.skip (AW.wf_arr (id := 48) (ep := 1) (t := (.named 0)) (xs := (out2 : List Dep)) (by kernel_rfl) fun ha313 _ => ?_)
         replace ha313 : ((List.length out2 : Nat) : Int) ≤ 4294967296 := ha313
         refine AW.r0U hC [1, 5, 8, 9] [48] [(9, .int .i64 ((c + 1 : Nat) : Int))] [] [(-9223372036854775808 ≤ ((c + 1 : Nat) : Int) ∧ ((c + 1 : Nat) : Int) ≤ 9223372036854775807)] ?_ ?_
         ·
          refine ⟨?_, trivial⟩
          ·
           omega
         refine AW.back (x := (c, out2)) (c + 1, out2) (by kernel_rfl) ⟨?_, k280q, ?_, e312⟩ ?_
         ·
          show OKL out2 ∧ List.length out2 = List.length out1
          exact hI3
         ·
          show Int.toNat (width - (((c + 1) : Nat) : Int)) < k280q
          omega
         ·
          show Int.toNat (width - (((c + 1) : Nat) : Int)) < Int.toNat (width - ((c : Nat) : Int))
          omega
       ·
        intro h314
        have h314q : ¬ (((c : Nat) : Int) < width) := (of_decide_eq_false h314)
        have e315 := e279.trans (Go.Am.bif_f h314)
        refine AW.kpU [1, 5, 8] [48] [] [] ?_
        refine AW.exit ?_
        refine AW.meet out2 (by kernel_rfl) ⟨?_, e315⟩
        show OKL out2 ∧ List.length out2 = List.length out1
        exact hI3
     ·
      intro out2 hR
      obtain ⟨hJ3, e316⟩ := hR
      replace hJ3 : OKL out2 ∧ List.length out2 = List.length out1 := hJ3
      have e317 := e276.trans (Go.Am.then_eq e316)
      refine AW.wf_arr (id := 48) (ep := 1) (t := (.named 0)) (xs := (out2 : List Dep)) (by kernel_rfl) fun ha318 _ => ?_
      replace ha318 : ((List.length out2 : Nat) : Int) ≤ 4294967296 := ha318
      refine AW.r0U hC [1, 5, 8] [48] [(8, .int .i64 ((i + 1 : Nat) : Int))] [] [(-9223372036854775808 ≤ ((i + 1 : Nat) : Int) ∧ ((i + 1 : Nat) : Int) ≤ 9223372036854775807)] ?_ ?_
      ·
       refine ⟨?_, trivial⟩
       ·
        omega
      refine AW.back (x := (i, out1)) (i + 1, out2) (by kernel_rfl) ⟨?_, k273q, ?_, e317⟩ ?_
      ·
       show OKL out2 ∧ List.length out2 ≤ 48
       exact ⟨hJ3.1, by omega⟩
      ·
       show (List.length out2) - (i + 1) < k273q
       omega
      ·
       show (List.length out2) - (i + 1) < (List.length out1) - i
       omega
    ·
     intro h319
     have h319q : ¬ (((i : Nat) : Int) < ((List.length out1 : Nat) : Int)) := (of_decide_eq_false h319)
     have e320 := e272.trans (Go.Am.bif_f h319)
     refine AW.kpU [5] [48] [] [] ?_
     refine AW.exit ?_
     refine AW.meet out1 (by kernel_rfl) ⟨?_, e320⟩
     show OKL out1 ∧ List.length out1 ≤ 48
     assumption
  ·
   intro out1 hR
   obtain ⟨hJ2, e321⟩ := hR
   replace hJ2 : OKL out1 ∧ List.length out1 ≤ 48 := hJ2
   have e322 := e155.trans (Go.Am.then_eq e321)
   refine AW.seq (AW.seq (AW.wf_arr (id := 48) (ep := 1) (t := (.named 0)) (xs := (out1 : List Dep)) (by kernel_rfl) fun ha323 _ => ?_))
   replace ha323 : ((List.length out1 : Nat) : Int) ≤ 4294967296 := ha323
   refine AW.frz 48 ⟨[(5, .data (.slice (.named 0)) (out1 : List Dep))], []⟩ (by kernel_rfl) ?_
   refine AW.r1U hC [5, 10] [] [(10, .int .i64 0)] [] ?_
   refine AW.cutQ (α := (List Dep)) (fun x => ⟨[(5, .data (.slice (.named 0)) (x : List Dep))], []⟩) (fun x => (OKL x ∧ List.length x ≤ 48) ∧ (minimalCover_l4 (List.length out1 - 0 + 1) out1 0) = x) ?_ ?_
   ·
    skip
    refine AW.block (AW.loop (α := (List Dep) × Nat) (fun x => ⟨[(5, .data (.slice (.named 0)) (x.1 : List Dep)), (10, .int .i64 ((x.2 : Nat) : Int))], []⟩) (fun x => (OKL x.1 ∧ List.length x.1 ≤ 48) ∧ ∃ k, List.length x.1 - x.2 < k ∧ (minimalCover_l4 (List.length out1 - 0 + 1) out1 0) = minimalCover_l4 k x.1 x.2) (fun x => List.length x.1 - x.2) (out1, 0) (by kernel_rfl) ⟨?_, _, Nat.lt_succ_self _, rfl⟩ ?_)
    ·
     show OKL out1 ∧ List.length out1 ≤ 48
     exact hJ2
    ·
     intro x hR
     obtain ⟨out2, i⟩ := x
     obtain ⟨hI4, k359, hk357, e358⟩ := hR
     replace hI4 : OKL out2 ∧ List.length out2 ≤ 48 := hI4
     replace hk357 : List.length out2 - i < k359 := hk357
     obtain ⟨k359q, rfl⟩ : ∃ k, k359 = k + 1 := ⟨k359 - 1, by omega⟩
     refine AW.seq (AW.seq (AW.r1U hC [5, 10, 103] [] [(103, .bool (decide (((i : Nat) : Int) < ((List.length out2 : Nat) : Int))))] [] ?_))
     refine AW.cd (decide (((i : Nat) : Int) < ((List.length out2 : Nat) : Int))) ?_ ?_
     ·
      intro h360
      have h360q : ((i : Nat) : Int) < ((List.length out2 : Nat) : Int) := (of_decide_eq_true h360)
      have e361 := e358.trans (Go.Am.bif_t h360)
      refine AW.kpU [5, 10] [] [] [] ?_
      refine AW.skip (AW.block (AW.seq (AW.d0U hC hM [5, 10, 11] [416] [(11, .arr 416 1)] [(416, .arr 1 (.named 0) (((([] : List Dep) ++ (List.take i out2)) ++ (List.drop (i + 1) out2)) : List Dep))] [(0 ≤ ((i : Nat) : Int) ∧ ((i : Nat) : Int) ≤ ((List.length out2 : Nat) : Int)), (0 + ((List.length (List.take i out2) : Nat) : Int) ≤ 4294967296), (-9223372036854775808 ≤ ((i + 1 : Nat) : Int) ∧ ((i + 1 : Nat) : Int) ≤ 9223372036854775807), (0 ≤ ((i + 1 : Nat) : Int) ∧ ((i + 1 : Nat) : Int) ≤ ((List.length out2 : Nat) : Int)), (((List.length (([] : List Dep) ++ (List.take i out2)) : Nat) : Int) + ((List.length (List.drop (i + 1) out2) : Nat) : Int) ≤ 4294967296)] ?_ ?_)))
      ·
       refine ⟨?_, ?_, ?_, ?_, ?_, trivial⟩
       ·
        omega
       ·
        simp only [List.length_append, List.length_cons, List.length_nil, List.length_take, List.length_drop]
        omega
       ·
        omega
       ·
        omega
       ·
        simp only [List.length_append, List.length_cons, List.length_nil, List.length_take, List.length_drop]
        omega
      refine AW.seq (AW.wf_arr (id := 416) (ep := 1) (t := (.named 0)) (xs := (((([] : List Dep) ++ (List.take i out2)) ++ (List.drop (i + 1) out2)) : List Dep)) (by kernel_rfl) fun ha362 _ => ?_)
      replace ha362 : ((List.length ((([] : List Dep) ++ (List.take i out2)) ++ (List.drop (i + 1) out2)) : Nat) : Int) ≤ 4294967296 := ha362
      refine AW.r0U hC [5, 10, 11, 119] [416] [(119, .bool (implies ((([] : List Dep) ++ (List.take i out2)) ++ (List.drop (i + 1) out2)) (List.getD out2 i Dep.zero)))] [] [(0 ≤ ((i : Nat) : Int) ∧ ((i : Nat) : Int) < ((List.length out2 : Nat) : Int)), (((0 ≤ (List.getD out2 i Dep.zero).From ∧ (List.getD out2 i Dep.zero).From < 64) ∧ (0 ≤ (List.getD out2 i Dep.zero).To ∧ (List.getD out2 i Dep.zero).To < 64)) ∧ OKL ((([] : List Dep) ++ (List.take i out2)) ++ (List.drop (i + 1) out2)))] ?_ ?_
      ·
       refine ⟨?_, ?_, trivial⟩
       ·
        omega
       ·
        exact ⟨hI4.1.at (by omega), hI4.1.rest2 _⟩
      refine AW.cd (implies ((([] : List Dep) ++ (List.take i out2)) ++ (List.drop (i + 1) out2)) (List.getD out2 i Dep.zero)) ?_ ?_
      ·
       intro h363
       have h363q : (implies ((([] : List Dep) ++ (List.take i out2)) ++ (List.drop (i + 1) out2)) (List.getD out2 i Dep.zero)) = true := h363
       have e364 := e361.trans (Go.Am.bif_t h363)
       refine AW.wf_arr (id := 416) (ep := 1) (t := (.named 0)) (xs := (((([] : List Dep) ++ (List.take i out2)) ++ (List.drop (i + 1) out2)) : List Dep)) (by kernel_rfl) fun ha365 _ => ?_
       replace ha365 : ((List.length ((([] : List Dep) ++ (List.take i out2)) ++ (List.drop (i + 1) out2)) : Nat) : Int) ≤ 4294967296 := ha365
       refine AW.frz 416 ⟨[(5, .data (.slice (.named 0)) (out2 : List Dep)), (10, .int .i64 ((i : Nat) : Int)), (11, .data (.slice (.named 0)) (((([] : List Dep) ++ (List.take i out2)) ++ (List.drop (i + 1) out2)) : List Dep)), (119, .bool (implies ((([] : List Dep) ++ (List.take i out2)) ++ (List.drop (i + 1) out2)) (List.getD out2 i Dep.zero)))], []⟩ (by kernel_rfl) ?_
       refine AW.r1U hC [5, 10] [] [(5, .data (.slice (.named 0)) (((([] : List Dep) ++ (List.take i out2)) ++ (List.drop (i + 1) out2)) : List Dep))] [] ?_
       refine AW.back (x := (out2, i)) (((([] : List Dep) ++ (List.take i out2)) ++ (List.drop (i + 1) out2)), i) (by kernel_rfl) ⟨?_, k359q, ?_, e364⟩ ?_
       ·
        show OKL ((([] : List Dep) ++ (List.take i out2)) ++ (List.drop (i + 1) out2)) ∧ List.length ((([] : List Dep) ++ (List.take i out2)) ++ (List.drop (i + 1) out2)) ≤ 48
        exact ⟨hI4.1.rest2 _, by rw [rest_len (by omega)]; omega⟩
       ·
        show List.length ((([] : List Dep) ++ (List.take i out2)) ++ (List.drop (i + 1) out2)) - i < k359q
        rw [rest_len (by omega)]
        omega
       ·
        show List.length ((([] : List Dep) ++ (List.take i out2)) ++ (List.drop (i + 1) out2)) - i < List.length out2 - i
        rw [rest_len (by omega)]
        omega
      ·
       intro h366
       have h366q : (implies ((([] : List Dep) ++ (List.take i out2)) ++ (List.drop (i + 1) out2)) (List.getD out2 i Dep.zero)) = false := h366
       have e367 := e361.trans (Go.Am.bif_f h366)
       refine AW.wf_arr (id := 416) (ep := 1) (t := (.named 0)) (xs := (((([] : List Dep) ++ (List.take i out2)) ++ (List.drop (i + 1) out2)) : List Dep)) (by kernel_rfl) fun ha368 _ => ?_
       replace ha368 : ((List.length ((([] : List Dep) ++ (List.take i out2)) ++ (List.drop (i + 1) out2)) : Nat) : Int) ≤ 4294967296 := ha368
       refine AW.r0U hC [5, 10] [] [(10, .int .i64 ((i + 1 : Nat) : Int))] [] [(-9223372036854775808 ≤ ((i + 1 : Nat) : Int) ∧ ((i + 1 : Nat) : Int) ≤ 9223372036854775807)] ?_ ?_
       ·
        refine ⟨?_, trivial⟩
        ·
         omega
       refine AW.back (x := (out2, i)) (out2, i + 1) (by kernel_rfl) ⟨?_, k359q, ?_, e367⟩ ?_
       ·
        show OKL out2 ∧ List.length out2 ≤ 48
        exact hI4
       ·
        show List.length out2 - (i + 1) < k359q
        omega
       ·
        show List.length out2 - (i + 1) < List.length out2 - i
        omega
     ·
      intro h369
      have h369q : ¬ (((i : Nat) : Int) < ((List.length out2 : Nat) : Int)) := (of_decide_eq_false h369)
      have e370 := e358.trans (Go.Am.bif_f h369)
      refine AW.kpU [5] [] [] [] ?_
      refine AW.exit ?_
      refine AW.meet out2 (by kernel_rfl) ⟨?_, e370⟩
      show OKL out2 ∧ List.length out2 ≤ 48
      assumption
   ·
    intro out2 hR
    obtain ⟨hJ4, e371⟩ := hR
    replace hJ4 : OKL out2 ∧ List.length out2 ≤ 48 := hJ4
    have e372 := e322.trans (Go.Am.then_eq e371)
    refine AW.seq (AW.r1 hC [4] [] ⟨[(4, .data (.slice (.named 0)) (out2 : List Dep))], []⟩ ?_)
    exact AW.ret (AW.retE (β := (List Dep)) (fun v => [⟨(.slice (.named 0)), v⟩]) (fun v => []) (v := out2) e372 (by kernel_rfl) rfl rfl)

def MinimalCover (fds : List Dep) (width : Int) : (List Dep) := (bif (!(validDependencies fds width)) then ([] : List Dep) else (minimalCover fds width))

def MinimalCover_sp : FnSpec := mkSpec [.val (.slice (.named 0)), .val (.int .i64)] [.val (.slice (.named 0))] (fun (fds : List Dep) (width : Int) => True) (fun (fds : List Dep) (width : Int) => [⟨(.slice (.named 0)), (MinimalCover fds width)⟩])

theorem MinimalCover_ok : FnOK Try.prog 33 MinimalCover_sp := by
 have hC : CtxOK Try.prog (mkCtx tyL [(36, validDependencies_sp), (55, minimalCover_sp)]) := CtxOK.cons validDependencies_ok (CtxOK.cons minimalCover_ok (CtxOK.nil tyOK))
 refine FnOK.of_body Try.func33 (by kernel_rfl) rfl (C := (mkCtx tyL [(36, validDependencies_sp), (55, minimalCover_sp)])) hC.ty (by kernel_rfl) ?_
 intro (fds : List Dep) (width : Int) hwf hpre E
 have hpre : True := hpre
 have hw_fds : Wf ⟨(.slice (.named 0)), (fds : List Dep)⟩ := hwf _ (List.Mem.head _)
 have hl_fds : ((List.length fds : Nat) : Int) ≤ 9223372036854775807 := hw_fds.len
 have hw_width : Wf ⟨(.int .i64), (width : Int)⟩ := hwf _ (List.Mem.tail _ (List.Mem.head _))
 have hr_width : -9223372036854775808 ≤ width ∧ width ≤ 9223372036854775807 := hw_width.int_inv
 have e0 : MinimalCover fds width = MinimalCover fds width := rfl
 refine AW.seq (AW.r1U hC [0, 1] [] [] [] ?_)
 refine AW.seq (AW.seq (AW.r0U hC [0, 1, 8] [] [(8, .bool (!(validDependencies fds width)))] [] [(True)] ?_ ?_))
 ·
  refine ⟨?_, trivial⟩
  ·
   trivial
 refine AW.cd (!(validDependencies fds width)) ?_ ?_
 ·
  intro h1
  have h1q : (validDependencies fds width) = false := (Go.Am.not_pos h1)
  have e2 := e0.trans (Go.Am.bif_t h1)
  refine AW.seq (AW.r1 hC [4] [] ⟨[(4, .nilsl)], []⟩ ?_)
  exact AW.ret (AW.retE (β := (List Dep)) (fun v => [⟨(.slice (.named 0)), v⟩]) (fun v => []) (v := ([] : List Dep)) e2 (by kernel_rfl) rfl rfl)
 ·
  intro h3
  have h3q : (validDependencies fds width) = true := (Go.Am.not_neg h3)
  have e4 := e0.trans (Go.Am.bif_f h3)
  refine AW.kpU [0, 1] [] [] [] ?_
  refine AW.skip (AW.seq (AW.r0 hC [4] [] ⟨[(4, .data (.slice (.named 0)) ((minimalCover fds width) : List Dep))], []⟩ [((1 ≤ width ∧ width ≤ 6) ∧ fds.length ≤ 8 ∧ OKL fds)] ?_ ?_))
  ·
   refine ⟨?_, trivial⟩
   ·
    exact deps_ok (by rw [← valid_eq]; first | exact h3q | exact trivial | assumption)
  exact AW.ret (AW.retE (β := (List Dep)) (fun v => [⟨(.slice (.named 0)), v⟩]) (fun v => []) (v := (minimalCover fds width)) e4 (by kernel_rfl) rfl rfl)

end
end Go.Proofs.Ytmijmkbnmcmgcaa
