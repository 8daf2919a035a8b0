/-
  A part of the proof of this claim (AxJ): what functions of the program compute, and plain facts of that. No conditions.
-/
import Derived.Test.YtgbapklfgjnggaaAx6
import Derived.Test.YtgbapklfgjnggaaAxI
set_option linter.all false
namespace Go.Proofs.Ytgbapklfgjnggaa
open Go Go.Am
noncomputable section

def CB (c : List Int) : Prop := ∀ j : Nat, 0 ≤ c.getD j 0 ∧ c.getD j 0 ≤ 1000000000000000 * ((j - 1 : Nat) : Int)

theorem part_facts : ∀ m p : Fin 32, 1 ≤ p.val → p.val < m.val → bits .andNot .i64 (p.val : Int) (m.val : Int) = 0 → 1 ≤ bits .andNot .i64 (m.val : Int) (p.val : Int) ∧ (p.val : Int) + bits .andNot .i64 (m.val : Int) (p.val : Int) = (m.val : Int) := by decide +kernel

theorem part_rest {m p : Int} (hm : m < 32) (h : 1 ≤ p ∧ p < m ∧ bits .andNot .i64 p m = 0) : 1 ≤ bits .andNot .i64 m p ∧ p + bits .andNot .i64 m p = m := by
 obtain ⟨m', rfl⟩ := Int.eq_ofNat_of_zero_le (show 0 ≤ m by omega)
 obtain ⟨p', rfl⟩ := Int.eq_ofNat_of_zero_le (show 0 ≤ p by omega)
 exact part_facts ⟨m', by omega⟩ ⟨p', by omega⟩ (by show 1 ≤ p'; omega) (by show p' < m'; omega) h.2.2

theorem gAll_b {g : Graph} (h : VG g) : 1 ≤ gAll g ∧ gAll g ≤ 31 := by
 have h1 := h.n1
 have h5 := h.n5
 unfold gAll
 have : ∀ n : Fin 6, 1 ≤ n.val → (1 : Int) ≤ 1 * 2 ^ n.val - 1 ∧ (1 : Int) * 2 ^ n.val - 1 ≤ 31 := by decide
 exact this ⟨g.Rows.length, by omega⟩ h1

theorem CB.set {c : List Int} (h : CB c) {i : Nat} {v : Int} (h0 : 0 ≤ v) (h1 : v ≤ 1000000000000000 * ((i - 1 : Nat) : Int)) : CB (List.set c i v) := by
 intro j
 rw [List.getD_eq_getElem?_getD, List.getElem?_set]
 split
 ·
  rename_i e
  subst e
  split
  ·
   exact ⟨h0, h1⟩
  ·
   simp; omega
 ·
  have := h j
  rwa [List.getD_eq_getElem?_getD] at this

theorem CB.zero (n : Nat) : CB (List.replicate n 0) := by
 intro j
 rw [List.getD_eq_getElem?_getD, List.getElem?_replicate]
 split <;> simp <;> omega

def bestCosts_l1 (g : Graph) (mask : Nat) : List Int → (List Int) → (List Int) → (List Int) × (List Int)
 | [], ar401, ar561 => (ar401, ar561)
 | v23 :: l, ar401, ar561 => (bif (bif ((List.getD ar561 mask 0) == 0) then true else (decide ((((gSize g ((mask : Nat) : Int)) + (List.getD ar401 (Int.toNat v23) 0)) + (List.getD ar401 (Int.toNat (bits .andNot .i64 ((mask : Nat) : Int) v23)) 0)) < (List.getD ar401 mask 0)))) then (bestCosts_l1 g mask l (List.set ar401 mask (((gSize g ((mask : Nat) : Int)) + (List.getD ar401 (Int.toNat v23) 0)) + (List.getD ar401 (Int.toNat (bits .andNot .i64 ((mask : Nat) : Int) v23)) 0))) (List.set ar561 mask v23)) else (bestCosts_l1 g mask l ar401 ar561))

def bestCosts_l0 (g : Graph) : Nat → Nat → (List Int) → (List Int) → (List Int) × (List Int)
 | 0, mask, ar40, ar56 => (ar40, ar56)
 | k + 1, mask, ar40, ar56 => (bif (decide (((mask : Nat) : Int) ≤ (gAll g))) then (Go.Am.andThen (bestCosts_l1 g mask (parts ((mask : Nat) : Int)) ar40 ar56) (fun z => (fun (ar401 : List Int) (ar561 : List Int) => (bestCosts_l0 g k (mask + 1) ar401 ar561)) z.1 z.2)) else (ar40, ar56))

def bestCosts (g : Graph) : (List Int) × (List Int) := (Go.Am.andThen (bestCosts_l0 g (Int.toNat (gAll g + 1 - (1 : Int)) + 1) 1 (List.replicate (Int.toNat ((gAll g) + 1)) 0 : List Int) (List.replicate (Int.toNat ((gAll g) + 1)) 0 : List Int)) (fun z => (fun (ar40 : List Int) (ar56 : List Int) => (ar40, ar56)) z.1 z.2))

def bestCosts_sp : FnSpec := mkSpec [.rd (.named 1)] [.own (.int .i64), .own (.int .i64)] (fun (g : Graph) => VG g) (fun (g : Graph) => [⟨(.slice (.int .i64)), ((bestCosts g).1)⟩, ⟨(.slice (.int .i64)), ((bestCosts g).2)⟩])

theorem bestCosts_ok : FnOK Try.prog 62 bestCosts_sp := by
 have hC : CtxOK Try.prog (mkCtx tyL [(53, gAll_sp), (54, gSize_sp)]) := CtxOK.cons gAll_ok (CtxOK.cons gSize_ok (CtxOK.nil tyOK))
 have hM : Try.prog.follows .mixedOrders = true := Try.checked.mixed
 have hC1 := hC.rebase 1000
 refine FnOK.of_bodyR Try.func62 (by kernel_rfl) rfl (C := (mkCtx tyL [(53, gAll_sp), (54, gSize_sp)])) hC.ty (by kernel_rfl) ?_
 intro (g : Graph) hwf hpre E hro
 have hpre : VG g := hpre
 have hw_g : Wf ⟨(.named 1), (g : Graph)⟩ := hwf _ (List.Mem.head _)
 have hl_g_Rows : ((List.length (Graph.Rows g) : Nat) : Int) ≤ 9223372036854775807 := (hw_g.field (tv := ⟨(.slice (.int .i64)), Graph.Rows g⟩) (List.Mem.head _)).len
 have hl_g_Edges : ((List.length (Graph.Edges g) : Nat) : Int) ≤ 9223372036854775807 := (hw_g.field (tv := ⟨(.slice (.named 0)), Graph.Edges g⟩) (List.Mem.tail _ (List.Mem.head _))).len
 have hA := gAll_b hpre
 have hn5 := hpre.n5
 have e0 : bestCosts g = bestCosts g := rfl
 refine AW.seq (AW.r1 hC [1, 2, 3] [4, 8, 12] ⟨[(1, .ref 4 1 0), (2, .ref 8 1 0), (3, .ref 12 1 0)], [(4, .box 1 [.dref (.named 1) (g : Graph)]), (8, .box 1 [.nilsl]), (12, .box 1 [.nilsl])]⟩ ?_)
 refine AW.seq (AW.r0U hC [1, 2, 3] [4, 8, 12, 40] [] [(8, .box 1 [.arr 40 1]), (40, .arr 1 (.int .i64) ((List.replicate (Int.toNat ((gAll g) + 1)) 0 : List Int) : List Int))] [(g.Rows.length ≤ 40), (-9223372036854775808 ≤ ((gAll g) + 1) ∧ ((gAll g) + 1) ≤ 9223372036854775807), (0 ≤ ((gAll g) + 1) ∧ ((gAll g) + 1) ≤ ((gAll g) + 1) ∧ ((gAll g) + 1) ≤ 4294967296)] ?_ ?_)
 ·
  refine ⟨?_, ?_, ?_, trivial⟩
  ·
   omega
  ·
   omega
  ·
   omega
 refine AW.seq (AW.r0U hC [1, 2, 3] [4, 8, 12, 40, 56] [] [(12, .box 1 [.arr 56 1]), (56, .arr 1 (.int .i64) ((List.replicate (Int.toNat ((gAll g) + 1)) 0 : List Int) : List Int))] [(g.Rows.length ≤ 40), (-9223372036854775808 ≤ ((gAll g) + 1) ∧ ((gAll g) + 1) ≤ 9223372036854775807), (0 ≤ ((gAll g) + 1) ∧ ((gAll g) + 1) ≤ ((gAll g) + 1) ∧ ((gAll g) + 1) ≤ 4294967296)] ?_ ?_)
 ·
  refine ⟨?_, ?_, ?_, trivial⟩
  ·
   omega
  ·
   omega
  ·
   omega
 refine AW.seq (AW.seq (AW.r1U hC [1, 2, 3, 4] [4, 8, 12, 16, 40, 56] [(4, .ref 16 1 0)] [(16, .box 1 [.int .i64 1])] ?_))
 refine AW.cutQ (α := (List Int) × (List Int)) (fun x => ⟨[(2, .ref 8 1 0), (3, .ref 12 1 0)], [(8, .box 1 [.arr 40 1]), (12, .box 1 [.arr 56 1]), (40, .arr 1 (.int .i64) (x.1 : List Int)), (56, .arr 1 (.int .i64) (x.2 : List Int))]⟩) (fun x => ((List.length x.1 = Int.toNat (gAll g + 1) ∧ List.length x.2 = Int.toNat (gAll g + 1)) ∧ CB x.1) ∧ (bestCosts_l0 g (Int.toNat (gAll g + 1 - (1 : Int)) + 1) 1 (List.replicate (Int.toNat ((gAll g) + 1)) 0 : List Int) (List.replicate (Int.toNat ((gAll g) + 1)) 0 : List Int)) = x) ?_ ?_
 ·
  skip
  refine AW.block (AW.loop (α := Nat × (List Int) × (List Int)) (fun x => ⟨[(1, .ref 4 1 0), (2, .ref 8 1 0), (3, .ref 12 1 0), (4, .ref 16 1 0)], [(4, .box 1 [.dref (.named 1) (g : Graph)]), (8, .box 1 [.arr 40 1]), (12, .box 1 [.arr 56 1]), (16, .box 1 [.int .i64 ((x.1 : Nat) : Int)]), (40, .arr 1 (.int .i64) (x.2.1 : List Int)), (56, .arr 1 (.int .i64) (x.2.2 : List Int))]⟩) (fun x => (((List.length x.2.1 = Int.toNat (gAll g + 1) ∧ List.length x.2.2 = Int.toNat (gAll g + 1)) ∧ CB x.2.1) ∧ 1 ≤ x.1) ∧ ∃ k, Int.toNat (gAll g + 1 - (x.1 : Int)) < k ∧ (bestCosts_l0 g (Int.toNat (gAll g + 1 - (1 : Int)) + 1) 1 (List.replicate (Int.toNat ((gAll g) + 1)) 0 : List Int) (List.replicate (Int.toNat ((gAll g) + 1)) 0 : List Int)) = bestCosts_l0 g k x.1 x.2.1 x.2.2) (fun x => Int.toNat (gAll g + 1 - (x.1 : Int))) (1, (List.replicate (Int.toNat ((gAll g) + 1)) 0 : List Int), (List.replicate (Int.toNat ((gAll g) + 1)) 0 : List Int)) (by kernel_rfl) ⟨?_, _, Nat.lt_succ_self _, rfl⟩ ?_)
  ·
   show ((List.length (List.replicate (Int.toNat ((gAll g) + 1)) 0 : List Int) = Int.toNat (gAll g + 1) ∧ List.length (List.replicate (Int.toNat ((gAll g) + 1)) 0 : List Int) = Int.toNat (gAll g + 1)) ∧ CB (List.replicate (Int.toNat ((gAll g) + 1)) 0 : List Int)) ∧ 1 ≤ 1
   exact ⟨⟨⟨by simp, by simp⟩, CB.zero _⟩, Nat.le_refl _⟩
  ·
   intro x hR
   obtain ⟨mask, ar40, ar56⟩ := x
   obtain ⟨hI0, k81, hk79, e80⟩ := hR
   replace hI0 : ((List.length ar40 = Int.toNat (gAll g + 1) ∧ List.length ar56 = Int.toNat (gAll g + 1)) ∧ CB ar40) ∧ 1 ≤ mask := hI0
   replace hk79 : Int.toNat (gAll g + 1 - (mask : Int)) < k81 := hk79
   obtain ⟨k81q, rfl⟩ : ∃ k, k81 = k + 1 := ⟨k81 - 1, by omega⟩
   refine AW.seq (AW.seq (AW.d0U hC hM [1, 2, 3, 4, 18] [4, 8, 12, 16, 40, 56] [(18, .bool (decide (((mask : Nat) : Int) ≤ (gAll g))))] [] [(g.Rows.length ≤ 40)] ?_ ?_))
   ·
    refine ⟨?_, trivial⟩
    ·
     omega
   refine AW.cd (decide (((mask : Nat) : Int) ≤ (gAll g))) ?_ ?_
   ·
    intro h82
    have h82q : ((mask : Nat) : Int) ≤ (gAll g) := (of_decide_eq_true h82)
    have e83 := e80.trans (Go.Am.bif_t h82)
    refine AW.kpU [1, 2, 3, 4] [4, 8, 12, 16, 40, 56] [] [] ?_
    refine AW.skip (AW.seq (AW.block (AW.seq (AW.regionO [0, 1] (by rfl) ?_))))
    refine AWO.runU hC false [] [0] [1] [1, 2, 3, 4, 21] [4, 8, 12, 16, 40, 56]
     [(21, .int .i64 ((mask : Nat) : Int))] []
     [] (by rfl) (by kernel_rfl) ?_ ?_
    ·
     exact trivial
    refine AWO.call hC.ty (vs := [.int .i64 ((mask : Nat) : Int)]) (caps := []) (by rfl) rfl (.inl rfl) (by decide) (by kernel_rfl) (by kernel_rfl) Try.func65 (by kernel_rfl) rfl (by kernel_rfl) ?_
    intro o1 ho1
    refine AW.kpU [0, 1001, 1002, 1003, 1004] [4, 8, 12, 16, 40, 56] [] [] ?_
    refine AW.seq (AW.r1U hC1 [1, 1001, 1002, 1003, 1004] [4, 8, 12, 16, 40, 56, 4004] [(1, .ref 4004 1 0)] [(4004, .box 1 [.int .i64 ((mask : Nat) : Int)])] ?_)
    refine AW.seq (AW.r1U hC1 [2, 1001, 1002, 1003, 1004] [4, 8, 12, 16, 40, 56, 4004] [(2, .clo 85 [.ref 4004 1 0])] [] ?_)
    refine AW.ret ?_
    refine ⟨[.clo 85 [.ref 4004 1 0]], by kernel_rfl, ?_⟩
    refine AWO.keep [1, 2, 3, 4, 22] [4, 8, 12, 16, 40, 56, 4004] ⟨[(1, .ref 4 1 0), (2, .ref 8 1 0), (3, .ref 12 1 0), (4, .ref 16 1 0), (22, .clo 85 [.ref 4004 1 0])], [(4, .box 1 [.dref (.named 1) (g : Graph)]), (8, .box 1 [.arr 40 1]), (12, .box 1 [.arr 56 1]), (16, .box 1 [.int .i64 ((mask : Nat) : Int)]), (40, .arr 1 (.int .i64) (ar40 : List Int)), (56, .arr 1 (.int .i64) (ar56 : List Int)), (4004, .box 1 [.int .i64 ((mask : Nat) : Int)])]⟩ (by kernel_rfl) ?_
    refine AWO.runU hC false [] [] [] [1, 2, 3, 4, 22] [4, 8, 12, 16, 40, 56, 4004]
     [] []
     [] (by rfl) (by kernel_rfl) ?_ ?_
    ·
     exact trivial
    refine AWO.nil ?_
    refine AW.block (AW.cutQ (α := (List Int) × (List Int)) (fun x => ⟨[(1, .ref 4 1 0), (2, .ref 8 1 0), (3, .ref 12 1 0), (4, .ref 16 1 0), (22, .clo 85 [.ref 4004 1 0])], [(4, .box 1 [.dref (.named 1) (g : Graph)]), (8, .box 1 [.arr 40 1]), (12, .box 1 [.arr 56 1]), (16, .box 1 [.int .i64 ((mask : Nat) : Int)]), (40, .arr 1 (.int .i64) (x.1 : List Int)), (56, .arr 1 (.int .i64) (x.2 : List Int)), (4004, .box 1 [.int .i64 ((mask : Nat) : Int)])]⟩) (fun x => ((List.length x.1 = Int.toNat (gAll g + 1) ∧ List.length x.2 = Int.toNat (gAll g + 1)) ∧ CB x.1) ∧ (bestCosts_l1 g mask (parts ((mask : Nat) : Int)) ar40 ar56) = x) ?_ ?_)
    ·
     skip
     refine AW.rangeFunc (α := (List Int) × (List Int)) hro Try.func85 rfl rfl (by rfl) (by decide) (fun x => ⟨[(1, .ref 4 1 0), (2, .ref 8 1 0), (3, .ref 12 1 0), (4, .ref 16 1 0), (22, .clo 85 [.ref 4004 1 0])], [(4, .box 1 [.dref (.named 1) (g : Graph)]), (8, .box 1 [.arr 40 1]), (12, .box 1 [.arr 56 1]), (16, .box 1 [.int .i64 ((mask : Nat) : Int)]), (40, .arr 1 (.int .i64) (x.1 : List Int)), (56, .arr 1 (.int .i64) (x.2 : List Int)), (4004, .box 1 [.int .i64 ((mask : Nat) : Int)])]⟩) (fun k x => ((List.length x.1 = Int.toNat (gAll g + 1) ∧ List.length x.2 = Int.toNat (gAll g + 1)) ∧ CB x.1) ∧ (bestCosts_l1 g mask (parts ((mask : Nat) : Int)) ar40 ar56) = bestCosts_l1 g mask (List.drop k (parts ((mask : Nat) : Int))) x.1 x.2) ((parts ((mask : Nat) : Int)).map (SV.int .i64)) ((parts ((mask : Nat) : Int)).map (Value.int .i64)) (by simp) (els_int_rep (fun y hy => parts_rng (by omega) hy)) [1, 2, 3, 4, 22] [4, 8, 12, 16, 40, 56, 4004] (fun x => by kernel_rfl) (fun cvs hl => parts_it (id := 4004) (ep := 1) (mask := ((mask : Nat) : Int)) (by omega) (fun x => by kernel_rfl) cvs hl) (ar40, ar56) (by kernel_rfl) ⟨?_, by rw [List.drop_zero]⟩ ?_ ?_
     ·
      show (List.length ar40 = Int.toNat (gAll g + 1) ∧ List.length ar56 = Int.toNat (gAll g + 1)) ∧ CB ar40
      exact hI0.1
     ·
      intro k x sv hsv hR E1
      obtain ⟨ar401, ar561⟩ := x
      obtain ⟨hI1, he96⟩ := hR
      replace hI1 : (List.length ar401 = Int.toNat (gAll g + 1) ∧ List.length ar561 = Int.toNat (gAll g + 1)) ∧ CB ar401 := hI1
      obtain ⟨v23, hd98, rfl, hy99⟩ := els_int hsv
      have e97 : (bestCosts_l1 g mask (parts ((mask : Nat) : Int)) ar40 ar56) = bestCosts_l1 g mask (v23 :: List.drop (k + 1) (parts ((mask : Nat) : Int))) ar401 ar561 := he96.trans (by rw [hd98])
      have hy99m := parts_mem hy99
      have hr := part_rest (by omega) hy99m
      have hs := gSize_b hpre ((mask : Nat) : Int)
      have c1 := hI1.2 (Int.toNat v23)
      have c2 := hI1.2 (Int.toNat (bits .andNot .i64 ((mask : Nat) : Int) v23))
      have hl := hI1.1
      refine AW.kp [1, 2, 3, 4, 22, 23, 1001, 1002, 1003, 1004, 1022] [4, 8, 12, 16, 40, 56, 4004] ⟨[(1, .ref 4 1 0), (2, .ref 8 1 0), (3, .ref 12 1 0), (4, .ref 16 1 0), (22, .clo 85 [.ref 4004 1 0]), (23, .int .i64 v23), (1001, .ref 4 1 0), (1002, .ref 8 1 0), (1003, .ref 12 1 0), (1004, .ref 16 1 0), (1022, .clo 85 [.ref 4004 1 0])], [(4, .box 1 [.dref (.named 1) (g : Graph)]), (8, .box 1 [.arr 40 1]), (12, .box 1 [.arr 56 1]), (16, .box 1 [.int .i64 ((mask : Nat) : Int)]), (40, .arr 1 (.int .i64) (ar401 : List Int)), (56, .arr 1 (.int .i64) (ar561 : List Int)), (4004, .box 1 [.int .i64 ((mask : Nat) : Int)])]⟩ ?_
      refine AW.r1U hC1 [1, 2, 3, 4, 5, 1001, 1002, 1003, 1004, 1022] [4, 8, 12, 16, 40, 56, 4004] [(5, .int .i64 v23)] [] ?_
      intro E99
      refine AW.block (AW.seq (AW.d0U hC1 hM [2, 3, 4, 5, 6, 1001, 1002, 1003, 1004, 1022] [4, 8, 12, 16, 40, 56, 4004] [(6, .int .i64 (((gSize g ((mask : Nat) : Int)) + (List.getD ar401 (Int.toNat v23) 0)) + (List.getD ar401 (Int.toNat (bits .andNot .i64 ((mask : Nat) : Int) v23)) 0)))] [] [(VG g ∧ True), (0 ≤ v23 ∧ v23 < ((List.length ar401 : Nat) : Int)), (-9223372036854775808 ≤ ((gSize g ((mask : Nat) : Int)) + (List.getD ar401 (Int.toNat v23) 0)) ∧ ((gSize g ((mask : Nat) : Int)) + (List.getD ar401 (Int.toNat v23) 0)) ≤ 9223372036854775807), (0 ≤ (bits .andNot .i64 ((mask : Nat) : Int) v23) ∧ (bits .andNot .i64 ((mask : Nat) : Int) v23) < ((List.length ar401 : Nat) : Int)), (-9223372036854775808 ≤ (((gSize g ((mask : Nat) : Int)) + (List.getD ar401 (Int.toNat v23) 0)) + (List.getD ar401 (Int.toNat (bits .andNot .i64 ((mask : Nat) : Int) v23)) 0)) ∧ (((gSize g ((mask : Nat) : Int)) + (List.getD ar401 (Int.toNat v23) 0)) + (List.getD ar401 (Int.toNat (bits .andNot .i64 ((mask : Nat) : Int) v23)) 0)) ≤ 9223372036854775807)] ?_ ?_))
      ·
       refine ⟨?_, ?_, ?_, ?_, ?_, trivial⟩
       ·
        exact ⟨hpre, trivial⟩
       ·
        omega
       ·
        omega
       ·
        omega
       ·
        omega
      refine AW.seq (AW.r0U hC1 [2, 3, 4, 5, 6, 51, 1001, 1002, 1003, 1004, 1022] [4, 8, 12, 16, 40, 56, 4004] [(51, .bool (bif ((List.getD ar561 mask 0) == 0) then true else (decide ((((gSize g ((mask : Nat) : Int)) + (List.getD ar401 (Int.toNat v23) 0)) + (List.getD ar401 (Int.toNat (bits .andNot .i64 ((mask : Nat) : Int) v23)) 0)) < (List.getD ar401 mask 0)))))] [] [(0 ≤ ((mask : Nat) : Int) ∧ ((mask : Nat) : Int) < ((List.length ar561 : Nat) : Int)), ((((List.getD ar561 mask 0) == 0) = false) → ((((List.getD ar561 mask 0) == 0) = false))), ((((List.getD ar561 mask 0) == 0) = false) → ((((List.getD ar561 mask 0) == 0) = false))), ((((List.getD ar561 mask 0) == 0) = false) → (0 ≤ ((mask : Nat) : Int) ∧ ((mask : Nat) : Int) < ((List.length ar401 : Nat) : Int))), ((((List.getD ar561 mask 0) == 0) = false) → ((((List.getD ar561 mask 0) == 0) = false))), ((((List.getD ar561 mask 0) == 0) = false) → ((((List.getD ar561 mask 0) == 0) = false))), ((((List.getD ar561 mask 0) == 0) = false) → ((((List.getD ar561 mask 0) == 0) = false))), ((((List.getD ar561 mask 0) == 0) = false) → ((((List.getD ar561 mask 0) == 0) = false)))] ?_ ?_)
      ·
       refine ⟨?_, ?_, ?_, ?_, ?_, ?_, ?_, ?_, trivial⟩
       ·
        omega
       ·
        intro g100
        have g100p0 : (List.getD ar561 mask 0) ≠ 0 := (Go.Am.beq_neg g100)
        assumption
       ·
        intro g101
        have g101p0 : (List.getD ar561 mask 0) ≠ 0 := (Go.Am.beq_neg g101)
        assumption
       ·
        intro g102
        have g102p0 : (List.getD ar561 mask 0) ≠ 0 := (Go.Am.beq_neg g102)
        omega
       ·
        intro g103
        have g103p0 : (List.getD ar561 mask 0) ≠ 0 := (Go.Am.beq_neg g103)
        assumption
       ·
        intro g104
        have g104p0 : (List.getD ar561 mask 0) ≠ 0 := (Go.Am.beq_neg g104)
        assumption
       ·
        intro g105
        have g105p0 : (List.getD ar561 mask 0) ≠ 0 := (Go.Am.beq_neg g105)
        assumption
       ·
        intro g106
        have g106p0 : (List.getD ar561 mask 0) ≠ 0 := (Go.Am.beq_neg g106)
        assumption
      refine AW.cd (bif ((List.getD ar561 mask 0) == 0) then true else (decide ((((gSize g ((mask : Nat) : Int)) + (List.getD ar401 (Int.toNat v23) 0)) + (List.getD ar401 (Int.toNat (bits .andNot .i64 ((mask : Nat) : Int) v23)) 0)) < (List.getD ar401 mask 0)))) ?_ ?_
      ·
       intro h107
       have h107q : ((List.getD ar561 mask 0) = 0) ∨ ((((gSize g ((mask : Nat) : Int)) + (List.getD ar401 (Int.toNat v23) 0)) + (List.getD ar401 (Int.toNat (bits .andNot .i64 ((mask : Nat) : Int) v23)) 0)) < (List.getD ar401 mask 0)) := (Or.imp (fun h => (Go.Am.beq_pos h)) (fun h => (of_decide_eq_true h)) (Go.Am.or_pos h107))
       have e108 := e97.trans (Go.Am.bif_t h107)
       refine AW.d0U hC1 hM [1001, 1002, 1003, 1004, 1022] [4, 8, 12, 16, 40, 56, 4004] [] [(40, .arr 1 (.int .i64) ((List.set ar401 mask (((gSize g ((mask : Nat) : Int)) + (List.getD ar401 (Int.toNat v23) 0)) + (List.getD ar401 (Int.toNat (bits .andNot .i64 ((mask : Nat) : Int) v23)) 0))) : List Int)), (56, .arr 1 (.int .i64) ((List.set ar561 mask v23) : List Int))] [(0 ≤ ((mask : Nat) : Int) ∧ ((mask : Nat) : Int) < ((List.length ar401 : Nat) : Int)), (0 ≤ ((mask : Nat) : Int) ∧ ((mask : Nat) : Int) < ((List.length ar561 : Nat) : Int))] ?_ ?_
       ·
        refine ⟨?_, ?_, trivial⟩
        ·
         omega
        ·
         omega
       refine ⟨((List.set ar401 mask (((gSize g ((mask : Nat) : Int)) + (List.getD ar401 (Int.toNat v23) 0)) + (List.getD ar401 (Int.toNat (bits .andNot .i64 ((mask : Nat) : Int) v23)) 0))), (List.set ar561 mask v23)), by kernel_rfl, ?_, e108⟩
       show (List.length (List.set ar401 mask (((gSize g ((mask : Nat) : Int)) + (List.getD ar401 (Int.toNat v23) 0)) + (List.getD ar401 (Int.toNat (bits .andNot .i64 ((mask : Nat) : Int) v23)) 0))) = Int.toNat (gAll g + 1) ∧ List.length (List.set ar561 mask v23) = Int.toNat (gAll g + 1)) ∧ CB (List.set ar401 mask (((gSize g ((mask : Nat) : Int)) + (List.getD ar401 (Int.toNat v23) 0)) + (List.getD ar401 (Int.toNat (bits .andNot .i64 ((mask : Nat) : Int) v23)) 0)))
       exact ⟨⟨by rw [List.length_set]; exact hI1.1.1, by rw [List.length_set]; exact hI1.1.2⟩, hI1.2.set (by omega) (by omega)⟩
      ·
       intro h109
       have h109q : ((List.getD ar561 mask 0) ≠ 0) ∧ (¬ ((((gSize g ((mask : Nat) : Int)) + (List.getD ar401 (Int.toNat v23) 0)) + (List.getD ar401 (Int.toNat (bits .andNot .i64 ((mask : Nat) : Int) v23)) 0)) < (List.getD ar401 mask 0))) := (And.imp (fun h => (Go.Am.beq_neg h)) (fun h => (of_decide_eq_false h)) (Go.Am.or_neg h109))
       have e110 := e97.trans (Go.Am.bif_f h109)
       refine AW.kpU [1001, 1002, 1003, 1004, 1022] [4, 8, 12, 16, 40, 56, 4004] [] [] ?_
       refine AW.skip ?_
       refine ⟨(ar401, ar561), by kernel_rfl, ?_, e110⟩
       show (List.length ar401 = Int.toNat (gAll g + 1) ∧ List.length ar561 = Int.toNat (gAll g + 1)) ∧ CB ar401
       exact hI1
     ·
      intro x hR
      obtain ⟨ar401, ar561⟩ := x
      obtain ⟨hI1, he96⟩ := hR
      replace hI1 : (List.length ar401 = Int.toNat (gAll g + 1) ∧ List.length ar561 = Int.toNat (gAll g + 1)) ∧ CB ar401 := hI1
      have e97 : (bestCosts_l1 g mask (parts ((mask : Nat) : Int)) ar40 ar56) = bestCosts_l1 g mask [] ar401 ar561 := he96.trans (by rw [List.drop_of_length_le (by simp)])
      refine AW.meet (ar401, ar561) (by kernel_rfl) ⟨?_, e97⟩
      show (List.length ar401 = Int.toNat (gAll g + 1) ∧ List.length ar561 = Int.toNat (gAll g + 1)) ∧ CB ar401
      exact hI1
    ·
     intro x hR
     obtain ⟨ar401, ar561⟩ := x
     obtain ⟨hJ1, e111⟩ := hR
     replace hJ1 : (List.length ar401 = Int.toNat (gAll g + 1) ∧ List.length ar561 = Int.toNat (gAll g + 1)) ∧ CB ar401 := hJ1
     have e112 := e83.trans (Go.Am.then_eq e111)
     refine AW.seq (AW.seq (AW.r1U hC [1, 2, 3, 60] [4, 8, 12, 40, 56] [(60, .int .i64 ((mask : Nat) : Int))] [] ?_))
     refine AW.r1U hC [1, 2, 3, 4] [4, 8, 12, 16, 40, 56] [(4, .ref 16 1 0)] [(16, .box 1 [.int .i64 ((mask : Nat) : Int)])] ?_
     refine AW.r0U hC [1, 2, 3, 4] [4, 8, 12, 16, 40, 56] [] [(16, .box 1 [.int .i64 ((mask + 1 : Nat) : Int)])] [(-9223372036854775808 ≤ ((mask + 1 : Nat) : Int) ∧ ((mask + 1 : Nat) : Int) ≤ 9223372036854775807)] ?_ ?_
     ·
      refine ⟨?_, trivial⟩
      ·
       omega
     refine AW.back (x := (mask, ar40, ar56)) (mask + 1, ar401, ar561) (by kernel_rfl) ⟨?_, k81q, ?_, e112⟩ ?_
     ·
      show ((List.length ar401 = Int.toNat (gAll g + 1) ∧ List.length ar561 = Int.toNat (gAll g + 1)) ∧ CB ar401) ∧ 1 ≤ (mask + 1)
      exact ⟨hJ1, by omega⟩
     ·
      show Int.toNat (gAll g + 1 - ((mask + 1) : Int)) < k81q
      omega
     ·
      show Int.toNat (gAll g + 1 - ((mask + 1) : Int)) < Int.toNat (gAll g + 1 - (mask : Int))
      omega
   ·
    intro h113
    have h113q : ¬ (((mask : Nat) : Int) ≤ (gAll g)) := (of_decide_eq_false h113)
    have e114 := e80.trans (Go.Am.bif_f h113)
    refine AW.kpU [2, 3] [8, 12, 40, 56] [] [] ?_
    refine AW.exit ?_
    refine AW.meet (ar40, ar56) (by kernel_rfl) ⟨?_, e114⟩
    show (List.length ar40 = Int.toNat (gAll g + 1) ∧ List.length ar56 = Int.toNat (gAll g + 1)) ∧ CB ar40
    exact hI0.1
 ·
  intro x hR
  obtain ⟨ar40, ar56⟩ := x
  obtain ⟨hJ0, e115⟩ := hR
  replace hJ0 : (List.length ar40 = Int.toNat (gAll g + 1) ∧ List.length ar56 = Int.toNat (gAll g + 1)) ∧ CB ar40 := hJ0
  have e116 := e0.trans (Go.Am.then_eq e115)
  refine AW.seq (AW.d1U hC hM [2, 3] [8, 12, 40, 56] [] [] ?_)
  exact AW.ret (AW.retE (β := (List Int) × (List Int)) (fun v => [⟨(.slice (.int .i64)), v.1⟩, ⟨(.slice (.int .i64)), v.2⟩]) (fun v => []) (v := (ar40, ar56)) e116 (by kernel_rfl) rfl rfl)

end
end Go.Proofs.Ytgbapklfgjnggaa
