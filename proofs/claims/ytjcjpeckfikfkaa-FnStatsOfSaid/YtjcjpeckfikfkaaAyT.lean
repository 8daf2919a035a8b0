/-
  A part of the proof of this claim (AyT): what functions of the program compute, and plain facts of that. No conditions.
-/
import Derived.Test.YtjcjpeckfikfkaaAw7
import Derived.Test.YtjcjpeckfikfkaaAnT
set_option linter.all false
namespace Go.Proofs.Ytjcjpeckfikfkaa
open Go Go.Am
open Go.Am.AW (seq r1U ret kpU cdE r0U r1 meet block rS bk exit lpB d0U)
open List (length getD set replicate)
noncomputable section

theorem mget_mput (l : List (Int × Int)) (k v q : Int) : mget (mput l k v) q = if q = k then v else mget l q := by
 induction l with
 | nil =>
  simp only [mput, mget]; by_cases h : q = k
  · rw [if_pos h, if_pos h.symm]
  · rw [if_neg h, if_neg (fun e => h e.symm)]
 | cons p l ih =>
  obtain ⟨a, b⟩ := p; simp only [mput, mget]; by_cases hak : a = k
  ·
   subst hak; rw [if_pos rfl]; simp only [mget]; by_cases h : q = a
   · rw [if_pos h, if_pos h.symm]
   · rw [if_neg h, if_neg (fun e => h e.symm), if_neg (fun e => h e.symm)]
  ·
   rw [if_neg hak]; simp only [mget, ih]; by_cases haq : a = q
   · subst haq; rw [if_pos rfl, if_pos rfl, if_neg hak]
   · rw [if_neg haq, if_neg haq]

theorem mput_len (l : List (Int × Int)) (k v : Int) : (mput l k v).length ≤ l.length + 1 := by
 induction l with
 | nil => exact Nat.le_refl _
 | cons p l ih =>
  obtain ⟨a, b⟩ := p; simp only [mput]; split
  · simp
  · simp only [List.length_cons]; omega

def SL (t : Tab) (c i : Nat) (a : List Int) (m : List (Int × Int)) : Prop :=
 (a.length = Int.toNat t.Width ∧ ∀ j : Nat, 0 ≤ getD a j 0 ∧ getD a j 0 ≤ 1000 * (c : Int) + i) ∧ (∀ q, 0 ≤ mget m q ∧ mget m q ≤ i) ∧ m.length ≤ i ∧ i ≤ t.Rows.length

theorem SL.null {t : Tab} {c i : Nat} {a : List Int} {m : List (Int × Int)} (h : SL t c i a m) (hi : i < t.Rows.length) : SL t c (i + 1) (a.set c (a.getD c 0 + 1)) m := by
 obtain ⟨⟨h1, h2⟩, h3, h4, h5⟩ := h; refine ⟨⟨by rw [List.length_set]; exact h1, fun j => ?_⟩, fun q => by have := h3 q; omega, by omega, by omega⟩; by_cases hj : j = c
 ·
  subst hj; have := h2 j; by_cases hl : j < a.length
  · rw [lgetD_set_eq hl]; omega
  · rw [List.set_eq_of_length_le (by omega)]; omega
 · rw [lgetD_set_ne (fun e => hj e.symm)]; have := h2 j; omega

theorem SL.num {t : Tab} {c i : Nat} {a : List Int} {m : List (Int × Int)} (x : Int) (h : SL t c i a m) (hi : i < t.Rows.length) : SL t c (i + 1) a (mput m x (mget m x + 1)) := by
 obtain ⟨⟨h1, h2⟩, h3, h4, h5⟩ := h; refine ⟨⟨h1, fun j => by have := h2 j; omega⟩, fun q => ?_, ?_, by omega⟩
 · rw [mget_mput]; have := h3 q; have := h3 x; split <;> omega
 · have := mput_len m x (mget m x + 1); omega

def SO (t : Tab) (c : Nat) (d a : List Int) : Prop :=
 d.length = Int.toNat t.Width ∧ a.length = Int.toNat t.Width ∧ ∀ j : Nat, 0 ≤ getD a j 0 ∧ getD a j 0 ≤ 1000 * (c : Int)

theorem SO.zero (t : Tab) : SO t 0 (replicate (Int.toNat t.Width) 0) (replicate (Int.toNat t.Width) 0) := by
 refine ⟨by simp, by simp, fun j => ?_⟩; rw [List.getD_eq_getElem?_getD, List.getElem?_replicate]; split <;> simp

theorem SO.enter {t : Tab} {c : Nat} {d a : List Int} (h : SO t c d a) : SL t c 0 a [] :=
 ⟨⟨h.2.1, fun j => by have := h.2.2 j; omega⟩, fun q => ⟨Int.le_refl _, Int.le_refl _⟩, Nat.le_refl _, Nat.zero_le _⟩

theorem SO.next {t : Tab} {c n : Nat} {d a a' : List Int} {m : List (Int × Int)} (x : Int) (h : SO t c d a) (hn : t.Rows.length ≤ 400) (hs : SL t c n a' m) : SO t (c + 1) (d.set c x) a' :=
 ⟨by rw [List.length_set]; exact h.1, hs.1.1, fun j => by have := hs.1.2 j; have := hs.2.2.2; omega⟩

def iStatsOf_l1 (t : Tab) (v24 : Nat) : Nat → Nat → (List Int) → (List (Int × Int)) → (List Int) × (List (Int × Int))
 | 0, v31, ar801, counts => (ar801, counts)
 | k + 1, v31, ar801, counts => (bif (decide ((v31 : Int) < (length (Tab.Rows t) : Int))) then (bif (Val.Null (getD (getD (Tab.Rows t) v31 []) v24 Val.zero)) then (iStatsOf_l1 t v24 k (v31 + 1) (set ar801 v24 ((getD ar801 v24 0) + 1)) counts) else (iStatsOf_l1 t v24 k (v31 + 1) ar801 (Go.Am.mput counts (Val.N (getD (getD (Tab.Rows t) v31 []) v24 Val.zero)) ((Go.Am.mget counts (Val.N (getD (getD (Tab.Rows t) v31 []) v24 Val.zero))) + 1)))) else (ar801, counts))

def iStatsOf_l0 (t : Tab) : Nat → Nat → (List Int) → (List Int) → (List Int) × (List Int)
 | 0, v24, ar68, ar80 => (ar68, ar80)
 | k + 1, v24, ar68, ar80 => (bif (decide ((v24 : Int) < (Tab.Width t))) then (andThen (iStatsOf_l1 t v24 ((length (Tab.Rows t)) - 0 + 1) 0 ar80 ([] : List (Int × Int))) (fun z => (fun (ar801 : List Int) (counts : List (Int × Int)) => (iStatsOf_l0 t k (v24 + 1) (set ar68 v24 (length counts : Int)) ar801)) z.1 z.2)) else (ar68, ar80))

def iStatsOf (t : Tab) : Sta := (bif (!(ValidTable t)) then (Sta.mk 0 ([] : List Int) ([] : List Int)) else (andThen (iStatsOf_l0 t (Int.toNat ((Tab.Width t) - ((0 : Nat) : Int)) + 1) 0 (replicate (Int.toNat (Tab.Width t)) 0 : List Int) (replicate (Int.toNat (Tab.Width t)) 0 : List Int)) (fun z => (fun (ar68 : List Int) (ar80 : List Int) => (Sta.mk (length (Tab.Rows t) : Int) ar68 ar80)) z.1 z.2)))

def iStatsOf_sp : FnSpec := mkSpec [.val (.named 2)] [.val (.named 4)] (fun (t : Tab) => True) (fun (t : Tab) => [⟨(.named 4), (iStatsOf t)⟩])

theorem iStatsOf_ok : FnOK Try.prog 52 iStatsOf_sp := by
 have hC : CtxOK Try.prog (mkCtx tyL [(19, ValidTable_sp)]) := CtxOK.cons ValidTable_ok (CtxOK.nil tyOK); have hM : Try.prog.follows .mixedOrders = true := Try.checked.mixed; refine FnOK.of_body Try.func52 (by kernel_rfl) rfl (C := (mkCtx tyL [(19, ValidTable_sp)])) hC.ty (by kernel_rfl) ?_; intro (t : Tab) hwf hpre E; have hpre : True := hpre; have e0 : iStatsOf t = iStatsOf t := rfl; refine seq (r1 hC [1, 2] [4, 8] ⟨[(1, .ref 4 1 0), (2, .ref 8 1 0)], [(4, .box 1 [.int .i64 (Tab.Width t), .data (.slice (.slice (.named 1))) ((Tab.Rows t) : List (List Val))]), (8, .box 1 [.int .i64 0, .nilsl, .nilsl])]⟩ ?_); refine seq (seq (r0U hC [1, 2, 10] [4, 8] [(10, .bool (!(ValidTable t)))] [] [(True)] ?_ ?_))
 ·
  exact ⟨trivial, trivial⟩
 refine cdE e0 ?_ ?_
 · intro h1q e2; refine seq (r1U hC [2] [8] [] [] ?_); exact ret (rS (.named 4) e2)
 ·
  intro h3q e4; refine kpU [1, 2] [4, 8] [] [] ?_; refine AW.skip (seq ?_); have hvt := ValidTable_iff.1 h3q; have hn4 := hvt.n4; have hw1 := hvt.w1; have hw6 := hvt.w6; refine d0U hC hM [1, 2, 3] [4, 8, 12, 68, 80] [(3, .ref 12 1 0)] [(12, .box 1 [.int .i64 (length (Tab.Rows t) : Int), .arr 68 1, .arr 80 1]), (68, .arr 1 (.int .i64) ((replicate (Int.toNat (Tab.Width t)) 0 : List Int) : List Int)), (80, .arr 1 (.int .i64) ((replicate (Int.toNat (Tab.Width t)) 0 : List Int) : List Int))] [(0 ≤ (Tab.Width t) ∧ (Tab.Width t) ≤ (Tab.Width t) ∧ (Tab.Width t) ≤ 4294967296), (0 ≤ (Tab.Width t) ∧ (Tab.Width t) ≤ (Tab.Width t) ∧ (Tab.Width t) ≤ 4294967296)] ?_ ?_
  ·
   exact ⟨(by omega), (by omega), trivial⟩
  refine seq (seq (r1U hC [1, 2, 3, 23, 24] [4, 8, 12, 68, 80] [(23, .int .i64 (Tab.Width t)), (24, .int .i64 0)] [] ?_)); refine lpB (ζ := (List Int) × (List Int)) (fun x => ⟨[(2, .ref 8 1 0), (3, .ref 12 1 0)], [(8, .box 1 [.int .i64 0, .nilsl, .nilsl]), (12, .box 1 [.int .i64 (length (Tab.Rows t) : Int), .arr 68 1, .arr 80 1]), (68, .arr 1 (.int .i64) (x.1 : List Int)), (80, .arr 1 (.int .i64) (x.2 : List Int))]⟩) (fun x => True) (fun x => x) (α := Nat × (List Int) × (List Int)) (fun x => ⟨[(1, .ref 4 1 0), (2, .ref 8 1 0), (3, .ref 12 1 0), (23, .int .i64 (Tab.Width t)), (24, .int .i64 ((x.1 : Nat) : Int))], [(4, .box 1 [.int .i64 (Tab.Width t), .data (.slice (.slice (.named 1))) ((Tab.Rows t) : List (List Val))]), (8, .box 1 [.int .i64 0, .nilsl, .nilsl]), (12, .box 1 [.int .i64 (length (Tab.Rows t) : Int), .arr 68 1, .arr 80 1]), (68, .arr 1 (.int .i64) (x.2.1 : List Int)), (80, .arr 1 (.int .i64) (x.2.2 : List Int))]⟩) (fun x => SO t x.1 x.2.1 x.2.2) (fun x => Int.toNat ((Tab.Width t) - ((x.1 : Nat) : Int))) (fun k x => iStatsOf_l0 t k x.1 x.2.1 x.2.2) (0, (replicate (Int.toNat (Tab.Width t)) 0 : List Int), (replicate (Int.toNat (Tab.Width t)) 0 : List Int)) (by kernel_rfl) ?_ ?_ ?_
  · exact SO.zero t
  ·
   intro x k82q hI0 hk80 e81; obtain ⟨v24, ar68, ar80⟩ := x; replace hI0 : SO t v24 ar68 ar80 := hI0; have hoa := hI0.1; have hob := hI0.2.1; refine seq (r1U hC [1, 2, 3, 23, 24, 25] [4, 8, 12, 68, 80] [(25, .bool (decide ((v24 : Int) < (Tab.Width t))))] [] ?_); refine seq (cdE e81 ?_ ?_)
   ·
    intro h83q e84; refine kpU [1, 2, 3, 23, 24] [4, 8, 12, 68, 80] [] [] ?_; refine AW.skip (seq (block (seq (r1U hC [1, 2, 3, 4, 23, 24] [4, 8, 12, 68, 80] [(4, .int .i64 (v24 : Int))] [] ?_)))); refine seq (r1U hC [1, 2, 3, 4, 5, 23, 24] [4, 8, 12, 68, 80, 108] [(5, .mp 108 1)] [(108, .mp 1 (([] : List (Int × Int)) : List (Int × Int)))] ?_); refine seq (seq (r1U hC [1, 2, 3, 4, 5, 23, 24, 29, 30, 31] [4, 8, 12, 68, 80, 108] [(29, .data (.slice (.slice (.named 1))) ((Tab.Rows t) : List (List Val))), (30, .int .i64 (length (Tab.Rows t) : Int)), (31, .int .i64 0)] [] ?_)); refine lpB (ζ := (List Int) × (List (Int × Int))) (fun x => ⟨[(1, .ref 4 1 0), (2, .ref 8 1 0), (3, .ref 12 1 0), (4, .int .i64 (v24 : Int)), (5, .mp 108 1), (23, .int .i64 (Tab.Width t)), (24, .int .i64 (v24 : Int))], [(4, .box 1 [.int .i64 (Tab.Width t), .data (.slice (.slice (.named 1))) ((Tab.Rows t) : List (List Val))]), (8, .box 1 [.int .i64 0, .nilsl, .nilsl]), (12, .box 1 [.int .i64 (length (Tab.Rows t) : Int), .arr 68 1, .arr 80 1]), (68, .arr 1 (.int .i64) (ar68 : List Int)), (80, .arr 1 (.int .i64) (x.1 : List Int)), (108, .mp 1 (x.2 : List (Int × Int)))]⟩) (fun x => ∃ n : Nat, SL t v24 n x.1 x.2) (fun x => x) (α := Nat × (List Int) × (List (Int × Int))) (fun x => ⟨[(1, .ref 4 1 0), (2, .ref 8 1 0), (3, .ref 12 1 0), (4, .int .i64 (v24 : Int)), (5, .mp 108 1), (23, .int .i64 (Tab.Width t)), (24, .int .i64 (v24 : Int)), (29, .data (.slice (.slice (.named 1))) ((Tab.Rows t) : List (List Val))), (30, .int .i64 (length (Tab.Rows t) : Int)), (31, .int .i64 ((x.1 : Nat) : Int))], [(4, .box 1 [.int .i64 (Tab.Width t), .data (.slice (.slice (.named 1))) ((Tab.Rows t) : List (List Val))]), (8, .box 1 [.int .i64 0, .nilsl, .nilsl]), (12, .box 1 [.int .i64 (length (Tab.Rows t) : Int), .arr 68 1, .arr 80 1]), (68, .arr 1 (.int .i64) (ar68 : List Int)), (80, .arr 1 (.int .i64) (x.2.1 : List Int)), (108, .mp 1 (x.2.2 : List (Int × Int)))]⟩) (fun x => SL t v24 x.1 x.2.1 x.2.2) (fun x => (length (Tab.Rows t)) - x.1) (fun k x => iStatsOf_l1 t v24 k x.1 x.2.1 x.2.2) (0, ar80, ([] : List (Int × Int))) (by kernel_rfl) ?_ ?_ ?_
    · exact hI0.enter
    ·
     intro x k87q hI1 hk85 e86; obtain ⟨v31, ar801, counts⟩ := x; replace hI1 : SL t v24 v31 ar801 counts := hI1; have hna := hI1.1.1; have hnb := hI1.1.2 v24; have hnc := hI1.2.1; have hnd := hI1.2.2.2; refine seq (r1U hC [1, 2, 3, 4, 5, 23, 24, 29, 30, 31, 32] [4, 8, 12, 68, 80, 108] [(32, .bool (decide ((v31 : Int) < (length (Tab.Rows t) : Int))))] [] ?_); refine seq (cdE e86 ?_ ?_)
     ·
      intro h88q e89; refine kpU [1, 2, 3, 4, 5, 23, 24, 29, 30, 31] [4, 8, 12, 68, 80, 108] [] [] ?_; refine AW.skip (seq (block (seq (r0U hC [1, 2, 3, 4, 5, 7, 23, 24, 29, 30, 31] [4, 8, 12, 68, 80, 108] [(7, .data (.slice (.named 1)) ((getD (Tab.Rows t) v31 []) : List Val))] [] [(0 ≤ (v31 : Int) ∧ (v31 : Int) < (length (Tab.Rows t) : Int))] ?_ ?_))))
      ·
       exact ⟨(by omega), trivial⟩
      refine seq (r0U hC [1, 2, 3, 4, 5, 7, 23, 24, 29, 30, 31, 39] [4, 8, 12, 68, 80, 108] [(39, .bool (Val.Null (getD (getD (Tab.Rows t) v31 []) v24 Val.zero)))] [] [(0 ≤ (v24 : Int) ∧ (v24 : Int) < (length (getD (Tab.Rows t) v31 []) : Int))] ?_ ?_)
      ·
       exact ⟨(by have hr := (hvt.rows v31 (by omega)).2; unfold rowAt at hr; omega), trivial⟩
      refine cdE e89 ?_ ?_
      ·
       intro h90q e91; refine r0U hC [1, 2, 3, 4, 5, 23, 24, 29, 30, 31] [4, 8, 12, 68, 80, 108] [] [(80, .arr 1 (.int .i64) ((set ar801 v24 ((getD ar801 v24 0) + 1)) : List Int))] [(0 ≤ (v24 : Int) ∧ (v24 : Int) < (length ar801 : Int)), (-9223372036854775808 ≤ ((getD ar801 v24 0) + 1) ∧ ((getD ar801 v24 0) + 1) ≤ 9223372036854775807), (0 ≤ (v24 : Int) ∧ (v24 : Int) < (length ar801 : Int))] ?_ ?_
       ·
        exact ⟨(by omega), (by omega), (by omega), trivial⟩
       refine r0U hC [1, 2, 3, 4, 5, 23, 24, 29, 30, 31] [4, 8, 12, 68, 80, 108] [(31, .int .i64 ((v31 + 1 : Nat) : Int))] [] [(-9223372036854775808 ≤ ((v31 + 1 : Nat) : Int) ∧ ((v31 + 1 : Nat) : Int) ≤ 9223372036854775807)] ?_ ?_
       ·
        exact ⟨(by omega), trivial⟩
       refine bk (v31 + 1, (set ar801 v24 ((getD ar801 v24 0) + 1)), counts) e91 hk85 ?_ ?_
       · exact hI1.null (by omega)
       · omega
      ·
       intro h92q e93; refine r0U hC [1, 2, 3, 4, 5, 23, 24, 29, 30, 31] [4, 8, 12, 68, 80, 108] [] [(108, .mp 1 ((Go.Am.mput counts (Val.N (getD (getD (Tab.Rows t) v31 []) v24 Val.zero)) ((Go.Am.mget counts (Val.N (getD (getD (Tab.Rows t) v31 []) v24 Val.zero))) + 1)) : List (Int × Int)))] [(0 ≤ (v24 : Int) ∧ (v24 : Int) < (length (getD (Tab.Rows t) v31 []) : Int)), (-9223372036854775808 ≤ ((Go.Am.mget counts (Val.N (getD (getD (Tab.Rows t) v31 []) v24 Val.zero))) + 1) ∧ ((Go.Am.mget counts (Val.N (getD (getD (Tab.Rows t) v31 []) v24 Val.zero))) + 1) ≤ 9223372036854775807)] ?_ ?_
       ·
        exact ⟨(by have hr := (hvt.rows v31 (by omega)).2; unfold rowAt at hr; omega), (by have := hnc (Val.N (getD (getD (Tab.Rows t) v31 []) v24 Val.zero)); omega), trivial⟩
       refine r0U hC [1, 2, 3, 4, 5, 23, 24, 29, 30, 31] [4, 8, 12, 68, 80, 108] [(31, .int .i64 ((v31 + 1 : Nat) : Int))] [] [(-9223372036854775808 ≤ ((v31 + 1 : Nat) : Int) ∧ ((v31 + 1 : Nat) : Int) ≤ 9223372036854775807)] ?_ ?_
       ·
        exact ⟨(by omega), trivial⟩
       refine bk (v31 + 1, ar801, (Go.Am.mput counts (Val.N (getD (getD (Tab.Rows t) v31 []) v24 Val.zero)) ((Go.Am.mget counts (Val.N (getD (getD (Tab.Rows t) v31 []) v24 Val.zero))) + 1))) e93 hk85 ?_ ?_
       · exact hI1.num _ (by omega)
       · omega
     · intro h94q e95; refine kpU [1, 2, 3, 4, 5, 23, 24] [4, 8, 12, 68, 80, 108] [] [] ?_; refine exit ?_; refine meet (ar801, counts) (by kernel_rfl) ⟨?_, e95⟩; exact ⟨_, hI1⟩
    ·
     intro x hJ1 e96; obtain ⟨ar801, counts⟩ := x; replace hJ1 : ∃ n : Nat, SL t v24 n ar801 counts := hJ1; obtain ⟨nsl, hsl⟩ := hJ1; have hsa := hsl.1.1; have hsb := hsl.2.2; have e97 := e84.trans (then_eq e96); refine r0U hC [1, 2, 3, 23, 24] [4, 8, 12, 68, 80] [] [(68, .arr 1 (.int .i64) ((set ar68 v24 (length counts : Int)) : List Int))] [((length counts : Int) ≤ 9223372036854775807), (0 ≤ (v24 : Int) ∧ (v24 : Int) < (length ar68 : Int))] ?_ ?_
     ·
      exact ⟨(by omega), (by omega), trivial⟩
     refine r0U hC [1, 2, 3, 23, 24] [4, 8, 12, 68, 80] [(24, .int .i64 ((v24 + 1 : Nat) : Int))] [] [(-9223372036854775808 ≤ ((v24 + 1 : Nat) : Int) ∧ ((v24 + 1 : Nat) : Int) ≤ 9223372036854775807)] ?_ ?_
     ·
      exact ⟨(by omega), trivial⟩
     refine bk (v24 + 1, (set ar68 v24 (length counts : Int)), ar801) e97 hk80 ?_ ?_
     · exact hI0.next _ hn4 hsl
     · omega
   · intro h98q e99; refine kpU [2, 3] [8, 12, 68, 80] [] [] ?_; refine exit ?_; refine meet (ar68, ar80) (by kernel_rfl) ⟨?_, e99⟩; trivial
  · intro x hJ0 e100; obtain ⟨ar68, ar80⟩ := x; have e101 := e4.trans (then_eq e100); refine seq (r1U hC [2] [8, 68, 80] [] [(8, .box 1 [.int .i64 (length (Tab.Rows t) : Int), .arr 68 1, .arr 80 1])] ?_); exact ret (rS (.named 4) e101)

end
end Go.Proofs.Ytjcjpeckfikfkaa
