/-
  A part of the proof of this claim (AyL): what functions of the program compute, and plain facts of that. No conditions.
-/
import Derived.Test.YtjcjpeckfikfkaaAyK
set_option linter.all false
namespace Go.Proofs.Ytjcjpeckfikfkaa
open Go Go.Am
open Go.Am.AW (seq r1U ret kpU cdE r0U r1 meet block rS bk exit lpB kp cutQ d0U)
open List (length getD take drop)
noncomputable section

theorem inv_ins {out : List Int} {i n : Nat} {k2 : Int} (h : (∀ x ∈ out, 0 ≤ x ∧ x < (i : Int)) ∧ out.length ≤ i ∧ i ≤ n) (hi : i < n) :
  (∀ x ∈ ((([] : List Int) ++ (take (Int.toNat k2) (drop 0 out))) ++ ([(i : Int)] : List Int)) ++ (take (length out - (Int.toNat k2)) (drop (Int.toNat k2) out)), 0 ≤ x ∧ x < ((i + 1 : Nat) : Int)) ∧ (((([] : List Int) ++ (take (Int.toNat k2) (drop 0 out))) ++ ([(i : Int)] : List Int)) ++ (take (length out - (Int.toNat k2)) (drop (Int.toNat k2) out))).length ≤ i + 1 ∧ i + 1 ≤ n := by
 refine ⟨fun x hx => ?_, ?_, hi⟩
 ·
  rw [List.nil_append, List.drop_zero] at hx; rcases List.mem_append.1 hx with hx | hx
  ·
   rcases List.mem_append.1 hx with hx | hx
   · have := h.1 x (List.mem_of_mem_take hx); omega
   · rw [List.mem_singleton.1 hx]; omega
  · have := h.1 x (List.mem_of_mem_drop (List.mem_of_mem_take hx)); omega
 · simp only [List.nil_append, List.drop_zero, List.length_append, List.length_take, List.length_drop, List.length_cons, List.length_nil]; have := h.2.1; omega

def sIndexOf_l1 (t : Tab) (col : Int) (i : Nat) (out : List Int) : Nat → Int → Int
 | 0, k2 => k2
 | k + 1, k2 => (bif (bif (decide (0 < k2)) then (decide ((Val.N (getD (getD (Tab.Rows t) i []) (Int.toNat col) Val.zero)) < (Val.N (getD (getD (Tab.Rows t) (Int.toNat (getD out (Int.toNat (k2 - 1)) 0)) []) (Int.toNat col) Val.zero)))) else false) then (sIndexOf_l1 t col i out k (k2 - 1)) else k2)

def sIndexOf_l0 (t : Tab) (col : Int) : Nat → Nat → (List Int) → (List Int)
 | 0, i, out => out
 | k + 1, i, out => (bif (decide ((i : Int) < (length (Tab.Rows t) : Int))) then (bif (Val.Null (getD (getD (Tab.Rows t) i []) (Int.toNat col) Val.zero)) then (sIndexOf_l0 t col k (i + 1) out) else (andThen (sIndexOf_l1 t col i out (Int.toNat (length out : Int) + 1) (length out : Int)) (fun z => (fun (k2 : Int) => (sIndexOf_l0 t col k (i + 1) (((([] : List Int) ++ (take (Int.toNat k2) (drop 0 out))) ++ ([(i : Int)] : List Int)) ++ (take (length out - (Int.toNat k2)) (drop (Int.toNat k2) out))))) z))) else out)

def sIndexOf (t : Tab) (col : Int) : (List Int) := (bif (bif (!(validTable t)) then true else (!(inRange col 0 ((Tab.Width t) - 1)))) then ([] : List Int) else (andThen (sIndexOf_l0 t col ((length (Tab.Rows t)) - 0 + 1) 0 ([] : List Int)) (fun z => (fun (out : List Int) => out) z)))

def sIndexOf_sp : FnSpec := mkSpec [.val (.named 2), .val (.int .i64)] [.own (.int .i64)] (fun (t : Tab) (col : Int) => True) (fun (t : Tab) (col : Int) => [⟨(.slice (.int .i64)), (sIndexOf t col)⟩])

theorem sIndexOf_ok : FnOK Try.prog 42 sIndexOf_sp := by
 have hC : CtxOK Try.prog (mkCtx tyL [(64, inRange_sp), (77, validTable_sp)]) := CtxOK.cons inRange_ok (CtxOK.cons validTable_ok (CtxOK.nil tyOK)); have hM : Try.prog.follows .mixedOrders = true := Try.checked.mixed; refine FnOK.of_body Try.func42 (by kernel_rfl) rfl (C := (mkCtx tyL [(64, inRange_sp), (77, validTable_sp)])) hC.ty (by kernel_rfl) ?_; intro (t : Tab) (col : Int) hwf hpre E; have hpre : True := hpre; have hw_t : Wf ⟨(.named 2), (t : Tab)⟩ := hwf _ (List.Mem.head _); have hr_t_Width : -9223372036854775808 ≤ Tab.Width t ∧ Tab.Width t ≤ 9223372036854775807 := (hw_t.field (tv := ⟨(.int .i64), Tab.Width t⟩) (List.Mem.head _)).int_inv; have hl_t_Rows : (length (Tab.Rows t) : Int) ≤ 9223372036854775807 := (hw_t.field (tv := ⟨(.slice (.slice (.named 1))), Tab.Rows t⟩) (List.Mem.tail _ (List.Mem.head _))).len; have hw_col : Wf ⟨(.int .i64), (col : Int)⟩ := hwf _ (List.Mem.tail _ (List.Mem.head _)); have hr_col : -9223372036854775808 ≤ col ∧ col ≤ 9223372036854775807 := hw_col.int_inv; have e0 : sIndexOf t col = sIndexOf t col := rfl; refine seq (r1U hC [1, 2] [8] [(2, .ref 8 1 0)] [(8, .box 1 [.int .i64 (Tab.Width t), .data (.slice (.slice (.named 1))) ((Tab.Rows t) : List (List Val))])] ?_); refine seq (r1U hC [1, 2, 5] [8, 36] [(5, .arr 36 1)] [(36, .arr 1 (.int .i64) (([] : List Int) : List Int))] ?_); refine seq (seq (AW.wf_arr (id := 36) (ep := 1) (t := (.int .i64)) (xs := (([] : List Int) : List Int)) (by kernel_rfl) fun ha1 _ => ?_)); replace ha1 : (length ([] : List Int) : Int) ≤ 4294967296 := ha1; refine r0U hC [1, 2, 5, 20] [8, 36] [(20, .bool (bif (!(validTable t)) then true else (!(inRange col 0 ((Tab.Width t) - 1)))))] [] [(True), (((!(validTable t)) = false) → (((!(validTable t)) = false))), (((!(validTable t)) = false) → (((!(validTable t)) = false))), (((!(validTable t)) = false) → (-9223372036854775808 ≤ ((Tab.Width t) - 1) ∧ ((Tab.Width t) - 1) ≤ 9223372036854775807)), (((!(validTable t)) = false) → (((!(validTable t)) = false))), (((!(validTable t)) = false) → (((!(validTable t)) = false))), (((!(validTable t)) = false) → (True)), (((!(validTable t)) = false) → (((!(validTable t)) = false))), (((!(validTable t)) = false) → (((!(validTable t)) = false)))] ?_ ?_
 ·
  exact ⟨trivial, (by intro g2; assumption), (by intro g3; assumption), (by intro g4; (have g4p0 : (validTable t) = true := (not_neg g4)); have := (validTable_iff.1 (by assumption)).w1; omega), (by intro g5; assumption), (by intro g6; assumption), (by intro g7; trivial), (by intro g8; assumption), (by intro g9; assumption), trivial⟩
 refine cdE e0 ?_ ?_
 · intro h10q e11; refine seq (AW.wf_arr (id := 36) (ep := 1) (t := (.int .i64)) (xs := (([] : List Int) : List Int)) (by kernel_rfl) fun ha12 _ => ?_); replace ha12 : (length ([] : List Int) : Int) ≤ 4294967296 := ha12; refine r1 hC [4] [] ⟨[(4, .nilsl)], []⟩ ?_; exact ret (rS (.slice (.int .i64)) e11)
 ·
  intro h13q e14; refine kpU [1, 2, 5] [8, 36] [] [] ?_; refine AW.skip (seq (seq (AW.wf_arr (id := 36) (ep := 1) (t := (.int .i64)) (xs := (([] : List Int) : List Int)) (by kernel_rfl) fun ha15 _ => ?_))); replace ha15 : (length ([] : List Int) : Int) ≤ 4294967296 := ha15; have hsr := sr_ok h13q; have hn4 := (validTable_iff.1 h13q.1).n4; refine r1U hC [1, 2, 5, 6] [8, 36] [(6, .int .i64 0)] [] ?_; refine cutQ (α := (List Int)) (fun x => ⟨[(5, .arr 36 1)], [(36, .arr 1 (.int .i64) (x : List Int))]⟩) (fun x => (True) ∧ (sIndexOf_l0 t col ((length (Tab.Rows t)) - 0 + 1) 0 ([] : List Int)) = x) ?_ ?_
  ·
   skip; refine block (AW.loopR (α := Nat × (List Int)) (fun x => ⟨[(1, .int .i64 col), (2, .ref 8 1 0), (5, .arr 36 1), (6, .int .i64 ((x.1 : Nat) : Int))], [(8, .box 1 [.int .i64 (Tab.Width t), .data (.slice (.slice (.named 1))) ((Tab.Rows t) : List (List Val))]), (36, .arr 1 (.int .i64) (x.2 : List Int))]⟩) (fun x => ((∀ y ∈ x.2, 0 ≤ y ∧ y < (x.1 : Int)) ∧ length x.2 ≤ x.1 ∧ x.1 ≤ length t.Rows) ∧ ∃ k, (length (Tab.Rows t)) - x.1 < k ∧ (sIndexOf_l0 t col ((length (Tab.Rows t)) - 0 + 1) 0 ([] : List Int)) = sIndexOf_l0 t col k x.1 x.2) (fun x => (length (Tab.Rows t)) - x.1) (0, ([] : List Int)) (by kernel_rfl) ⟨?_, _, Nat.lt_succ_self _, rfl⟩ ?_)
   · exact ⟨fun x hx => (by cases hx), Nat.le_refl _, Nat.zero_le _⟩
   ·
    intro x hR; obtain ⟨i, out⟩ := x; obtain ⟨hI0, k135, hk133, e134⟩ := hR; replace hI0 : (∀ y ∈ out, 0 ≤ y ∧ y < (i : Int)) ∧ length out ≤ i ∧ i ≤ length t.Rows := hI0; replace hk133 : (length (Tab.Rows t)) - i < k135 := hk133; obtain ⟨k135q, rfl⟩ : ∃ k, k135 = k + 1 := ⟨k135 - 1, by omega⟩; have hom := hI0.1; have hol := hI0.2.1; refine seq (seq (AW.wf_arr (id := 36) (ep := 1) (t := (.int .i64)) (xs := (out : List Int)) (by kernel_rfl) fun ha136 _ => ?_)); replace ha136 : (length out : Int) ≤ 4294967296 := ha136; refine r1U hC [1, 2, 5, 6, 25] [8, 36] [(25, .bool (decide ((i : Int) < (length (Tab.Rows t) : Int))))] [] ?_; refine cdE e134 ?_ ?_
    ·
     intro h137q e138; refine kpU [1, 2, 5, 6] [8, 36] [] [] ?_; refine AW.skip (seq (block (seq (seq (AW.wf_arr (id := 36) (ep := 1) (t := (.int .i64)) (xs := (out : List Int)) (by kernel_rfl) fun ha139 _ => ?_))))); replace ha139 : (length out : Int) ≤ 4294967296 := ha139; refine r0U hC [1, 2, 5, 6, 36] [8, 36] [(36, .bool (Val.Null (getD (getD (Tab.Rows t) i []) (Int.toNat col) Val.zero)))] [] [(0 ≤ (i : Int) ∧ (i : Int) < (length (Tab.Rows t) : Int)), (0 ≤ col ∧ col < (length (getD (Tab.Rows t) i []) : Int))] ?_ ?_
     ·
      exact ⟨(by omega), (by (have := hsr.2 i (by omega); have := hsr.1; omega)), trivial⟩
     refine cdE e138 ?_ ?_
     ·
      intro h140q e141; refine kpU [1, 2, 5, 6] [8, 36] [] [] ?_; refine exit ?_; refine AW.wf_arr (id := 36) (ep := 1) (t := (.int .i64)) (xs := (out : List Int)) (by kernel_rfl) fun ha142 _ => ?_; replace ha142 : (length out : Int) ≤ 4294967296 := ha142; refine r0U hC [1, 2, 5, 6] [8, 36] [(6, .int .i64 ((i + 1 : Nat) : Int))] [] [(-9223372036854775808 ≤ ((i + 1 : Nat) : Int) ∧ ((i + 1 : Nat) : Int) ≤ 9223372036854775807)] ?_ ?_
      ·
       exact ⟨(by omega), trivial⟩
      refine AW.backR (x := (i, out)) (i + 1, out) (Turn.eq (by kernel_rfl)) ⟨?_, k135q, ?_, e141⟩ ?_
      · dsimp only; exact ⟨fun x hx => (by have := hI0.1 x hx; omega), by omega, by omega⟩
      · omega
      · omega
     ·
      intro h143q e144; refine kpU [1, 2, 5, 6] [8, 36] [] [] ?_; refine AW.skip (seq (AW.wf_arr (id := 36) (ep := 1) (t := (.int .i64)) (xs := (out : List Int)) (by kernel_rfl) fun ha145 _ => ?_)); replace ha145 : (length out : Int) ≤ 4294967296 := ha145; refine r1U hC [1, 2, 5, 6, 7] [8, 36] [(7, .int .i64 (length out : Int))] [] ?_; refine seq (lpB (ζ := Int) (fun x => ⟨[(1, .int .i64 col), (2, .ref 8 1 0), (5, .arr 36 1), (6, .int .i64 (i : Int)), (7, .int .i64 x)], [(8, .box 1 [.int .i64 (Tab.Width t), .data (.slice (.slice (.named 1))) ((Tab.Rows t) : List (List Val))]), (36, .arr 1 (.int .i64) (out : List Int))]⟩) (fun x => 0 ≤ x ∧ x ≤ (length out : Int)) (fun x => x) (α := Int) (fun x => ⟨[(1, .int .i64 col), (2, .ref 8 1 0), (5, .arr 36 1), (6, .int .i64 (i : Int)), (7, .int .i64 x)], [(8, .box 1 [.int .i64 (Tab.Width t), .data (.slice (.slice (.named 1))) ((Tab.Rows t) : List (List Val))]), (36, .arr 1 (.int .i64) (out : List Int))]⟩) (fun x => 0 ≤ x ∧ x ≤ (length out : Int)) (fun x => Int.toNat x) (fun k x => sIndexOf_l1 t col i out k x) (length out : Int) (by kernel_rfl) ?_ ?_ ?_)
      · omega
      ·
       intro k2 k148q hI1 hk146 e147; refine seq (seq (AW.wf_arr (id := 36) (ep := 1) (t := (.int .i64)) (xs := (out : List Int)) (by kernel_rfl) fun ha149 _ => ?_)); replace ha149 : (length out : Int) ≤ 4294967296 := ha149; refine d0U hC hM [1, 2, 5, 6, 7, 65] [8, 36] [(65, .bool (bif (decide (0 < k2)) then (decide ((Val.N (getD (getD (Tab.Rows t) i []) (Int.toNat col) Val.zero)) < (Val.N (getD (getD (Tab.Rows t) (Int.toNat (getD out (Int.toNat (k2 - 1)) 0)) []) (Int.toNat col) Val.zero)))) else false))] [] [(((decide (0 < k2)) = true) → (((decide (0 < k2)) = true))), (((decide (0 < k2)) = true) → (((decide (0 < k2)) = true))), (((decide (0 < k2)) = true) → (-9223372036854775808 ≤ (k2 - 1) ∧ (k2 - 1) ≤ 9223372036854775807)), (((decide (0 < k2)) = true) → (((decide (0 < k2)) = true))), (((decide (0 < k2)) = true) → (((decide (0 < k2)) = true))), (((decide (0 < k2)) = true) → (0 ≤ (k2 - 1) ∧ (k2 - 1) < (length out : Int))), (((decide (0 < k2)) = true) → (((decide (0 < k2)) = true))), (((decide (0 < k2)) = true) → (((decide (0 < k2)) = true))), (((decide (0 < k2)) = true) → (((decide (0 < k2)) = true))), (((decide (0 < k2)) = true) → (0 ≤ (getD out (Int.toNat (k2 - 1)) 0) ∧ (getD out (Int.toNat (k2 - 1)) 0) < (length (Tab.Rows t) : Int))), (((decide (0 < k2)) = true) → (((decide (0 < k2)) = true))), (((decide (0 < k2)) = true) → (((decide (0 < k2)) = true))), (((decide (0 < k2)) = true) → (((decide (0 < k2)) = true))), (((decide (0 < k2)) = true) → (0 ≤ col ∧ col < (length (getD (Tab.Rows t) (Int.toNat (getD out (Int.toNat (k2 - 1)) 0)) []) : Int))), (((decide (0 < k2)) = true) → (((decide (0 < k2)) = true))), (((decide (0 < k2)) = true) → (((decide (0 < k2)) = true))), (((decide (0 < k2)) = true) → (((decide (0 < k2)) = true))), (((decide (0 < k2)) = true) → (((decide (0 < k2)) = true))), (((decide (0 < k2)) = true) → (((decide (0 < k2)) = true))), (((decide (0 < k2)) = true) → (0 ≤ (i : Int) ∧ (i : Int) < (length (Tab.Rows t) : Int))), (((decide (0 < k2)) = true) → (((decide (0 < k2)) = true))), (((decide (0 < k2)) = true) → (((decide (0 < k2)) = true))), (((decide (0 < k2)) = true) → (((decide (0 < k2)) = true))), (((decide (0 < k2)) = true) → (0 ≤ col ∧ col < (length (getD (Tab.Rows t) i []) : Int))), (((decide (0 < k2)) = true) → (((decide (0 < k2)) = true))), (((decide (0 < k2)) = true) → (((decide (0 < k2)) = true))), (((decide (0 < k2)) = true) → (((decide (0 < k2)) = true))), (((decide (0 < k2)) = true) → (((decide (0 < k2)) = true))), (((decide (0 < k2)) = true) → (((decide (0 < k2)) = true)))] ?_ ?_
       ·
        exact ⟨(by intro g150; assumption), (by intro g151; assumption), (by intro g152; omega), (by intro g153; assumption), (by intro g154; assumption), (by intro g155; (have g155p0 : 0 < k2 := (of_decide_eq_true g155)); omega), (by intro g156; assumption), (by intro g157; assumption), (by intro g158; assumption), (by intro g159; (have g159p0 : 0 < k2 := (of_decide_eq_true g159)); (have hx := hom _ (getD_mem out (Int.toNat (k2 - 1)) 0 (by omega)); first | omega | (have := hsr.2 (Int.toNat (getD out (Int.toNat (k2 - 1)) 0)) (by omega); have := hsr.1; omega))), (by intro g160; assumption), (by intro g161; assumption), (by intro g162; assumption), (by intro g163; (have g163p0 : 0 < k2 := (of_decide_eq_true g163)); (have hx := hom _ (getD_mem out (Int.toNat (k2 - 1)) 0 (by omega)); first | omega | (have := hsr.2 (Int.toNat (getD out (Int.toNat (k2 - 1)) 0)) (by omega); have := hsr.1; omega))), (by intro g164; assumption), (by intro g165; assumption), (by intro g166; assumption), (by intro g167; assumption), (by intro g168; assumption), (by intro g169; omega), (by intro g170; assumption), (by intro g171; assumption), (by intro g172; assumption), (by intro g173; (have := hsr.2 i (by omega); have := hsr.1; omega)), (by intro g174; assumption), (by intro g175; assumption), (by intro g176; assumption), (by intro g177; assumption), (by intro g178; assumption), trivial⟩
       refine cdE e147 ?_ ?_
       ·
        intro h179q e180; refine kpU [1, 2, 5, 6, 7] [8, 36] [] [] ?_; refine AW.skip (block (AW.wf_arr (id := 36) (ep := 1) (t := (.int .i64)) (xs := (out : List Int)) (by kernel_rfl) fun ha181 _ => ?_)); replace ha181 : (length out : Int) ≤ 4294967296 := ha181; refine r0U hC [1, 2, 5, 6, 7] [8, 36] [(7, .int .i64 (k2 - 1))] [] [(-9223372036854775808 ≤ (k2 - 1) ∧ (k2 - 1) ≤ 9223372036854775807)] ?_ ?_
        ·
         exact ⟨(by omega), trivial⟩
        refine bk (k2 - 1) e180 hk146 ?_ ?_
        · omega
        · omega
       · intro h182q e183; refine kpU [1, 2, 5, 6, 7] [8, 36] [] [] ?_; refine exit ?_; refine meet k2 (by kernel_rfl) ⟨?_, e183⟩; omega
      ·
       intro k2 hJ1 e184; replace hJ1 : 0 ≤ k2 ∧ k2 ≤ (length out : Int) := hJ1; have e185 := e144.trans (then_eq e184); refine seq (AW.wf_arr (id := 36) (ep := 1) (t := (.int .i64)) (xs := (out : List Int)) (by kernel_rfl) fun ha186 _ => ?_); replace ha186 : (length out : Int) ≤ 4294967296 := ha186; refine r0U hC [1, 2, 5, 6, 7, 8] [8, 36, 272] [(8, .arr 272 1)] [(272, .arr 1 (.int .i64) ((([] : List Int) ++ (take (Int.toNat k2) (drop 0 out))) : List Int))] [(0 ≤ k2 ∧ k2 ≤ (length out : Int)), (0 + (length (take (Int.toNat k2) (drop 0 out)) : Int) ≤ 4294967296)] ?_ ?_
       ·
        exact ⟨(by omega), (by (simp only [List.nil_append, List.length_append, List.length_take, List.length_drop, List.length_cons, List.length_nil]; omega)), trivial⟩
       refine seq (AW.wf_arr (id := 36) (ep := 1) (t := (.int .i64)) (xs := (out : List Int)) (by kernel_rfl) fun ha187 _ => ?_); replace ha187 : (length out : Int) ≤ 4294967296 := ha187; refine AW.wf_arr (id := 272) (ep := 1) (t := (.int .i64)) (xs := ((([] : List Int) ++ (take (Int.toNat k2) (drop 0 out))) : List Int)) (by kernel_rfl) fun ha188 _ => ?_; replace ha188 : (length (([] : List Int) ++ (take (Int.toNat k2) (drop 0 out))) : Int) ≤ 4294967296 := ha188; refine r0U hC [1, 2, 5, 6, 7, 8] [8, 36, 272] [] [(272, .arr 1 (.int .i64) (((([] : List Int) ++ (take (Int.toNat k2) (drop 0 out))) ++ ([(i : Int)] : List Int)) : List Int))] [((length (([] : List Int) ++ (take (Int.toNat k2) (drop 0 out))) : Int) + ((length ([(i : Int)] : List Int) : Nat) : Int) ≤ 4294967296)] ?_ ?_
       ·
        exact ⟨(by (simp only [List.nil_append, List.length_append, List.length_take, List.length_drop, List.length_cons, List.length_nil]; omega)), trivial⟩
       refine AW.wf_arr (id := 36) (ep := 1) (t := (.int .i64)) (xs := (out : List Int)) (by kernel_rfl) fun ha189 _ => ?_; replace ha189 : (length out : Int) ≤ 4294967296 := ha189; refine AW.wf_arr (id := 272) (ep := 1) (t := (.int .i64)) (xs := (((([] : List Int) ++ (take (Int.toNat k2) (drop 0 out))) ++ ([(i : Int)] : List Int)) : List Int)) (by kernel_rfl) fun ha190 _ => ?_; replace ha190 : ((length ((([] : List Int) ++ (take (Int.toNat k2) (drop 0 out))) ++ ([(i : Int)] : List Int)) : Nat) : Int) ≤ 4294967296 := ha190; refine r0U hC [1, 2, 5, 6] [8, 272] [(5, .arr 272 1)] [(272, .arr 1 (.int .i64) ((((([] : List Int) ++ (take (Int.toNat k2) (drop 0 out))) ++ ([(i : Int)] : List Int)) ++ (take (length out - (Int.toNat k2)) (drop (Int.toNat k2) out))) : List Int))] [(0 ≤ k2 ∧ k2 ≤ (length out : Int)), (((length ((([] : List Int) ++ (take (Int.toNat k2) (drop 0 out))) ++ ([(i : Int)] : List Int)) : Nat) : Int) + (length (take (length out - (Int.toNat k2)) (drop (Int.toNat k2) out)) : Int) ≤ 4294967296)] ?_ ?_
       ·
        exact ⟨(by omega), (by (simp only [List.nil_append, List.length_append, List.length_take, List.length_drop, List.length_cons, List.length_nil]; omega)), trivial⟩
       refine AW.wf_arr (id := 272) (ep := 1) (t := (.int .i64)) (xs := ((((([] : List Int) ++ (take (Int.toNat k2) (drop 0 out))) ++ ([(i : Int)] : List Int)) ++ (take (length out - (Int.toNat k2)) (drop (Int.toNat k2) out))) : List Int)) (by kernel_rfl) fun ha191 _ => ?_; replace ha191 : ((length (((([] : List Int) ++ (take (Int.toNat k2) (drop 0 out))) ++ ([(i : Int)] : List Int)) ++ (take (length out - (Int.toNat k2)) (drop (Int.toNat k2) out))) : Nat) : Int) ≤ 4294967296 := ha191; refine r0U hC [1, 2, 5, 6] [8, 272] [(6, .int .i64 ((i + 1 : Nat) : Int))] [] [(-9223372036854775808 ≤ ((i + 1 : Nat) : Int) ∧ ((i + 1 : Nat) : Int) ≤ 9223372036854775807)] ?_ ?_
       ·
        exact ⟨(by omega), trivial⟩
       refine AW.backR (x := (i, out)) (i + 1, (((([] : List Int) ++ (take (Int.toNat k2) (drop 0 out))) ++ ([(i : Int)] : List Int)) ++ (take (length out - (Int.toNat k2)) (drop (Int.toNat k2) out)))) (Turn.of [1, 2, 5, 6] [8, 272] [(272, 36)] [1, 2, 5, 6] [8, 36] (by kernel_rfl)) ⟨?_, k135q, ?_, e185⟩ ?_
       · exact inv_ins hI0 (by omega)
       · omega
       · omega
    · intro h192q e193; refine kpU [5] [36] [] [] ?_; refine exit ?_; refine meet out (by kernel_rfl) ⟨?_, e193⟩; trivial
  · intro out hR; obtain ⟨hJ0, e194⟩ := hR; have e195 := e14.trans (then_eq e194); refine seq (AW.wf_arr (id := 36) (ep := 1) (t := (.int .i64)) (xs := (out : List Int)) (by kernel_rfl) fun ha196 _ => ?_); replace ha196 : (length out : Int) ≤ 4294967296 := ha196; refine r1U hC [4] [36] [(4, .arr 36 1)] [] ?_; exact ret (rS (.slice (.int .i64)) e195)

end
end Go.Proofs.Ytjcjpeckfikfkaa
