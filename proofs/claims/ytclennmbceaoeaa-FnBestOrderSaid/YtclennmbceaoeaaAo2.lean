/-
  A part of the proof of this claim (Ao2): what functions of the program compute, and plain facts of that. No conditions.
-/
import Derived.Test.YtclennmbceaoeaaAo1
set_option linter.all false
namespace Go.Proofs.Ytclennmbceaoeaa
open Go Go.Am
noncomputable section

theorem pow5 {i : Nat} (h : i ≤ 5) : (1 : Int) ≤ 1000 ^ i ∧ (1000 : Int) ^ i ≤ 1000000000000000 := by
 match i, h with
 | 0, _ | 1, _ | 2, _ | 3, _ | 4, _ | 5, _ => decide

theorem pow2 {n : Nat} (h : n ≤ 40) : (1 : Int) ≤ 1 * 2 ^ n ∧ (1 : Int) * 2 ^ n ≤ 1099511627776 := by
 have h1 : 2 ^ n ≤ 2 ^ 40 := Nat.pow_le_pow_right (by decide) h; have h2 : 1 ≤ 2 ^ n := Nat.one_le_two_pow; (have : ((2 : Int) ^ n) = ((2 ^ n : Nat) : Int) := by push_cast; rfl); omega

theorem times {n r : Int} {i : Nat} (h1 : 1 ≤ n) (h2 : n ≤ 1000 ^ i) (h3 : 1 ≤ r) (h4 : r ≤ 1000) : 1 ≤ n * r ∧ n * r ≤ 1000 ^ (i + 1) := by
 constructor
 ·
  have := Int.mul_le_mul h1 h3 (by decide) (by omega)
  simpa using this
 · rw [Int.pow_succ]; exact Int.mul_le_mul h2 h4 (by omega) (by omega)

theorem grow5 {n : Int} {i : Nat} (h2 : n ≤ 1000 ^ i) : n ≤ 1000 ^ (i + 1) := by
 have : (0 : Int) ≤ 1000 ^ i := Int.pow_nonneg (by decide); rw [Int.pow_succ]; omega

theorem divs {n d : Int} (h1 : 0 ≤ n) (h2 : 1 ≤ d) : 0 ≤ n / d ∧ n / d ≤ n := ⟨Int.ediv_nonneg h1 (by omega), Int.ediv_le_self _ h1⟩

def gAll (g : Graph) : Int := (((1 : Int) * 2 ^ (List.length (Graph.Rows g))) - 1)

def gAll_sp : FnSpec := mkSpec [.rd (.named 1)] [.val (.int .i64)] (fun (g : Graph) => g.Rows.length ≤ 40) (fun (g : Graph) => [⟨(.int .i64), (gAll g)⟩])

theorem gAll_ok : FnOK Try.prog 23 gAll_sp := by
 have hC : CtxOK Try.prog (mkCtx tyL []) := CtxOK.nil tyOK; refine FnOK.of_body Try.func23 (by kernel_rfl) rfl (C := (mkCtx tyL [])) hC.ty (by kernel_rfl) ?_; intro (g : Graph) hwf hpre E; have hpre : g.Rows.length ≤ 40 := hpre; have hw_g : Wf ⟨(.named 1), (g : Graph)⟩ := hwf _ (List.Mem.head _); have hl_g_Rows : ((List.length (Graph.Rows g) : Nat) : Int) ≤ 9223372036854775807 := (hw_g.field (tv := ⟨(.slice (.int .i64)), Graph.Rows g⟩) (List.Mem.head _)).len; have hl_g_Edges : ((List.length (Graph.Edges g) : Nat) : Int) ≤ 9223372036854775807 := (hw_g.field (tv := ⟨(.slice (.named 0)), Graph.Edges g⟩) (List.Mem.tail _ (List.Mem.head _))).len; have e0 : gAll g = gAll g := rfl; refine AW.seq (AW.r1U hC [0] [] [] [] ?_); refine AW.seq (AW.r0 hC [2] [] ⟨[(2, .int .i64 (((1 : Int) * 2 ^ (List.length (Graph.Rows g))) - 1))], []⟩ [(0 ≤ ((List.length (Graph.Rows g) : Nat) : Int) ∧ ((List.length (Graph.Rows g) : Nat) : Int) ≤ 64), (-9223372036854775808 ≤ ((1 : Int) * 2 ^ (List.length (Graph.Rows g))) ∧ ((1 : Int) * 2 ^ (List.length (Graph.Rows g))) ≤ 9223372036854775807), (-9223372036854775808 ≤ (((1 : Int) * 2 ^ (List.length (Graph.Rows g))) - 1) ∧ (((1 : Int) * 2 ^ (List.length (Graph.Rows g))) - 1) ≤ 9223372036854775807)] ?_ ?_)
 ·
  refine ⟨?_, ?_, ?_, trivial⟩
  · first | (omega) | ((dsimp only; omega)) | ((simp only [lens] at *; omega))
  · have := pow2 hpre; omega
  · have := pow2 hpre; omega
 exact AW.ret (AW.retE (β := Int) (fun v => [⟨(.int .i64), v⟩]) (fun v => []) (v := (((1 : Int) * 2 ^ (List.length (Graph.Rows g))) - 1)) e0 (by kernel_rfl) rfl rfl)

def gSize_l0 (g : Graph) (mask : Int) : Nat → Int → Nat → Int
 | 0, n1, v15 => n1
 | k + 1, n1, v15 => (bif (decide (((v15 : Nat) : Int) < ((List.length (Graph.Rows g) : Nat) : Int))) then (bif ((bits .and .i64 mask ((1 : Int) * 2 ^ v15)) != 0) then (gSize_l0 g mask k (n1 * (List.getD (Graph.Rows g) v15 0)) (v15 + 1)) else (gSize_l0 g mask k n1 (v15 + 1))) else n1)

def gSize_l1 (g : Graph) (mask : Int) : Nat → Int → Nat → Int
 | 0, n, v34 => n
 | k + 1, n, v34 => (bif (decide (((v34 : Nat) : Int) < ((List.length (Graph.Edges g) : Nat) : Int))) then (bif (bif ((bits .and .i64 mask ((1 : Int) * 2 ^ (Int.toNat (Edge.A (List.getD (Graph.Edges g) v34 Edge.zero))))) != 0) then ((bits .and .i64 mask ((1 : Int) * 2 ^ (Int.toNat (Edge.B (List.getD (Graph.Edges g) v34 Edge.zero))))) != 0) else false) then (gSize_l1 g mask k (n / (Edge.Den (List.getD (Graph.Edges g) v34 Edge.zero))) (v34 + 1)) else (gSize_l1 g mask k n (v34 + 1))) else n)

def gSize (g : Graph) (mask : Int) : Int := (Go.Am.andThen (gSize_l0 g mask ((List.length (Graph.Rows g)) - 0 + 1) 1 0) (fun z => (fun (n1 : Int) => (Go.Am.andThen (gSize_l1 g mask ((List.length (Graph.Edges g)) - 0 + 1) n1 0) (fun z => (fun (n : Int) => (if 1 > n then 1 else n)) z))) z))

def gSize_sp : FnSpec := mkSpec [.rd (.named 1), .val (.int .i64)] [.val (.int .i64)] (fun (g : Graph) (mask : Int) => VG g ∧ True) (fun (g : Graph) (mask : Int) => [⟨(.int .i64), (gSize g mask)⟩])

theorem gSize_ok : FnOK Try.prog 25 gSize_sp := by
 have hC : CtxOK Try.prog (mkCtx tyL []) := CtxOK.nil tyOK; refine FnOK.of_body Try.func25 (by kernel_rfl) rfl (C := (mkCtx tyL [])) hC.ty (by kernel_rfl) ?_; intro (g : Graph) (mask : Int) hwf hpre E; have hpre : VG g ∧ True := hpre; have hw_g : Wf ⟨(.named 1), (g : Graph)⟩ := hwf _ (List.Mem.head _); have hl_g_Rows : ((List.length (Graph.Rows g) : Nat) : Int) ≤ 9223372036854775807 := (hw_g.field (tv := ⟨(.slice (.int .i64)), Graph.Rows g⟩) (List.Mem.head _)).len; have hl_g_Edges : ((List.length (Graph.Edges g) : Nat) : Int) ≤ 9223372036854775807 := (hw_g.field (tv := ⟨(.slice (.named 0)), Graph.Edges g⟩) (List.Mem.tail _ (List.Mem.head _))).len; have hw_mask : Wf ⟨(.int .i64), (mask : Int)⟩ := hwf _ (List.Mem.tail _ (List.Mem.head _)); have hr_mask : -9223372036854775808 ≤ mask ∧ mask ≤ 9223372036854775807 := hw_mask.int_inv; have hV : VG g := hpre.1; have e0 : gSize g mask = gSize g mask := rfl; refine AW.seq (AW.r1U hC [0, 1] [] [] [] ?_); refine AW.seq (AW.r1U hC [0, 1, 5] [] [(5, .int .i64 1)] [] ?_); refine AW.seq (AW.seq (AW.r1U hC [0, 1, 5, 13, 14, 15] [] [(13, .data (.slice (.int .i64)) ((Graph.Rows g) : List Int)), (14, .int .i64 ((List.length (Graph.Rows g) : Nat) : Int)), (15, .int .i64 0)] [] ?_)); refine AW.lpB (ζ := Int) (fun x => ⟨[(0, .dref (.named 1) (g : Graph)), (1, .int .i64 mask), (5, .int .i64 x)], []⟩) (fun x => 0 ≤ x ∧ x ≤ 1000000000000000) (fun x => x) (α := Int × Nat) (fun x => ⟨[(0, .dref (.named 1) (g : Graph)), (1, .int .i64 mask), (5, .int .i64 x.1), (13, .data (.slice (.int .i64)) ((Graph.Rows g) : List Int)), (14, .int .i64 ((List.length (Graph.Rows g) : Nat) : Int)), (15, .int .i64 ((x.2 : Nat) : Int))], []⟩) (fun x => (1 ≤ x.1 ∧ x.1 ≤ 1000 ^ x.2) ∧ x.2 ≤ 5) (fun x => (List.length (Graph.Rows g)) - x.2) (fun k x => gSize_l0 g mask k x.1 x.2) (1, 0) (by kernel_rfl) ?_ ?_ ?_
 · first | exact ⟨⟨by decide, by decide⟩, by omega⟩ | (dsimp only; exact ⟨⟨by decide, by decide⟩, by omega⟩) | (show (1 ≤ 1 ∧ 1 ≤ 1000 ^ 0) ∧ 0 ≤ 5; exact ⟨⟨by decide, by decide⟩, by omega⟩)
 ·
  intro x k35q hI0 hk33 e34; obtain ⟨n1, v15⟩ := x; (first | dsimp only at e34 | skip); replace hI0 : (1 ≤ n1 ∧ n1 ≤ 1000 ^ v15) ∧ v15 ≤ 5 := hI0; have hr := fun (h : v15 < g.Rows.length) => hV.rows _ (getD_mem g.Rows v15 0 h); have hn5 := hV.n5; have hp5 := fun (h : v15 < 5) => pow5 (i := v15 + 1) (by omega); refine AW.seq (AW.r1U hC [0, 1, 5, 13, 14, 15, 16] [] [(16, .bool (decide (((v15 : Nat) : Int) < ((List.length (Graph.Rows g) : Nat) : Int))))] [] ?_); refine AW.seq (AW.cdE e34 ?_ ?_)
  ·
   intro h36q e37; refine AW.kpU [0, 1, 5, 13, 14, 15] [] [] [] ?_; refine AW.skip (AW.seq (AW.block (AW.seq (AW.r0U hC [0, 1, 5, 6, 7, 13, 14, 15] [] [(6, .int .i64 ((v15 : Nat) : Int)), (7, .int .i64 (List.getD (Graph.Rows g) v15 0))] [] [(0 ≤ ((v15 : Nat) : Int) ∧ ((v15 : Nat) : Int) < ((List.length (Graph.Rows g) : Nat) : Int))] ?_ ?_))))
   ·
    refine ⟨?_, trivial⟩
    · first | (omega) | ((dsimp only; omega)) | ((simp only [lens] at *; omega))
   refine AW.seq (AW.r0U hC [0, 1, 5, 7, 13, 14, 15, 24] [] [(24, .bool ((bits .and .i64 mask ((1 : Int) * 2 ^ v15)) != 0))] [] [(0 ≤ ((v15 : Nat) : Int) ∧ ((v15 : Nat) : Int) ≤ 64), (-9223372036854775808 ≤ ((1 : Int) * 2 ^ v15) ∧ ((1 : Int) * 2 ^ v15) ≤ 9223372036854775807)] ?_ ?_)
   ·
    refine ⟨?_, ?_, trivial⟩
    · first | (omega) | ((dsimp only; omega)) | ((simp only [lens] at *; omega))
    · have := pow2 (n := v15) (by omega); omega
   refine AW.cdE e37 ?_ ?_
   ·
    intro h38q e39; refine AW.r0U hC [0, 1, 5, 13, 14, 15] [] [(5, .int .i64 (n1 * (List.getD (Graph.Rows g) v15 0)))] [] [(-9223372036854775808 ≤ (n1 * (List.getD (Graph.Rows g) v15 0)) ∧ (n1 * (List.getD (Graph.Rows g) v15 0)) ≤ 9223372036854775807)] ?_ ?_
    ·
     refine ⟨?_, trivial⟩
     · have := times hI0.1.1 hI0.1.2 (hr (by omega)).1 (hr (by omega)).2; have := hp5 (by omega); omega
    refine AW.r0U hC [0, 1, 5, 13, 14, 15] [] [(15, .int .i64 ((v15 + 1 : Nat) : Int))] [] [(-9223372036854775808 ≤ ((v15 + 1 : Nat) : Int) ∧ ((v15 + 1 : Nat) : Int) ≤ 9223372036854775807)] ?_ ?_
    ·
     refine ⟨?_, trivial⟩
     · first | (omega) | ((dsimp only; omega)) | ((simp only [lens] at *; omega))
    refine AW.bk ((n1 * (List.getD (Graph.Rows g) v15 0)), v15 + 1) e39 hk33 ?_ ?_
    · first | exact ⟨times hI0.1.1 hI0.1.2 (hr (by omega)).1 (hr (by omega)).2, by omega⟩ | (dsimp only; exact ⟨times hI0.1.1 hI0.1.2 (hr (by omega)).1 (hr (by omega)).2, by omega⟩) | (show (1 ≤ (n1 * (List.getD (Graph.Rows g) v15 0)) ∧ (n1 * (List.getD (Graph.Rows g) v15 0)) ≤ 1000 ^ (v15 + 1)) ∧ (v15 + 1) ≤ 5; exact ⟨times hI0.1.1 hI0.1.2 (hr (by omega)).1 (hr (by omega)).2, by omega⟩)
    · first | omega | (simp only [lens]; omega) | (dsimp only; omega) | (dsimp only; (simp only [lens]; omega)) | (show (List.length (Graph.Rows g)) - (v15 + 1) < (List.length (Graph.Rows g)) - v15; omega) | (show (List.length (Graph.Rows g)) - (v15 + 1) < (List.length (Graph.Rows g)) - v15; (simp only [lens]; omega))
   ·
    intro h40q e41; refine AW.kpU [0, 1, 5, 13, 14, 15] [] [] [] ?_; refine AW.skip (AW.r0U hC [0, 1, 5, 13, 14, 15] [] [(15, .int .i64 ((v15 + 1 : Nat) : Int))] [] [(-9223372036854775808 ≤ ((v15 + 1 : Nat) : Int) ∧ ((v15 + 1 : Nat) : Int) ≤ 9223372036854775807)] ?_ ?_)
    ·
     refine ⟨?_, trivial⟩
     · first | (omega) | ((dsimp only; omega)) | ((simp only [lens] at *; omega))
    refine AW.bk (n1, v15 + 1) e41 hk33 ?_ ?_
    · first | exact ⟨⟨hI0.1.1, grow5 hI0.1.2⟩, by omega⟩ | (dsimp only; exact ⟨⟨hI0.1.1, grow5 hI0.1.2⟩, by omega⟩) | (show (1 ≤ n1 ∧ n1 ≤ 1000 ^ (v15 + 1)) ∧ (v15 + 1) ≤ 5; exact ⟨⟨hI0.1.1, grow5 hI0.1.2⟩, by omega⟩)
    · first | omega | (simp only [lens]; omega) | (dsimp only; omega) | (dsimp only; (simp only [lens]; omega)) | (show (List.length (Graph.Rows g)) - (v15 + 1) < (List.length (Graph.Rows g)) - v15; omega) | (show (List.length (Graph.Rows g)) - (v15 + 1) < (List.length (Graph.Rows g)) - v15; (simp only [lens]; omega))
  · intro h42q e43; refine AW.kpU [0, 1, 5] [] [] [] ?_; refine AW.exit ?_; refine AW.meet n1 (by kernel_rfl) ⟨?_, e43⟩; first | have := pow5 hI0.2; omega | (dsimp only; have := pow5 hI0.2; omega) | (show 0 ≤ n1 ∧ n1 ≤ 1000000000000000; have := pow5 hI0.2; omega)
 ·
  intro n1 hJ0 e44; replace hJ0 : 0 ≤ n1 ∧ n1 ≤ 1000000000000000 := hJ0; have e45 := e0.trans (Go.Am.then_eq e44); (first | dsimp only at e45 | skip); refine AW.seq (AW.seq (AW.r1U hC [1, 5, 32, 33, 34] [] [(32, .data (.slice (.named 0)) ((Graph.Edges g) : List Edge)), (33, .int .i64 ((List.length (Graph.Edges g) : Nat) : Int)), (34, .int .i64 0)] [] ?_)); refine AW.lpB (ζ := Int) (fun x => ⟨[(5, .int .i64 x)], []⟩) (fun x => 0 ≤ x ∧ x ≤ 1000000000000000) (fun x => x) (α := Int × Nat) (fun x => ⟨[(1, .int .i64 mask), (5, .int .i64 x.1), (32, .data (.slice (.named 0)) ((Graph.Edges g) : List Edge)), (33, .int .i64 ((List.length (Graph.Edges g) : Nat) : Int)), (34, .int .i64 ((x.2 : Nat) : Int))], []⟩) (fun x => 0 ≤ x.1 ∧ x.1 ≤ 1000000000000000) (fun x => (List.length (Graph.Edges g)) - x.2) (fun k x => gSize_l1 g mask k x.1 x.2) (n1, 0) (by kernel_rfl) ?_ ?_ ?_
  · first | exact hJ0 | (dsimp only; exact hJ0) | (show 0 ≤ n1 ∧ n1 ≤ 1000000000000000; exact hJ0)
  ·
   intro x k72q hI1 hk70 e71; obtain ⟨n, v34⟩ := x; (first | dsimp only at e71 | skip); replace hI1 : 0 ≤ n ∧ n ≤ 1000000000000000 := hI1; have he := fun (h : v34 < g.Edges.length) => hV.edges _ (getD_mem g.Edges v34 Edge.zero h); have hn6 := hV.e6; have hn5 := hV.n5; refine AW.seq (AW.r1U hC [1, 5, 32, 33, 34, 35] [] [(35, .bool (decide (((v34 : Nat) : Int) < ((List.length (Graph.Edges g) : Nat) : Int))))] [] ?_); refine AW.seq (AW.cdE e71 ?_ ?_)
   ·
    intro h73q e74; refine AW.kpU [1, 5, 32, 33, 34] [] [] [] ?_; refine AW.skip (AW.seq (AW.block (AW.seq (AW.r0U hC [1, 5, 9, 32, 33, 34] [36] [(9, .ref 36 1 0)] [(36, .box 1 [.int .i64 (Edge.A (List.getD (Graph.Edges g) v34 Edge.zero)), .int .i64 (Edge.B (List.getD (Graph.Edges g) v34 Edge.zero)), .int .i64 (Edge.Den (List.getD (Graph.Edges g) v34 Edge.zero))])] [(0 ≤ ((v34 : Nat) : Int) ∧ ((v34 : Nat) : Int) < ((List.length (Graph.Edges g) : Nat) : Int))] ?_ ?_))))
    ·
     refine ⟨?_, trivial⟩
     · first | (omega) | ((have h := he (by omega); omega))
    refine AW.seq (AW.r0U hC [1, 5, 9, 32, 33, 34, 51] [36] [(51, .bool (bif ((bits .and .i64 mask ((1 : Int) * 2 ^ (Int.toNat (Edge.A (List.getD (Graph.Edges g) v34 Edge.zero))))) != 0) then ((bits .and .i64 mask ((1 : Int) * 2 ^ (Int.toNat (Edge.B (List.getD (Graph.Edges g) v34 Edge.zero))))) != 0) else false))] [] [(0 ≤ (Edge.A (List.getD (Graph.Edges g) v34 Edge.zero)) ∧ (Edge.A (List.getD (Graph.Edges g) v34 Edge.zero)) ≤ 64), (-9223372036854775808 ≤ ((1 : Int) * 2 ^ (Int.toNat (Edge.A (List.getD (Graph.Edges g) v34 Edge.zero)))) ∧ ((1 : Int) * 2 ^ (Int.toNat (Edge.A (List.getD (Graph.Edges g) v34 Edge.zero)))) ≤ 9223372036854775807), ((((bits .and .i64 mask ((1 : Int) * 2 ^ (Int.toNat (Edge.A (List.getD (Graph.Edges g) v34 Edge.zero))))) != 0) = true) → ((((bits .and .i64 mask ((1 : Int) * 2 ^ (Int.toNat (Edge.A (List.getD (Graph.Edges g) v34 Edge.zero))))) != 0) = true))), ((((bits .and .i64 mask ((1 : Int) * 2 ^ (Int.toNat (Edge.A (List.getD (Graph.Edges g) v34 Edge.zero))))) != 0) = true) → ((((bits .and .i64 mask ((1 : Int) * 2 ^ (Int.toNat (Edge.A (List.getD (Graph.Edges g) v34 Edge.zero))))) != 0) = true))), ((((bits .and .i64 mask ((1 : Int) * 2 ^ (Int.toNat (Edge.A (List.getD (Graph.Edges g) v34 Edge.zero))))) != 0) = true) → (0 ≤ (Edge.B (List.getD (Graph.Edges g) v34 Edge.zero)) ∧ (Edge.B (List.getD (Graph.Edges g) v34 Edge.zero)) ≤ 64)), ((((bits .and .i64 mask ((1 : Int) * 2 ^ (Int.toNat (Edge.A (List.getD (Graph.Edges g) v34 Edge.zero))))) != 0) = true) → (-9223372036854775808 ≤ ((1 : Int) * 2 ^ (Int.toNat (Edge.B (List.getD (Graph.Edges g) v34 Edge.zero)))) ∧ ((1 : Int) * 2 ^ (Int.toNat (Edge.B (List.getD (Graph.Edges g) v34 Edge.zero)))) ≤ 9223372036854775807)), ((((bits .and .i64 mask ((1 : Int) * 2 ^ (Int.toNat (Edge.A (List.getD (Graph.Edges g) v34 Edge.zero))))) != 0) = true) → ((((bits .and .i64 mask ((1 : Int) * 2 ^ (Int.toNat (Edge.A (List.getD (Graph.Edges g) v34 Edge.zero))))) != 0) = true))), ((((bits .and .i64 mask ((1 : Int) * 2 ^ (Int.toNat (Edge.A (List.getD (Graph.Edges g) v34 Edge.zero))))) != 0) = true) → ((((bits .and .i64 mask ((1 : Int) * 2 ^ (Int.toNat (Edge.A (List.getD (Graph.Edges g) v34 Edge.zero))))) != 0) = true))), ((((bits .and .i64 mask ((1 : Int) * 2 ^ (Int.toNat (Edge.A (List.getD (Graph.Edges g) v34 Edge.zero))))) != 0) = true) → ((((bits .and .i64 mask ((1 : Int) * 2 ^ (Int.toNat (Edge.A (List.getD (Graph.Edges g) v34 Edge.zero))))) != 0) = true))), ((((bits .and .i64 mask ((1 : Int) * 2 ^ (Int.toNat (Edge.A (List.getD (Graph.Edges g) v34 Edge.zero))))) != 0) = true) → ((((bits .and .i64 mask ((1 : Int) * 2 ^ (Int.toNat (Edge.A (List.getD (Graph.Edges g) v34 Edge.zero))))) != 0) = true)))] ?_ ?_)
    ·
     refine ⟨?_, ?_, ?_, ?_, ?_, ?_, ?_, ?_, ?_, ?_, trivial⟩
     · first | (omega) | ((have h := he (by omega); omega))
     · have h := he (by omega); have ha := pow2 (n := Int.toNat (Edge.A (List.getD g.Edges v34 Edge.zero))) (by omega); have hb := pow2 (n := Int.toNat (Edge.B (List.getD g.Edges v34 Edge.zero))) (by omega); omega
     · first | (intro g75; assumption) | (intro g75; exact ⟨by assumption, by assumption⟩) | (intro g75; (have g75p0 : (bits .and .i64 mask ((1 : Int) * 2 ^ (Int.toNat (Edge.A (List.getD (Graph.Edges g) v34 Edge.zero))))) ≠ 0 := (Go.Am.bne_pos g75)); assumption) | (intro g75; (have g75p0 : (bits .and .i64 mask ((1 : Int) * 2 ^ (Int.toNat (Edge.A (List.getD (Graph.Edges g) v34 Edge.zero))))) ≠ 0 := (Go.Am.bne_pos g75)); exact ⟨by assumption, by assumption⟩)
     · first | (intro g76; assumption) | (intro g76; exact ⟨by assumption, by assumption⟩) | (intro g76; (have g76p0 : (bits .and .i64 mask ((1 : Int) * 2 ^ (Int.toNat (Edge.A (List.getD (Graph.Edges g) v34 Edge.zero))))) ≠ 0 := (Go.Am.bne_pos g76)); assumption) | (intro g76; (have g76p0 : (bits .and .i64 mask ((1 : Int) * 2 ^ (Int.toNat (Edge.A (List.getD (Graph.Edges g) v34 Edge.zero))))) ≠ 0 := (Go.Am.bne_pos g76)); exact ⟨by assumption, by assumption⟩)
     · first | (intro g77; omega) | (intro g77; (have h := he (by omega); omega)) | (intro g77; (have g77p0 : (bits .and .i64 mask ((1 : Int) * 2 ^ (Int.toNat (Edge.A (List.getD (Graph.Edges g) v34 Edge.zero))))) ≠ 0 := (Go.Am.bne_pos g77)); omega) | (intro g77; (have g77p0 : (bits .and .i64 mask ((1 : Int) * 2 ^ (Int.toNat (Edge.A (List.getD (Graph.Edges g) v34 Edge.zero))))) ≠ 0 := (Go.Am.bne_pos g77)); (have h := he (by omega); omega))
     · first | (intro g78; have h := he (by omega); have ha := pow2 (n := Int.toNat (Edge.A (List.getD g.Edges v34 Edge.zero))) (by omega); have hb := pow2 (n := Int.toNat (Edge.B (List.getD g.Edges v34 Edge.zero))) (by omega); omega) | (intro g78; (have g78p0 : (bits .and .i64 mask ((1 : Int) * 2 ^ (Int.toNat (Edge.A (List.getD (Graph.Edges g) v34 Edge.zero))))) ≠ 0 := (Go.Am.bne_pos g78)); have h := he (by omega); have ha := pow2 (n := Int.toNat (Edge.A (List.getD g.Edges v34 Edge.zero))) (by omega); have hb := pow2 (n := Int.toNat (Edge.B (List.getD g.Edges v34 Edge.zero))) (by omega); omega)
     · first | (intro g79; assumption) | (intro g79; exact ⟨by assumption, by assumption⟩) | (intro g79; (have g79p0 : (bits .and .i64 mask ((1 : Int) * 2 ^ (Int.toNat (Edge.A (List.getD (Graph.Edges g) v34 Edge.zero))))) ≠ 0 := (Go.Am.bne_pos g79)); assumption) | (intro g79; (have g79p0 : (bits .and .i64 mask ((1 : Int) * 2 ^ (Int.toNat (Edge.A (List.getD (Graph.Edges g) v34 Edge.zero))))) ≠ 0 := (Go.Am.bne_pos g79)); exact ⟨by assumption, by assumption⟩)
     · first | (intro g80; assumption) | (intro g80; exact ⟨by assumption, by assumption⟩) | (intro g80; (have g80p0 : (bits .and .i64 mask ((1 : Int) * 2 ^ (Int.toNat (Edge.A (List.getD (Graph.Edges g) v34 Edge.zero))))) ≠ 0 := (Go.Am.bne_pos g80)); assumption) | (intro g80; (have g80p0 : (bits .and .i64 mask ((1 : Int) * 2 ^ (Int.toNat (Edge.A (List.getD (Graph.Edges g) v34 Edge.zero))))) ≠ 0 := (Go.Am.bne_pos g80)); exact ⟨by assumption, by assumption⟩)
     · first | (intro g81; assumption) | (intro g81; exact ⟨by assumption, by assumption⟩) | (intro g81; (have g81p0 : (bits .and .i64 mask ((1 : Int) * 2 ^ (Int.toNat (Edge.A (List.getD (Graph.Edges g) v34 Edge.zero))))) ≠ 0 := (Go.Am.bne_pos g81)); assumption) | (intro g81; (have g81p0 : (bits .and .i64 mask ((1 : Int) * 2 ^ (Int.toNat (Edge.A (List.getD (Graph.Edges g) v34 Edge.zero))))) ≠ 0 := (Go.Am.bne_pos g81)); exact ⟨by assumption, by assumption⟩)
     · first | (intro g82; assumption) | (intro g82; exact ⟨by assumption, by assumption⟩) | (intro g82; (have g82p0 : (bits .and .i64 mask ((1 : Int) * 2 ^ (Int.toNat (Edge.A (List.getD (Graph.Edges g) v34 Edge.zero))))) ≠ 0 := (Go.Am.bne_pos g82)); assumption) | (intro g82; (have g82p0 : (bits .and .i64 mask ((1 : Int) * 2 ^ (Int.toNat (Edge.A (List.getD (Graph.Edges g) v34 Edge.zero))))) ≠ 0 := (Go.Am.bne_pos g82)); exact ⟨by assumption, by assumption⟩)
    refine AW.cdE e74 ?_ ?_
    ·
     intro h83q e84; refine AW.r0U hC [1, 5, 32, 33, 34] [] [(5, .int .i64 (n / (Edge.Den (List.getD (Graph.Edges g) v34 Edge.zero))))] [] [(0 ≤ n ∧ 0 < (Edge.Den (List.getD (Graph.Edges g) v34 Edge.zero)))] ?_ ?_
     ·
      refine ⟨?_, trivial⟩
      · first | (omega) | ((have h := he (by omega); omega))
     refine AW.r0U hC [1, 5, 32, 33, 34] [] [(34, .int .i64 ((v34 + 1 : Nat) : Int))] [] [(-9223372036854775808 ≤ ((v34 + 1 : Nat) : Int) ∧ ((v34 + 1 : Nat) : Int) ≤ 9223372036854775807)] ?_ ?_
     ·
      refine ⟨?_, trivial⟩
      · first | (omega) | ((dsimp only; omega)) | ((simp only [lens] at *; omega))
     refine AW.bk ((n / (Edge.Den (List.getD (Graph.Edges g) v34 Edge.zero))), v34 + 1) e84 hk70 ?_ ?_
     · first | have := divs hI1.1 (he (by omega)).2.2.2.1; omega | (dsimp only; have := divs hI1.1 (he (by omega)).2.2.2.1; omega) | (show 0 ≤ (n / (Edge.Den (List.getD (Graph.Edges g) v34 Edge.zero))) ∧ (n / (Edge.Den (List.getD (Graph.Edges g) v34 Edge.zero))) ≤ 1000000000000000; have := divs hI1.1 (he (by omega)).2.2.2.1; omega)
     · first | omega | (simp only [lens]; omega) | (dsimp only; omega) | (dsimp only; (simp only [lens]; omega)) | (show (List.length (Graph.Edges g)) - (v34 + 1) < (List.length (Graph.Edges g)) - v34; omega) | (show (List.length (Graph.Edges g)) - (v34 + 1) < (List.length (Graph.Edges g)) - v34; (simp only [lens]; omega))
    ·
     intro h85q e86; refine AW.kpU [1, 5, 32, 33, 34] [] [] [] ?_; refine AW.skip (AW.r0U hC [1, 5, 32, 33, 34] [] [(34, .int .i64 ((v34 + 1 : Nat) : Int))] [] [(-9223372036854775808 ≤ ((v34 + 1 : Nat) : Int) ∧ ((v34 + 1 : Nat) : Int) ≤ 9223372036854775807)] ?_ ?_)
     ·
      refine ⟨?_, trivial⟩
      · first | (omega) | ((dsimp only; omega)) | ((simp only [lens] at *; omega))
     refine AW.bk (n, v34 + 1) e86 hk70 ?_ ?_
     · first | exact hI1 | (dsimp only; exact hI1) | (show 0 ≤ n ∧ n ≤ 1000000000000000; exact hI1)
     · first | omega | (simp only [lens]; omega) | (dsimp only; omega) | (dsimp only; (simp only [lens]; omega)) | (show (List.length (Graph.Edges g)) - (v34 + 1) < (List.length (Graph.Edges g)) - v34; omega) | (show (List.length (Graph.Edges g)) - (v34 + 1) < (List.length (Graph.Edges g)) - v34; (simp only [lens]; omega))
   · intro h87q e88; refine AW.kpU [5] [] [] [] ?_; refine AW.exit ?_; refine AW.meet n (by kernel_rfl) ⟨?_, e88⟩; first | exact hI1 | (dsimp only; exact hI1) | (show 0 ≤ n ∧ n ≤ 1000000000000000; exact hI1)
  · intro n hJ1 e89; replace hJ1 : 0 ≤ n ∧ n ≤ 1000000000000000 := hJ1; have e90 := e45.trans (Go.Am.then_eq e89); (first | dsimp only at e90 | skip); refine AW.seq (AW.r1 hC [4] [] ⟨[(4, .int .i64 (if 1 > n then 1 else n))], []⟩ ?_); exact AW.ret (AW.retE (β := Int) (fun v => [⟨(.int .i64), v⟩]) (fun v => []) (v := (if 1 > n then 1 else n)) e90 (by kernel_rfl) rfl rfl)

end
end Go.Proofs.Ytclennmbceaoeaa
