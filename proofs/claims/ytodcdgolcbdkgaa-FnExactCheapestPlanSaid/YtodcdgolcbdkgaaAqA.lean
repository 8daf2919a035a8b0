/-
  A part of the proof of this claim (AqA): what functions of the program compute, and plain facts of that. No conditions.
-/
import Derived.Test.YtodcdgolcbdkgaaApZ
set_option linter.all false
namespace Go.Proofs.Ytodcdgolcbdkgaa
open Go Go.Am
noncomputable section

theorem PSt.mk' {stats : List Sta} {p : Pln} (h : AllSt stats) (hw : widthOf p (statsWidths stats) ≠ 0) : PSt stats 8 p := by
 rw [← iPlanWidth_eq] at hw
 unfold iPlanWidth at hw
 rw [Pln.eta] at hw
 cases hv : ivalidWidths (statsWidths stats) with
 | false => rw [hv] at hw; exact absurd rfl hw
 | true =>
  rw [hv] at hw
  exact ⟨h, ivalidWidths_iff.1 hv, _, Nat.lt_succ_self _, Nat.le_refl _, hw⟩

theorem PSt.pe {stats : List Sta} {p : Pln} {l : Nat} (h : PSt stats l p) : PE stats p (Cel.mk 0) := by
 refine ⟨l, h, ?_, ?_⟩
 ·
  show (0 : Int) ≤ 0
  decide
 ·
  show (0 : Int) + ctop l ≤ _
  obtain ⟨_, _, f, _, h8, _⟩ := h
  have := ctop_le h8
  omega

def ecost_l0 (self : Pln → (List Sta) → Int) (p : Pln) (stats : List Sta) : Nat → Int → Nat → Int
 | 0, n, i => n
 | k + 1, n, i => (bif (decide (((i : Nat) : Int) < ((List.length (Pln.Kids p) : Nat) : Int))) then (ecost_l0 self p stats k (n + (self (List.getD (Pln.Kids p) i Pln.zero) stats)) (i + 1)) else n)

def ecost_r : Nat → Pln → (List Sta) → Int
 | 0, p, stats => 0
 | fuel + 1, p, stats => (Go.Am.andThen (ecost_l0 (ecost_r fuel) p stats ((List.length (Pln.Kids p)) - 0 + 1) (est (Pln.mk (Pln.Kind p) (Pln.Table p) (Pln.Exprs p) (Pln.Cols p) (Pln.Kids p)) stats) 0) (fun z => (fun (n : Int) => n) z))

def ecost (p : Pln) (stats : List Sta) : Int := ecost_r (SizeOf.sizeOf p + 1) p stats

def ecost_spn (fuel : Nat) : FnSpec := mkSpec [.val (.named 2), .val (.slice (.named 3))] [.val (.int .i64)] (fun (p : Pln) (stats : List Sta) => (∃ l, PSt stats l p) ∧ SizeOf.sizeOf p < fuel) (fun (p : Pln) (stats : List Sta) => [⟨(.int .i64), (ecost_r fuel p stats)⟩])

def ecost_sp : FnSpec := mkSpec [.val (.named 2), .val (.slice (.named 3))] [.val (.int .i64)] (fun (p : Pln) (stats : List Sta) => ∃ l, PSt stats l p) (fun (p : Pln) (stats : List Sta) => [⟨(.int .i64), (ecost p stats)⟩])

theorem ecl0 (self : Pln → (List Sta) → Int) (p : Pln) (stats : List Sta) (n : Int) (h : p.Kids.length = 0) : ecost_l0 self p stats ((List.length (Pln.Kids p)) - 0 + 1) n 0 = n := by
 rw [h]
 show ecost_l0 self p stats 1 n 0 = _
 rw [ecost_l0, ge_dec (by omega), cond_false]

theorem ecl1 (self : Pln → (List Sta) → Int) (p : Pln) (stats : List Sta) (n : Int) (h : p.Kids.length = 1) : ecost_l0 self p stats ((List.length (Pln.Kids p)) - 0 + 1) n 0 = n + self (List.getD p.Kids 0 Pln.zero) stats := by
 rw [h]
 show ecost_l0 self p stats 2 n 0 = _
 rw [ecost_l0, lt_dec (by omega), cond_true, ecost_l0, ge_dec (by omega), cond_false]

theorem ecl2 (self : Pln → (List Sta) → Int) (p : Pln) (stats : List Sta) (n : Int) (h : p.Kids.length = 2) : ecost_l0 self p stats ((List.length (Pln.Kids p)) - 0 + 1) n 0 = n + self (List.getD p.Kids 0 Pln.zero) stats + self (List.getD p.Kids 1 Pln.zero) stats := by
 rw [h]
 show ecost_l0 self p stats 3 n 0 = _
 rw [ecost_l0, lt_dec (by omega), cond_true, ecost_l0, lt_dec (by omega), cond_true, ecost_l0, ge_dec (by omega), cond_false]

theorem ec_eq (stats : List Sta) : ∀ (f : Nat) (p : Pln) (l : Nat) (c : Cel), PSt stats l p → SizeOf.sizeOf p < f → (iest_r f p stats c).2.v = c.v + ecost_r f p stats := by
 intro f
 induction f with
 | zero => intro p l c h hf; omega
 | succ f ih =>
  intro p l c h hf
  have hn : est p stats = (iest_r (f + 1) p stats c).1 := by
   rw [← est_eq stats (f + 1) p l c h]
   exact est_irrel stats _ _ p l h (Nat.lt_succ_self _) hf
  have ho := iest_out f p stats c
  have e1 : (iest_r (f + 1) p stats c).2.v = (iest_l0 (iest_r f) p stats ((List.length (Pln.Kids p)) - 0 + 1) 0 c.v (List.replicate 2 0)).1 + (iest_r (f + 1) p stats c).1 := by
   rw [ho]
  rw [e1, ← hn]
  unfold ecost_r
  simp only [Go.Am.andThen, Pln.eta]
  have kd : ∀ i, i < p.Kids.length → ∀ c' : Cel, (iest_r f (List.getD p.Kids i Pln.zero) stats c').2.v = c'.v + ecost_r f (List.getD p.Kids i Pln.zero) stats := fun i hi c' => by
   have := pkid_lt hi
   exact ih _ (l - 1) c' (h.kid hi).2 (by omega)
  by_cases h0 : p.Kids.length = 0
  ·
   rw [el0 _ _ _ _ h0, ecl0 _ _ _ _ h0]
  ·
   by_cases h1 : p.Kids.length = 1
   ·
    rw [el1 _ _ _ _ h1, ecl1 _ _ _ _ h1]
    show (iest_r f (List.getD p.Kids 0 Pln.zero) stats (Cel.mk c.v)).2.v + _ = _
    rw [kd 0 (by omega)]
    show c.v + _ + _ = _
    omega
   ·
    have h2 : p.Kids.length = 2 := by have := h.two; omega
    rw [el2 _ _ _ _ h2, ecl2 _ _ _ _ h2]
    show (iest_r f (List.getD p.Kids 1 Pln.zero) stats (Cel.mk (iest_r f (List.getD p.Kids 0 Pln.zero) stats (Cel.mk c.v)).2.v)).2.v + _ = _
    rw [kd 1 (by omega)]
    show (iest_r f (List.getD p.Kids 0 Pln.zero) stats (Cel.mk c.v)).2.v + _ + _ = _
    rw [kd 0 (by omega)]
    show c.v + _ + _ + _ = _
    omega

theorem ecost_b {stats : List Sta} {f l : Nat} {p : Pln} (h : PSt stats l p) (hs : SizeOf.sizeOf p < f) : 0 ≤ ecost_r f p stats ∧ ecost_r f p stats ≤ 600000000000 := by
 have e := ec_eq stats f p l (Cel.mk 0) h hs
 have b := (iest_b stats f p l (Cel.mk 0) h hs (by show (0 : Int) ≤ 0; decide)).2
 have e' : (iest_r f p stats (Cel.mk 0)).2.v = 0 + ecost_r f p stats := e
 have b' : (0 : Int) ≤ (iest_r f p stats (Cel.mk 0)).2.v ∧ (iest_r f p stats (Cel.mk 0)).2.v ≤ 0 + ctop l := b
 obtain ⟨_, _, g, _, h8, _⟩ := h
 have := ctop_le h8
 omega

theorem est_bb {stats : List Sta} {l : Nat} {p : Pln} (h : PSt stats l p) : 0 ≤ est p stats ∧ est p stats ≤ 1000000000 := est_b h (Nat.lt_succ_self _)

theorem ecost_okn (fuel : Nat) : FnOK Try.prog 70 (ecost_spn fuel) := by
 induction fuel with
 | zero => exact FnOK.never Try.func70 (by kernel_rfl) rfl (fun _ _ h => absurd h.2 (Nat.not_lt_zero _))
 | succ fuel ih => ?_
 have hC : CtxOK Try.prog (mkCtx tyL [(70, (ecost_spn fuel)), (83, est_sp)]) := CtxOK.cons ih (CtxOK.cons est_ok (CtxOK.nil tyOK))
 refine FnOK.of_body Try.func70 (by kernel_rfl) rfl (C := (mkCtx tyL [(70, (ecost_spn fuel)), (83, est_sp)])) hC.ty (by kernel_rfl) ?_
 intro (p : Pln) (stats : List Sta) hwf hpre E
 have hpre : (∃ l, PSt stats l p) ∧ SizeOf.sizeOf p < fuel + 1 := hpre
 have hw_p : Wf ⟨(.named 2), (p : Pln)⟩ := hwf _ (List.Mem.head _)
 obtain ⟨hr_p_Kind, hr_p_Table, hl_p_Exprs, hl_p_Cols, hl_p_Kids⟩ := Pln.wfl hw_p
 have hw_stats : Wf ⟨(.slice (.named 3)), (stats : List Sta)⟩ := hwf _ (List.Mem.tail _ (List.Mem.head _))
 have hl_stats : ((List.length stats : Nat) : Int) ≤ 9223372036854775807 := hw_stats.len
 obtain ⟨lv, hPS⟩ := hpre.1
 obtain ⟨hO, hT, -⟩ := hPS.pvw.pvn.of
 have hpc := parts2 (Pln.Kind p)
 have hOk := hO.kids
 have hOc := hO.kind
 have h2l := hPS.two
 have hOe := hO.exprs
 have hTl := statsWidths_len stats
 have e0 : ecost_r (fuel + 1) p stats = ecost_r (fuel + 1) p stats := rfl
 refine AW.seq (AW.r1 hC [1, 2] [8] ⟨[(1, sD11 stats), (2, .ref 8 1 0)], [(8, .box 1 [sI (Pln.Kind p), sI (Pln.Table p), sD9 (Pln.Exprs p), sD7 (Pln.Cols p), sD10 (Pln.Kids p)])]⟩ ?_)
 refine AW.seq (AW.r0 hC [1, 2, 5] [8] ⟨[(1, sD11 stats), (2, .ref 8 1 0), (5, sI (est (Pln.mk (Pln.Kind p) (Pln.Table p) (Pln.Exprs p) (Pln.Cols p) (Pln.Kids p)) stats))], [(8, .box 1 [sI (Pln.Kind p), sI (Pln.Table p), sD9 (Pln.Exprs p), sD7 (Pln.Cols p), sD10 (Pln.Kids p)])]⟩ [(∃ l, PSt stats l (Pln.mk (Pln.Kind p) (Pln.Table p) (Pln.Exprs p) (Pln.Cols p) (Pln.Kids p)))] ?_ ?_)
 ·
  refine ⟨?_, trivial⟩
  ·
   rw [Pln.eta]
   exact ⟨lv, hPS⟩
 refine AW.seq (AW.seq (AW.r1 hC [1, 2, 5, 6] [8] ⟨[(1, sD11 stats), (2, .ref 8 1 0), (5, sI (est (Pln.mk (Pln.Kind p) (Pln.Table p) (Pln.Exprs p) (Pln.Cols p) (Pln.Kids p)) stats)), (6, sI 0)], [(8, .box 1 [sI (Pln.Kind p), sI (Pln.Table p), sD9 (Pln.Exprs p), sD7 (Pln.Cols p), sD10 (Pln.Kids p)])]⟩ ?_))
 refine AW.cutQ (α := Int) (fun x => ⟨[(5, sI x)], []⟩) (fun x => (0 ≤ x ∧ x ≤ 1000000000000000) ∧ (ecost_l0 (ecost_r fuel) p stats ((List.length (Pln.Kids p)) - 0 + 1) (est (Pln.mk (Pln.Kind p) (Pln.Table p) (Pln.Exprs p) (Pln.Cols p) (Pln.Kids p)) stats) 0) = x) ?_ ?_
 ·
  skip
  refine AW.block (AW.loop (α := Int × Nat) (fun x => ⟨[(1, sD11 stats), (2, .ref 8 1 0), (5, sI x.1), (6, sI ((x.2 : Nat) : Int))], [(8, .box 1 [sI (Pln.Kind p), sI (Pln.Table p), sD9 (Pln.Exprs p), sD7 (Pln.Cols p), sD10 (Pln.Kids p)])]⟩) (fun x => ((0 ≤ x.1 ∧ x.1 ≤ 1000000000 + 600000000000 * (x.2 : Int)) ∧ x.2 ≤ List.length (Pln.Kids p)) ∧ ∃ k, (List.length (Pln.Kids p)) - x.2 < k ∧ (ecost_l0 (ecost_r fuel) p stats ((List.length (Pln.Kids p)) - 0 + 1) (est (Pln.mk (Pln.Kind p) (Pln.Table p) (Pln.Exprs p) (Pln.Cols p) (Pln.Kids p)) stats) 0) = ecost_l0 (ecost_r fuel) p stats k x.1 x.2) (fun x => (List.length (Pln.Kids p)) - x.2) ((est (Pln.mk (Pln.Kind p) (Pln.Table p) (Pln.Exprs p) (Pln.Cols p) (Pln.Kids p)) stats), 0) (by kernel_rfl) ⟨?_, _, Nat.lt_succ_self _, rfl⟩ ?_)
  ·
   show (0 ≤ (est (Pln.mk (Pln.Kind p) (Pln.Table p) (Pln.Exprs p) (Pln.Cols p) (Pln.Kids p)) stats) ∧ (est (Pln.mk (Pln.Kind p) (Pln.Table p) (Pln.Exprs p) (Pln.Cols p) (Pln.Kids p)) stats) ≤ 1000000000 + 600000000000 * (0 : Int)) ∧ 0 ≤ List.length (Pln.Kids p)
   have hb := est_bb hPS
   rw [Pln.eta]
   omega
  ·
   intro x hR
   obtain ⟨n, i⟩ := x
   obtain ⟨hI0, k15, hk13, e14⟩ := hR
   replace hI0 : (0 ≤ n ∧ n ≤ 1000000000 + 600000000000 * (i : Int)) ∧ i ≤ List.length (Pln.Kids p) := hI0
   replace hk13 : (List.length (Pln.Kids p)) - i < k15 := hk13
   obtain ⟨k15q, rfl⟩ : ∃ k, k15 = k + 1 := ⟨k15 - 1, by omega⟩
   refine AW.seq (AW.seq (AW.r1 hC [1, 2, 5, 6, 14] [8] ⟨[(1, sD11 stats), (2, .ref 8 1 0), (5, sI n), (6, sI ((i : Nat) : Int)), (14, sB (decide (((i : Nat) : Int) < ((List.length (Pln.Kids p) : Nat) : Int))))], [(8, .box 1 [sI (Pln.Kind p), sI (Pln.Table p), sD9 (Pln.Exprs p), sD7 (Pln.Cols p), sD10 (Pln.Kids p)])]⟩ ?_))
   refine AW.cd (decide (((i : Nat) : Int) < ((List.length (Pln.Kids p) : Nat) : Int))) ?_ ?_
   ·
    intro h16
    have h16q := (of_decide_eq_true h16)
    have e17 := e14.trans (Go.Am.bif_t h16)
    refine AW.kp [1, 2, 5, 6] [8] ⟨[(1, sD11 stats), (2, .ref 8 1 0), (5, sI n), (6, sI ((i : Nat) : Int))], [(8, .box 1 [sI (Pln.Kind p), sI (Pln.Table p), sD9 (Pln.Exprs p), sD7 (Pln.Cols p), sD10 (Pln.Kids p)])]⟩ ?_
    refine AW.skip (AW.seq (AW.block (AW.r0 hC [1, 2, 5, 6] [8] ⟨[(1, sD11 stats), (2, .ref 8 1 0), (5, sI (n + ((ecost_r fuel) (List.getD (Pln.Kids p) i Pln.zero) stats))), (6, sI ((i : Nat) : Int))], [(8, .box 1 [sI (Pln.Kind p), sI (Pln.Table p), sD9 (Pln.Exprs p), sD7 (Pln.Cols p), sD10 (Pln.Kids p)])]⟩ [IX ((i : Nat) : Int) ((List.length (Pln.Kids p) : Nat) : Int), ((∃ l, PSt stats l (List.getD (Pln.Kids p) i Pln.zero)) ∧ SizeOf.sizeOf (List.getD (Pln.Kids p) i Pln.zero) < fuel), R64 (n + ((ecost_r fuel) (List.getD (Pln.Kids p) i Pln.zero) stats))] ?_ ?_)))
    ·
     refine ⟨?_, ?_, ?_, trivial⟩
     ·
      refine IX.of ?_
      omega
     ·
      exact ⟨⟨lv - 1, (hPS.kid (by omega)).2⟩, Nat.lt_of_lt_of_le (pkid_lt (by omega)) (Nat.le_of_lt_succ hpre.2)⟩
     ·
      refine R64.of ?_
      have hlt := pkid_lt (t := p) (i := i) (by omega); have hb := ecost_b (f := fuel) (hPS.kid (i := i) (by omega)).2 (by omega); omega
    refine AW.r0 hC [1, 2, 5, 6] [8] ⟨[(1, sD11 stats), (2, .ref 8 1 0), (5, sI (n + ((ecost_r fuel) (List.getD (Pln.Kids p) i Pln.zero) stats))), (6, sI ((i + 1 : Nat) : Int))], [(8, .box 1 [sI (Pln.Kind p), sI (Pln.Table p), sD9 (Pln.Exprs p), sD7 (Pln.Cols p), sD10 (Pln.Kids p)])]⟩ [R64 ((i + 1 : Nat) : Int)] ?_ ?_
    ·
     refine ⟨?_, trivial⟩
     ·
      refine R64.of ?_
      omega
    refine AW.back (x := (n, i)) ((n + ((ecost_r fuel) (List.getD (Pln.Kids p) i Pln.zero) stats)), i + 1) (by kernel_rfl) ⟨?_, k15q, ?_, e17⟩ ?_
    ·
     show (0 ≤ (n + ((ecost_r fuel) (List.getD (Pln.Kids p) i Pln.zero) stats)) ∧ (n + ((ecost_r fuel) (List.getD (Pln.Kids p) i Pln.zero) stats)) ≤ 1000000000 + 600000000000 * ((i + 1) : Int)) ∧ (i + 1) ≤ List.length (Pln.Kids p)
     have hlt := pkid_lt (t := p) (i := i) (by omega)
     have hb := ecost_b (f := fuel) (hPS.kid (i := i) (by omega)).2 (by omega)
     omega
    ·
     show (List.length (Pln.Kids p)) - (i + 1) < k15q
     omega
    ·
     show (List.length (Pln.Kids p)) - (i + 1) < (List.length (Pln.Kids p)) - i
     omega
   ·
    intro h18
    have h18q := (of_decide_eq_false h18)
    have e19 := e14.trans (Go.Am.bif_f h18)
    refine AW.kp [5] [] ⟨[(5, sI n)], []⟩ ?_
    refine AW.exit ?_
    refine AW.meet n (by kernel_rfl) ⟨?_, e19⟩
    show 0 ≤ n ∧ n ≤ 1000000000000000
    omega
 ·
  intro n hR
  obtain ⟨hJ0, e20⟩ := hR
  replace hJ0 : 0 ≤ n ∧ n ≤ 1000000000000000 := hJ0
  have e21 := e0.trans (Go.Am.then_eq e20)
  refine AW.seq (AW.r1 hC [4] [] ⟨[(4, sI n)], []⟩ ?_)
  exact AW.ret (AW.rI n e21)

theorem ecost_fu : AllTV (ecost_sp.ps.map PK.ty) (fun tvs => ecost_sp.pre tvs → ∃ k, (ecost_spn k).pre tvs ∧ (ecost_spn k).fn tvs = ecost_sp.fn tvs ∧ (ecost_spn k).bx tvs = ecost_sp.bx tvs) :=
 (fun (p : Pln) (stats : List Sta) h => ⟨SizeOf.sizeOf p + 1, (show (∃ l, PSt stats l p) ∧ SizeOf.sizeOf p < SizeOf.sizeOf p + 1 from ⟨h, Nat.lt_succ_self _⟩), (show (ecost_spn (SizeOf.sizeOf p + 1)).fn [⟨(.named 2), (p : Pln)⟩, ⟨(.slice (.named 3)), (stats : List Sta)⟩] = ([⟨(.int .i64), (ecost_r (SizeOf.sizeOf p + 1) p stats)⟩] : List TV) from by kernel_rfl).trans (show ([⟨(.int .i64), (ecost_r (SizeOf.sizeOf p + 1) p stats)⟩] : List TV) = ecost_sp.fn [⟨(.named 2), (p : Pln)⟩, ⟨(.slice (.named 3)), (stats : List Sta)⟩] from by kernel_rfl), by kernel_rfl⟩)

theorem ecost_ok : FnOK Try.prog 70 ecost_sp := FnOK.of_fuel ecost_okn (fun _ => rfl) (fun _ => rfl) (AllTV.get ecost_fu)

end
end Go.Proofs.Ytodcdgolcbdkgaa
