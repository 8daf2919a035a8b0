/-
  A part of the proof of this claim (AoT2): what functions of the program compute, and plain facts of that. No conditions.
-/
import Derived.Test.YtclennmbceaoeaaAoI6
import Derived.Test.YtclennmbceaoeaaAoS2
import Derived.Test.YtclennmbceaoeaaAoL
set_option linter.all false
namespace Go.Proofs.Ytclennmbceaoeaa
open Go Go.Am

/-! ### Costs of orders, as a fold -/

def om : List Int → Int → Int
 | [], m => m
 | x :: l, m => om l (bits .or .i64 m ((1 : Int) * 2 ^ Int.toNat x))

noncomputable def ocl (g : Graph) : List Int → Int → Int → Bool → Int
 | [], _, c, _ => c
 | x :: l, m, c, b => ocl g l (bits .or .i64 m ((1 : Int) * 2 ^ Int.toNat x)) (bif b then c + subsetSize g (bits .or .i64 m ((1 : Int) * 2 ^ Int.toNat x)) else c) true

theorem orderCost_l0_ocl (g : Graph) (l : List Int) : ∀ (k : Nat) (m c : Int) (i : Nat), l.length - i < k → orderCost_l0 g l k m c i = ocl g (l.drop i) m c (decide (0 < i)) := by
 intro k
 induction k with
 | zero => intro m c i h; omega
 | succ k ih =>
  intro m c i h; unfold orderCost_l0; by_cases hlt : i < l.length
  ·
   rw [lt_dec hlt, cond_true, List.drop_eq_getElem_cons hlt]; unfold ocl; rw [ih _ _ (i + 1) (by omega), ih _ _ (i + 1) (by omega), show decide (0 < i + 1) = true from decide_eq_true (by omega), getD_at l i hlt]; by_cases h0 : 0 < i
   · rw [decide_eq_true h0, decide_eq_true (show (0 : Int) < ((i : Nat) : Int) by omega)]; rfl
   · rw [decide_eq_false h0, decide_eq_false (show ¬ (0 : Int) < ((i : Nat) : Int) by omega)]; rfl
  · rw [ge_dec hlt, cond_false, List.drop_eq_nil_of_le (by omega)]; rfl

theorem orderCost_ocl (g : Graph) (l : List Int) : orderCost g l = ocl g l 0 0 false := by
 show orderCost_l0 g l (l.length - 0 + 1) 0 0 0 = _; rw [orderCost_l0_ocl g l _ 0 0 0 (by omega)]; rfl

theorem om_snoc (x : Int) : ∀ (l : List Int) (m : Int), om (l ++ [x]) m = bits .or .i64 (om l m) ((1 : Int) * 2 ^ Int.toNat x) := by
 intro l
 induction l with
 | nil => intro m; rfl
 | cons y l ih => intro m; exact ih _

theorem ocl_snoc (g : Graph) (x : Int) : ∀ (l : List Int) (m c : Int) (b : Bool), ocl g (l ++ [x]) m c b = (bif (b || !l.isEmpty) then ocl g l m c b + subsetSize g (bits .or .i64 (om l m) ((1 : Int) * 2 ^ Int.toNat x)) else ocl g l m c b) := by
 intro l
 induction l with
 | nil =>
  intro m c b; cases b <;> rfl
 | cons y l ih =>
  intro m c b; show ocl g (l ++ [x]) _ _ true = _; rw [ih]; cases b <;> rfl

theorem orderCost_snoc (g : Graph) (x : Int) (l : List Int) : orderCost g (l ++ [x]) = orderCost g l + (bif !l.isEmpty then subsetSize g (bits .or .i64 (om l 0) ((1 : Int) * 2 ^ Int.toNat x)) else 0) := by
 rw [orderCost_ocl, orderCost_ocl, ocl_snoc]
 cases l.isEmpty with
 | true => exact (Int.add_zero _).symm
 | false => rfl

structure MU (n : Nat) (l : List Int) (u : Int) : Prop where
 km : MK n l u
 oe : u = om l 0

theorem MU.next {n : Nat} {l : List Int} {u : Int} (h : MU n l u) (hn : n ≤ 5) {i : Nat} (hi : i < n) (hb : bits .and .i64 u ((1 : Int) * 2 ^ i) = 0) : MU n (l ++ [((i : Nat) : Int)]) (bits .or .i64 u ((1 : Int) * 2 ^ i)) :=
 ⟨h.km.next hn hi hb, by rw [om_snoc, ← h.oe, Int.toNat_natCast]⟩

theorem oc_bd {g : Graph} (hV : VG g) {l : List Int} {u : Int} (h : MU g.Rows.length l u) : 0 ≤ orderCost g l ∧ orderCost g l ≤ 1000000000000000 * (l.length : Int) := by
 have := orderCost_l0_b hV h.km.rl (l.length - 0 + 1) 0 0 0 (by decide) (by decide) (Nat.zero_le _); show 0 ≤ orderCost_l0 g l (l.length - 0 + 1) 0 0 0 ∧ orderCost_l0 g l (l.length - 0 + 1) 0 0 0 ≤ _; omega

theorem nonempty_iff {n : Nat} (hn : n ≤ 5) {l : List Int} {u : Int} (h : MU n l u) : (u != 0) = !l.isEmpty := by
 have h0 := h.km.m0; have h32 := h.km.lt32 hn
 cases l with
 | nil =>
  have : u = 0 := h.oe; rw [this]; rfl
 | cons x l =>
  have hp := h.km.pc
  have : u ≠ 0 := by
   rintro rfl; (have hz : pc (0 : Int).toNat = 0 := by decide); rw [hz] at hp; simp at hp
  rw [bne_iff_ne.2 this]; rfl

theorem oc_next {g : Graph} (hV : VG g) {l : List Int} {u : Int} (h : MU g.Rows.length l u) {i : Nat} (hi : i < g.Rows.length) (hb : bits .and .i64 u ((1 : Int) * 2 ^ i) = 0) :
  orderCost g l + (bif u != 0 then gSize g (bits .or .i64 u ((1 : Int) * 2 ^ i)) else 0) = orderCost g (l ++ [((i : Nat) : Int)]) := by
 have h5 := hV.n5; have hx := h.next h5 hi hb; have h1 := hx.km.m0; have h2 := hx.km.lt32 h5; rw [orderCost_snoc, nonempty_iff h5 h, ← h.oe, Int.toNat_natCast, size_eq hV h1 (by omega)]

theorem has_and {u : Int} {n : Nat} (hn : n ≤ 5) {l : List Int} (h : MU n l u) {i : Nat} (hi : i < n) : has u ((i : Nat) : Int) = (bits .and .i64 u ((1 : Int) * 2 ^ i) != 0) := by
 have h2 := h.km.lt32 hn; exact (has_bit h.km.m0 (by omega) (by omega)).symm

theorem all_pc : ∀ n : Fin 6, pc ((1 : Int) * 2 ^ n.val - 1).toNat = n.val := by decide +kernel

theorem all_iff {g : Graph} (hV : VG g) {l : List Int} {u : Int} (h : MU g.Rows.length l u) : (u == gAll g) = (((List.length l : Nat) : Int) == ((List.length (Graph.Rows g) : Nat) : Int)) := by
 have h5 := hV.n5; by_cases e : u = gAll g
 ·
  have := all_pc ⟨g.Rows.length, by omega⟩; have hp := h.km.pc; rw [e] at hp
  have : l.length = g.Rows.length := hp.symm.trans this
  rw [beq_iff_eq.2 e, this]; exact (beq_iff_eq.2 rfl).symm
 · have : ¬ l.length = g.Rows.length := fun hl => e (h.km.all hV (by omega)); rw [beq_false_of_ne e, beq_false_of_ne (by omega)]

def RB (r : Rz) : Prop := -1 ≤ r.2 ∧ r.2 ≤ 5000000000000000

theorem ext_RB {g : Graph} (hV : VG g) (f : Nat) {l : List Int} {u : Int} {r : Rz} (h : MU g.Rows.length l u) (hr : RB r) : RB (ext g f l u (orderCost g l) r) := ext_bd hV f l u _ r h.km (oc_bd hV h) hr

theorem leaf_same (l : List Int) (c : Int) {b : List Int} {co : Int} (hr : RB (b, co)) : (bif (bif (decide (co < 0)) then true else (decide (c < co))) then ((([] : List Int) ++ l), c) else (b, co)) = leaf l c (b, co) := by
 unfold leaf
 have : decide (co < 0) = (co == -1) := by
  by_cases e : co = -1
  · rw [e]; rfl
  · rw [beq_false_of_ne e, decide_eq_false (by have := hr.1; simp only at this; omega)]
 rw [this]; rfl

theorem cut_back {l : List Int} {x : Int} : List.take (Int.toNat (((List.length (l ++ ([x] : List Int)) : Nat) : Int) - 1)) (l ++ ([x] : List Int)) = l := by
 rw [List.length_append, show Int.toNat (((l.length + ([x] : List Int).length : Nat) : Int) - 1) = l.length by simp only [List.length_cons, List.length_nil]; omega, List.take_left']; rfl

theorem used_back {n : Nat} (hn : n ≤ 5) {l : List Int} {u : Int} (h : MU n l u) {i : Nat} (hi : i < n) (hh : has u ((i : Nat) : Int) = false) : bits .or .i64 u ((1 : Int) * 2 ^ i) - (1 : Int) * 2 ^ i = u := by
 have h1 := h.km.m0; have h2 := h.km.lt32 hn; have := or_sub ⟨u.toNat, by omega⟩ ⟨i, by omega⟩
 simp only [Int.toNat_of_nonneg h1] at this
 exact this hh

theorem c_4 {g : Graph} (hV : VG g) {l : List Int} {u : Int} (h : MU g.Rows.length l u) (hl : l.length = 4) {r : Rz} (hr : RB r) {i : Nat} (hi : i < g.Rows.length) (hb : bits .and .i64 u ((1 : Int) * 2 ^ i) = 0) :
  BestOrder_c0 g i r.1 r.2 l = ext g 0 (l ++ [((i : Nat) : Int)]) (bits .or .i64 u ((1 : Int) * 2 ^ i)) (orderCost g (l ++ [((i : Nat) : Int)])) r := by
 have h5 := hV.n5; have hx := h.next h5 hi hb; unfold BestOrder_c0 ext; rw [beq_iff_eq.2 (hx.km.all hV (by rw [List.length_append, hl]; exact h5)), cond_true]; exact leaf_same _ _ hr

theorem l_4 {g : Graph} (hV : VG g) {l : List Int} {u : Int} (h : MU g.Rows.length l u) (hl : l.length = 4) : ∀ (k i : Nat) {r : Rz}, RB r →
  BestOrder_l4 g k i u r.1 r.2 l = (u, (extL g (ext g 0) l u (orderCost g l) k i r).1, (extL g (ext g 0) l u (orderCost g l) k i r).2, l) := by
 have h5 := hV.n5; intro k
 induction k with
 | zero => intro i r hr; rfl
 | succ k ih =>
  intro i r hr; unfold BestOrder_l4 extL; by_cases hlt : i < g.Rows.length
  ·
   rw [lt_dec hlt, cond_true, cond_true, has_and h5 h hlt]; by_cases hb : bits .and .i64 u ((1 : Int) * 2 ^ i) = 0
   · have hx := h.next h5 hlt hb; rw [show (bits .and .i64 u ((1 : Int) * 2 ^ i) != 0) = false by rw [hb]; rfl, Bool.not_false, cond_true, cond_false]; unfold Go.Am.andThen; rw [c_4 hV h hl hr hlt hb, used_back h5 h hlt (by rw [has_and h5 h hlt, hb]; rfl)]; have e := ih (i + 1) (ext_RB hV 0 hx hr); rw [← oc_next hV h hlt hb] at e; rw [← e, oc_next hV h hlt hb]; dsimp only; rw [cut_back]
   · rw [show (bits .and .i64 u ((1 : Int) * 2 ^ i) != 0) = true from bne_iff_ne.2 hb, Bool.not_true, cond_true, cond_false]; exact ih (i + 1) hr
  · rw [ge_dec hlt, cond_false, cond_false]

theorem c_3 {g : Graph} (hV : VG g) {l : List Int} {u : Int} (h : MU g.Rows.length l u) (hl : l.length = 3) {r : Rz} (hr : RB r) {i : Nat} (hi : i < g.Rows.length) (hb : bits .and .i64 u ((1 : Int) * 2 ^ i) = 0) :
  BestOrder_c1 g i u r.1 r.2 l = (bits .or .i64 u ((1 : Int) * 2 ^ i), (ext g 1 (l ++ [((i : Nat) : Int)]) (bits .or .i64 u ((1 : Int) * 2 ^ i)) (orderCost g (l ++ [((i : Nat) : Int)])) r).1, (ext g 1 (l ++ [((i : Nat) : Int)]) (bits .or .i64 u ((1 : Int) * 2 ^ i)) (orderCost g (l ++ [((i : Nat) : Int)])) r).2, l ++ [((i : Nat) : Int)]) := by
 have h5 := hV.n5; have hx := h.next h5 hi hb; (have hxl : (l ++ [((i : Nat) : Int)]).length = 4 := by rw [List.length_append, hl]; rfl); unfold BestOrder_c1 ext; rw [all_iff hV hx]
 cases (((List.length (l ++ [((i : Nat) : Int)]) : Nat) : Int) == ((List.length (Graph.Rows g) : Nat) : Int)) with
 | true =>
  rw [cond_true, cond_true, ← leaf_same (l ++ [((i : Nat) : Int)]) (orderCost g (l ++ [((i : Nat) : Int)])) hr]
  cases (bif (decide (r.2 < 0)) then true else (decide (orderCost g (l ++ [((i : Nat) : Int)]) < r.2))) with
  | true => rfl
  | false => rfl
 | false =>
  rw [cond_false, cond_false]; exact l_4 hV hx hxl (List.length (Graph.Rows g) - 0 + 1) 0 hr

theorem l_3 {g : Graph} (hV : VG g) {l : List Int} {u : Int} (h : MU g.Rows.length l u) (hl : l.length = 3) : ∀ (k i : Nat) {r : Rz}, RB r →
  BestOrder_l3 g k i u r.1 r.2 l = (u, (extL g (ext g 1) l u (orderCost g l) k i r).1, (extL g (ext g 1) l u (orderCost g l) k i r).2, l) := by
 have h5 := hV.n5; intro k
 induction k with
 | zero => intro i r hr; rfl
 | succ k ih =>
  intro i r hr; unfold BestOrder_l3 extL; by_cases hlt : i < g.Rows.length
  ·
   rw [lt_dec hlt, cond_true, cond_true, has_and h5 h hlt]; by_cases hb : bits .and .i64 u ((1 : Int) * 2 ^ i) = 0
   · have hx := h.next h5 hlt hb; rw [show (bits .and .i64 u ((1 : Int) * 2 ^ i) != 0) = false by rw [hb]; rfl, Bool.not_false, cond_true, cond_false]; unfold Go.Am.andThen; rw [c_3 hV h hl hr hlt hb]; have e := ih (i + 1) (ext_RB hV 1 hx hr); rw [← oc_next hV h hlt hb] at e; rw [← e, oc_next hV h hlt hb]; dsimp only; rw [cut_back, used_back h5 h hlt (by rw [has_and h5 h hlt, hb]; rfl)]
   · rw [show (bits .and .i64 u ((1 : Int) * 2 ^ i) != 0) = true from bne_iff_ne.2 hb, Bool.not_true, cond_true, cond_false]; exact ih (i + 1) hr
  · rw [ge_dec hlt, cond_false, cond_false]

theorem c_2 {g : Graph} (hV : VG g) {l : List Int} {u : Int} (h : MU g.Rows.length l u) (hl : l.length = 2) {r : Rz} (hr : RB r) {i : Nat} (hi : i < g.Rows.length) (hb : bits .and .i64 u ((1 : Int) * 2 ^ i) = 0) :
  BestOrder_c2 g i u r.1 r.2 l = (bits .or .i64 u ((1 : Int) * 2 ^ i), (ext g 2 (l ++ [((i : Nat) : Int)]) (bits .or .i64 u ((1 : Int) * 2 ^ i)) (orderCost g (l ++ [((i : Nat) : Int)])) r).1, (ext g 2 (l ++ [((i : Nat) : Int)]) (bits .or .i64 u ((1 : Int) * 2 ^ i)) (orderCost g (l ++ [((i : Nat) : Int)])) r).2, l ++ [((i : Nat) : Int)]) := by
 have h5 := hV.n5; have hx := h.next h5 hi hb; (have hxl : (l ++ [((i : Nat) : Int)]).length = 3 := by rw [List.length_append, hl]; rfl); unfold BestOrder_c2 ext; rw [all_iff hV hx]
 cases (((List.length (l ++ [((i : Nat) : Int)]) : Nat) : Int) == ((List.length (Graph.Rows g) : Nat) : Int)) with
 | true =>
  rw [cond_true, cond_true, ← leaf_same (l ++ [((i : Nat) : Int)]) (orderCost g (l ++ [((i : Nat) : Int)])) hr]
  cases (bif (decide (r.2 < 0)) then true else (decide (orderCost g (l ++ [((i : Nat) : Int)]) < r.2))) with
  | true => rfl
  | false => rfl
 | false =>
  rw [cond_false, cond_false]; exact l_3 hV hx hxl (List.length (Graph.Rows g) - 0 + 1) 0 hr

theorem l_2 {g : Graph} (hV : VG g) {l : List Int} {u : Int} (h : MU g.Rows.length l u) (hl : l.length = 2) : ∀ (k i : Nat) {r : Rz}, RB r →
  BestOrder_l2 g k i u r.1 r.2 l = (u, (extL g (ext g 2) l u (orderCost g l) k i r).1, (extL g (ext g 2) l u (orderCost g l) k i r).2, l) := by
 have h5 := hV.n5; intro k
 induction k with
 | zero => intro i r hr; rfl
 | succ k ih =>
  intro i r hr; unfold BestOrder_l2 extL; by_cases hlt : i < g.Rows.length
  ·
   rw [lt_dec hlt, cond_true, cond_true, has_and h5 h hlt]; by_cases hb : bits .and .i64 u ((1 : Int) * 2 ^ i) = 0
   · have hx := h.next h5 hlt hb; rw [show (bits .and .i64 u ((1 : Int) * 2 ^ i) != 0) = false by rw [hb]; rfl, Bool.not_false, cond_true, cond_false]; unfold Go.Am.andThen; rw [c_2 hV h hl hr hlt hb]; have e := ih (i + 1) (ext_RB hV 2 hx hr); rw [← oc_next hV h hlt hb] at e; rw [← e, oc_next hV h hlt hb]; dsimp only; rw [cut_back, used_back h5 h hlt (by rw [has_and h5 h hlt, hb]; rfl)]
   · rw [show (bits .and .i64 u ((1 : Int) * 2 ^ i) != 0) = true from bne_iff_ne.2 hb, Bool.not_true, cond_true, cond_false]; exact ih (i + 1) hr
  · rw [ge_dec hlt, cond_false, cond_false]

theorem c_1 {g : Graph} (hV : VG g) {l : List Int} {u : Int} (h : MU g.Rows.length l u) (hl : l.length = 1) {r : Rz} (hr : RB r) {i : Nat} (hi : i < g.Rows.length) (hb : bits .and .i64 u ((1 : Int) * 2 ^ i) = 0) :
  BestOrder_c3 g i u r.1 r.2 l = (bits .or .i64 u ((1 : Int) * 2 ^ i), (ext g 3 (l ++ [((i : Nat) : Int)]) (bits .or .i64 u ((1 : Int) * 2 ^ i)) (orderCost g (l ++ [((i : Nat) : Int)])) r).1, (ext g 3 (l ++ [((i : Nat) : Int)]) (bits .or .i64 u ((1 : Int) * 2 ^ i)) (orderCost g (l ++ [((i : Nat) : Int)])) r).2, l ++ [((i : Nat) : Int)]) := by
 have h5 := hV.n5; have hx := h.next h5 hi hb; (have hxl : (l ++ [((i : Nat) : Int)]).length = 2 := by rw [List.length_append, hl]; rfl); unfold BestOrder_c3 ext; rw [all_iff hV hx]
 cases (((List.length (l ++ [((i : Nat) : Int)]) : Nat) : Int) == ((List.length (Graph.Rows g) : Nat) : Int)) with
 | true =>
  rw [cond_true, cond_true, ← leaf_same (l ++ [((i : Nat) : Int)]) (orderCost g (l ++ [((i : Nat) : Int)])) hr]
  cases (bif (decide (r.2 < 0)) then true else (decide (orderCost g (l ++ [((i : Nat) : Int)]) < r.2))) with
  | true => rfl
  | false => rfl
 | false =>
  rw [cond_false, cond_false]; exact l_2 hV hx hxl (List.length (Graph.Rows g) - 0 + 1) 0 hr

theorem l_1 {g : Graph} (hV : VG g) {l : List Int} {u : Int} (h : MU g.Rows.length l u) (hl : l.length = 1) : ∀ (k i : Nat) {r : Rz}, RB r →
  BestOrder_l1 g k i u r.1 r.2 l = (u, (extL g (ext g 3) l u (orderCost g l) k i r).1, (extL g (ext g 3) l u (orderCost g l) k i r).2, l) := by
 have h5 := hV.n5; intro k
 induction k with
 | zero => intro i r hr; rfl
 | succ k ih =>
  intro i r hr; unfold BestOrder_l1 extL; by_cases hlt : i < g.Rows.length
  ·
   rw [lt_dec hlt, cond_true, cond_true, has_and h5 h hlt]; by_cases hb : bits .and .i64 u ((1 : Int) * 2 ^ i) = 0
   · have hx := h.next h5 hlt hb; rw [show (bits .and .i64 u ((1 : Int) * 2 ^ i) != 0) = false by rw [hb]; rfl, Bool.not_false, cond_true, cond_false]; unfold Go.Am.andThen; rw [c_1 hV h hl hr hlt hb]; have e := ih (i + 1) (ext_RB hV 3 hx hr); rw [← oc_next hV h hlt hb] at e; rw [← e, oc_next hV h hlt hb]; dsimp only; rw [cut_back, used_back h5 h hlt (by rw [has_and h5 h hlt, hb]; rfl)]
   · rw [show (bits .and .i64 u ((1 : Int) * 2 ^ i) != 0) = true from bne_iff_ne.2 hb, Bool.not_true, cond_true, cond_false]; exact ih (i + 1) hr
  · rw [ge_dec hlt, cond_false, cond_false]

theorem c_0 {g : Graph} (hV : VG g) {l : List Int} {u : Int} (h : MU g.Rows.length l u) (hl : l.length = 0) {r : Rz} (hr : RB r) {i : Nat} (hi : i < g.Rows.length) (hb : bits .and .i64 u ((1 : Int) * 2 ^ i) = 0) :
  BestOrder_c4 g i u r.1 r.2 l = (bits .or .i64 u ((1 : Int) * 2 ^ i), (ext g 4 (l ++ [((i : Nat) : Int)]) (bits .or .i64 u ((1 : Int) * 2 ^ i)) (orderCost g (l ++ [((i : Nat) : Int)])) r).1, (ext g 4 (l ++ [((i : Nat) : Int)]) (bits .or .i64 u ((1 : Int) * 2 ^ i)) (orderCost g (l ++ [((i : Nat) : Int)])) r).2, l ++ [((i : Nat) : Int)]) := by
 have h5 := hV.n5; have hx := h.next h5 hi hb; (have hxl : (l ++ [((i : Nat) : Int)]).length = 1 := by rw [List.length_append, hl]; rfl); unfold BestOrder_c4 ext; rw [all_iff hV hx]
 cases (((List.length (l ++ [((i : Nat) : Int)]) : Nat) : Int) == ((List.length (Graph.Rows g) : Nat) : Int)) with
 | true =>
  rw [cond_true, cond_true, ← leaf_same (l ++ [((i : Nat) : Int)]) (orderCost g (l ++ [((i : Nat) : Int)])) hr]
  cases (bif (decide (r.2 < 0)) then true else (decide (orderCost g (l ++ [((i : Nat) : Int)]) < r.2))) with
  | true => rfl
  | false => rfl
 | false =>
  rw [cond_false, cond_false]; exact l_1 hV hx hxl (List.length (Graph.Rows g) - 0 + 1) 0 hr

theorem l_0 {g : Graph} (hV : VG g) {l : List Int} {u : Int} (h : MU g.Rows.length l u) (hl : l.length = 0) : ∀ (k i : Nat) {r : Rz}, RB r →
  BestOrder_l0 g k i u r.1 r.2 l = (u, (extL g (ext g 4) l u (orderCost g l) k i r).1, (extL g (ext g 4) l u (orderCost g l) k i r).2, l) := by
 have h5 := hV.n5; intro k
 induction k with
 | zero => intro i r hr; rfl
 | succ k ih =>
  intro i r hr; unfold BestOrder_l0 extL; by_cases hlt : i < g.Rows.length
  ·
   rw [lt_dec hlt, cond_true, cond_true, has_and h5 h hlt]; by_cases hb : bits .and .i64 u ((1 : Int) * 2 ^ i) = 0
   · have hx := h.next h5 hlt hb; rw [show (bits .and .i64 u ((1 : Int) * 2 ^ i) != 0) = false by rw [hb]; rfl, Bool.not_false, cond_true, cond_false]; unfold Go.Am.andThen; rw [c_0 hV h hl hr hlt hb]; have e := ih (i + 1) (ext_RB hV 4 hx hr); rw [← oc_next hV h hlt hb] at e; rw [← e, oc_next hV h hlt hb]; dsimp only; rw [cut_back, used_back h5 h hlt (by rw [has_and h5 h hlt, hb]; rfl)]
   · rw [show (bits .and .i64 u ((1 : Int) * 2 ^ i) != 0) = true from bne_iff_ne.2 hb, Bool.not_true, cond_true, cond_false]; exact ih (i + 1) hr
  · rw [ge_dec hlt, cond_false, cond_false]

theorem ext_fuel {g : Graph} (hV : VG g) : ∀ (f f' : Nat) (l : List Int) (m c : Int) (r : Rz), MK g.Rows.length l m → g.Rows.length ≤ l.length + f → g.Rows.length ≤ l.length + f' → ext g f l m c r = ext g f' l m c r := by
 have h5 := hV.n5
 have zero : ∀ (f : Nat) (l : List Int) (m c : Int) (r : Rz), MK g.Rows.length l m → g.Rows.length ≤ l.length → ext g f l m c r = leaf l c r := by
  intro f l m c r h hl
  cases f with
  | zero => unfold ext; rw [beq_iff_eq.2 (h.all hV hl), cond_true]
  | succ f => unfold ext; rw [beq_iff_eq.2 (h.all hV hl), cond_true]
 intro f
 induction f with
 | zero =>
  intro f' l m c r h h1 h2; rw [zero 0 l m c r h (by omega), zero f' l m c r h (by omega)]
 | succ f ih =>
  intro f' l m c r h h1 h2
  cases f' with
  | zero => rw [zero _ l m c r h (by omega), zero 0 l m c r h (by omega)]
  | succ f' =>
   unfold ext
   cases (m == gAll g) with
   | true => rfl
   | false =>
    rw [cond_false, cond_false]
    have key : ∀ (k i : Nat) (r : Rz), extL g (ext g f) l m c k i r = extL g (ext g f') l m c k i r := by
     intro k
     induction k with
     | zero => intro i r; rfl
     | succ k ihk =>
      intro i r; unfold extL; by_cases hlt : i < g.Rows.length
      ·
       rw [decide_eq_true (by omega), cond_true, cond_true]; by_cases hb : bits .and .i64 m ((1 : Int) * 2 ^ i) = 0
       · rw [show (bits .and .i64 m ((1 : Int) * 2 ^ i) != 0) = false by rw [hb]; rfl, cond_false, cond_false, ih f' _ _ _ r (h.next h5 hlt hb) (by rw [List.length_append]; simp; omega) (by rw [List.length_append]; simp; omega)]; exact ihk _ _
       · rw [show (bits .and .i64 m ((1 : Int) * 2 ^ i) != 0) = true from bne_iff_ne.2 hb, cond_true, cond_true]; exact ihk _ _
      · rw [decide_eq_false (by omega), cond_false, cond_false]
    exact key _ _ _

theorem MU.zero {g : Graph} (hV : VG g) : MU g.Rows.length [] 0 := ⟨MK.zero hV, rfl⟩

theorem BestOrder_same (g : Graph) : iBestOrder g = BestOrder g := by
 unfold iBestOrder BestOrder; rw [vg_eq]
 cases hv : ValidGraph g with
 | false => rfl
 | true =>
  have hV := ValidGraph_iff.1 hv; have h1 := hV.n1; have h5 := hV.n5; have hA := gAll_1 hV; rw [Bool.not_true, cond_false, cond_false, ext_fuel hV (List.length g.Rows) 5 [] 0 0 ([], -1) (MK.zero hV) (by simp) (by simp; exact h5)]; have hm : ((0 : Int) == gAll g) = false := beq_false_of_ne (by omega)
  have e : ext g 5 [] 0 0 ([], -1) = extL g (ext g 4) [] 0 0 (List.length (Graph.Rows g) - 0 + 1) 0 ([], -1) := by
   (conv => lhs; unfold ext); rw [hm, cond_false]
  rw [e]; have h0 : orderCost g [] = 0 := rfl; have := l_0 hV (MU.zero hV) rfl (List.length (Graph.Rows g) - 0 + 1) 0 (r := ([], -1)) ⟨by decide, by decide⟩
  rw [h0] at this
  unfold Go.Am.andThen; rw [this]

end Go.Proofs.Ytclennmbceaoeaa
