/-
  A part of the proof of this claim (AxG2): what functions of the program compute, and plain facts of that. No conditions.
-/
import Derived.Test.YtgbapklfgjnggaaAxU
import Derived.Test.YtgbapklfgjnggaaAnZ
import Derived.Test.YtgbapklfgjnggaaChecked
import Derived.Test.YtgbapklfgjnggaaAxD
import Derived.Test.YtgbapklfgjnggaaAxX
import Derived.Test.YtgbapklfgjnggaaAnG
import Derived.Test.YtgbapklfgjnggaaAxM
set_option linter.all false
namespace Go.Proofs.Ytgbapklfgjnggaa
open Go Go.Am Go.RowKit

set_option maxHeartbeats 4000000 in
set_option maxRecDepth 1000000 in
theorem del78 : DelC Try.prog 78 2 where
 fn := ⟨_, _, Try.func78, rfl, rfl⟩
 row := by
  intro w b D cs el n i j hh hsz hD hn hij hj hone; obtain ⟨i0, hi0, hz0, hz1, hz2⟩ := info_parts (show (Try.prog.info? 43).map (fun i => (i.zero, i.size, i.bytes)) = some (some (.agg #[.int .i64 0, .slice none 0 0]), 2, 32) by kernel_rfl); (have hT : Try.prog.underlying 41 = some (.slice 43) := by kernel_rfl); have hzv : ∀ w, (zeroValue 43).run Try.prog w = .ok (.agg #[.int .i64 0, .slice none 0 0]) w := fun w => by simp [zeroValue, typeInfo, hi0, hz0]
  have hcell : ∀ k, k < n * 2 → ∃ v, w.cell? ⟨b, k, none⟩ = some v ∧ cs[k]? = some v ∧ v.oneCell' = true := by
   intro k hk; obtain ⟨v, h1, h2⟩ := hone k hk; exact ⟨v, by unfold World.cell?; rw [hh]; exact h1, h1, h2⟩
  have hfr : ∀ k, w.frozen? ⟨b, k, none⟩ = false := by
   intro k; unfold World.frozen?; rw [hh]; simp
  obtain ⟨news, hnews⟩ : ∃ news, news = (cs.toList.drop (j * 2)).take ((n - j) * 2) := ⟨_, rfl⟩
  have hlen : news.length = (n - j) * 2 := by
   rw [hnews, List.length_take, List.length_drop, Array.length_toList, hsz]; omega
  have hget : ∀ t, t < (n - j) * 2 → news[t]? = cs[j * 2 + t]? := by
   intro t ht; rw [hnews, List.getElem?_take, if_pos ht, List.getElem?_drop, Array.getElem?_toList]
  obtain ⟨A, hA, hsrc⟩ : ∃ A : Addr, (if D = j then some (⟨b, 0, none⟩ : Addr) else some ⟨b, j * 2, none⟩) = some A ∧ Hid (∀ t u, news[t]? = some u → w.drew.cell? (A.add t) = some u) := by
   by_cases h : D = j
   · refine ⟨⟨b, 0, none⟩, by simp [h], fun t u hu => ?_⟩; (have h0 : news.length = 0 := by rw [hlen]; omega); rw [List.length_eq_zero_iff.1 h0] at hu; simp at hu
   ·
    refine ⟨⟨b, j * 2, none⟩, by simp [h], fun t u hu => ?_⟩
    have ht : t < (n - j) * 2 := by
     have := (List.getElem?_eq_some_iff.1 hu).1
     rwa [hlen] at this
    rw [hget t ht] at hu; obtain ⟨v, h1, h2, _⟩ := hcell (j * 2 + t) (by omega); rw [h2] at hu; obtain rfl := Option.some.inj hu; rw [Addr.add_lit]; exact h1
  have s1 : Hid (news.length = (n - j) * 2) := hlen
  have s2 : Hid (∀ u ∈ news, u.oneCell' = true) := by
   intro u hu; obtain ⟨t, ht, rfl⟩ := List.mem_iff_getElem.1 hu; have h3 := hget t (by rw [← hlen]; exact ht); rw [List.getElem?_eq_getElem ht] at h3; obtain ⟨v, _, h2, h1⟩ := hcell (j * 2 + t) (by rw [hlen] at ht; omega); rw [h2] at h3; obtain rfl := Option.some.inj h3; exact h1
  have s3 : Hid (∀ t, t < news.length → (w.drew.cell? ⟨b, 0 + i * 2 + t, none⟩).isSome = true ∧ w.drew.frozen? ⟨b, 0 + i * 2 + t, none⟩ = false) := by
   intro t ht; rw [hlen] at ht; obtain ⟨v, h1, _, _⟩ := hcell (0 + i * 2 + t) (by omega); exact ⟨by show (w.cell? _).isSome = true; rw [h1]; rfl, hfr _⟩
  obtain ⟨W1, hW1⟩ : ∃ W1, W1 = w.drew.setCells b (0 + i * 2) news := ⟨_, rfl⟩; obtain ⟨c1, g1, g2, g3⟩ := setCells_same b news (0 + i * 2) w.drew cs el hh; obtain ⟨r1, r2, r3, r4, r5, r6⟩ := setCells_rest b news (0 + i * 2) w.drew; rw [← hW1] at g1 r1 r2 r3 r4 r5 r6
  have hcl : ∀ ty, (Builtin.clear_ #[41] ty #[.slice (some ⟨b, (i + (n - j)) * 2, none⟩) (n - (i + (n - j))) (D - (i + (n - j)))]).run Try.prog W1 = .ok (.tuple #[]) (W1.setCells b ((i + (n - j)) * 2) (Builtin.zeroCells (Value.cells (.agg #[.int .i64 0, .slice none 0 0])) (n - (i + (n - j)))).toList) :=
   fun ty => run_clear_cells W1 _ _ ty _ hT hzv (by decide) (by decide) b _ _ _ (by omega) (fun k hk => by
    have hk2 : (i + (n - j)) * 2 + k < c1.size := by
     rw [g2, hsz]; have : k < (n - (i + (n - j))) * 2 := hk; omega
    unfold World.cell?; rw [g1]; simp only [Option.isSome_iff_exists]
    exact ⟨c1[(i + (n - j)) * 2 + k], by simp [hk2]⟩) (fun k hk => by
    unfold World.frozen?; rw [g1]
    simp)
  have hW : Hid (W1 = w.drew.setCells b (0 + i * 2) news) := hW1; obtain ⟨c2, k1, k2, k3⟩ := setCells_same b (Builtin.zeroCells (Value.cells (.agg #[.int .i64 0, .slice none 0 0])) (n - (i + (n - j)))).toList ((i + (n - j)) * 2) W1 c1 el g1; obtain ⟨q1, q2, q3, q4, q5, q6⟩ := setCells_rest b (Builtin.zeroCells (Value.cells (.agg #[.int .i64 0, .slice none 0 0])) (n - (i + (n - j)))).toList ((i + (n - j)) * 2) W1
  have X : Hid (w.heap.size = W1.heap.size ∧ (W1.setCells b ((i + (n - j)) * 2) (Builtin.zeroCells (Value.cells (.agg #[.int .i64 0, .slice none 0 0])) (n - (i + (n - j)))).toList).os = w.os ∧ (W1.setCells b ((i + (n - j)) * 2) (Builtin.zeroCells (Value.cells (.agg #[.int .i64 0, .slice none 0 0])) (n - (i + (n - j)))).toList).tape = w.tape ∧ ((W1.setCells b ((i + (n - j)) * 2) (Builtin.zeroCells (Value.cells (.agg #[.int .i64 0, .slice none 0 0])) (n - (i + (n - j)))).toList).output = w.output ∧ w.drawn ≤ (W1.setCells b ((i + (n - j)) * 2) (Builtin.zeroCells (Value.cells (.agg #[.int .i64 0, .slice none 0 0])) (n - (i + (n - j)))).toList).drawn) ∧ w.heap.size ≤ (W1.setCells b ((i + (n - j)) * 2) (Builtin.zeroCells (Value.cells (.agg #[.int .i64 0, .slice none 0 0])) (n - (i + (n - j)))).toList).heap.size ∧
    (∀ c, c < w.heap.size → c ≠ b → (W1.setCells b ((i + (n - j)) * 2) (Builtin.zeroCells (Value.cells (.agg #[.int .i64 0, .slice none 0 0])) (n - (i + (n - j)))).toList).heap[c]? = w.heap[c]?) ∧ ∃ cs' : Array Value, (W1.setCells b ((i + (n - j)) * 2) (Builtin.zeroCells (Value.cells (.agg #[.int .i64 0, .slice none 0 0])) (n - (i + (n - j)))).toList).heap[b]? = some (.cells cs' el (0, 0)) ∧ cs'.size = cs.size ∧
     ∀ k, k < (n - (j - i)) * 2 → cs'[k]? = if k < i * 2 then cs[k]? else cs[k + (j - i) * 2]?) := by
   refine ⟨r5.symm, q1.trans r1, q2.trans r2, ⟨q3.trans r3, ?_⟩, ?_, fun c _ hc => (q6 c hc).trans (r6 c hc), c2, k1, k2.trans g2, fun k hk => ?_⟩
   · rw [q4, r4]; exact Nat.le_succ _
   · rw [q5, r5]; exact Nat.le_refl _
   ·
    rw [k3, if_neg (by omega), g3, hlen]; by_cases hki : k < i * 2
    · rw [if_neg (by omega), if_pos hki]
    · rw [if_pos (by omega), if_neg hki, hget _ (by omega)]; congr 1; omega
  (have hiD : i ≤ D := by omega); (have hjD : j ≤ D := by omega); (have hne : ¬ i = j := by omega); clear hW1 g1 g2 g3 r1 r2 r3 r4 r5 r6 k1 k2 k3 q1 q2 q3 q4 q5 q6 hget hnews hlen hcell hone hfr hh
  go_enter Try.func78, Try.ntmps78
  go_wp2_with fail
  go_region_law (refine step_append_room rfl (.tmp 22) (.tmp 25) 41 rfl 43 i0 2 hT hi0 hz1 b 0 i D (by simp [Act.eval, Act.put]) A (n - j) (D - j) news (by simp [Act.eval, Act.put]) s1.out hsrc.out s2.out (by omega) s3.out ?_; rw [← hW.out])
  go_wp2; go_ret; exact ⟨by rw [show n - (j - i) = i + (n - j) by omega]; rfl, by exact X.out.2⟩

set_option maxHeartbeats 4000000 in
set_option maxRecDepth 1000000 in
theorem del79 : DelC Try.prog 79 1 where
 fn := ⟨_, _, Try.func79, rfl, rfl⟩
 row := by
  intro w b D cs el n i j hh hsz hD hn hij hj hone; obtain ⟨i0, hi0, hz0, hz1, hz2⟩ := info_parts (show (Try.prog.info? 3).map (fun i => (i.zero, i.size, i.bytes)) = some (some (.int .i64 0), 1, 8) by kernel_rfl); (have hT : Try.prog.underlying 23 = some (.slice 3) := by kernel_rfl); have hzv : ∀ w, (zeroValue 3).run Try.prog w = .ok (.int .i64 0) w := fun w => by simp [zeroValue, typeInfo, hi0, hz0]
  have hcell : ∀ k, k < n * 1 → ∃ v, w.cell? ⟨b, k, none⟩ = some v ∧ cs[k]? = some v ∧ v.oneCell' = true := by
   intro k hk; obtain ⟨v, h1, h2⟩ := hone k hk; exact ⟨v, by unfold World.cell?; rw [hh]; exact h1, h1, h2⟩
  have hfr : ∀ k, w.frozen? ⟨b, k, none⟩ = false := by
   intro k; unfold World.frozen?; rw [hh]; simp
  obtain ⟨news, hnews⟩ : ∃ news, news = (cs.toList.drop (j * 1)).take ((n - j) * 1) := ⟨_, rfl⟩
  have hlen : news.length = (n - j) * 1 := by
   rw [hnews, List.length_take, List.length_drop, Array.length_toList, hsz]; omega
  have hget : ∀ t, t < (n - j) * 1 → news[t]? = cs[j * 1 + t]? := by
   intro t ht; rw [hnews, List.getElem?_take, if_pos ht, List.getElem?_drop, Array.getElem?_toList]
  obtain ⟨A, hA, hsrc⟩ : ∃ A : Addr, (if D = j then some (⟨b, 0, none⟩ : Addr) else some ⟨b, j * 1, none⟩) = some A ∧ Hid (∀ t u, news[t]? = some u → w.drew.cell? (A.add t) = some u) := by
   by_cases h : D = j
   · refine ⟨⟨b, 0, none⟩, by simp [h], fun t u hu => ?_⟩; (have h0 : news.length = 0 := by rw [hlen]; omega); rw [List.length_eq_zero_iff.1 h0] at hu; simp at hu
   ·
    refine ⟨⟨b, j * 1, none⟩, by simp [h], fun t u hu => ?_⟩
    have ht : t < (n - j) * 1 := by
     have := (List.getElem?_eq_some_iff.1 hu).1
     rwa [hlen] at this
    rw [hget t ht] at hu; obtain ⟨v, h1, h2, _⟩ := hcell (j * 1 + t) (by omega); rw [h2] at hu; obtain rfl := Option.some.inj hu; rw [Addr.add_lit]; exact h1
  have s1 : Hid (news.length = (n - j) * 1) := hlen
  have s2 : Hid (∀ u ∈ news, u.oneCell' = true) := by
   intro u hu; obtain ⟨t, ht, rfl⟩ := List.mem_iff_getElem.1 hu; have h3 := hget t (by rw [← hlen]; exact ht); rw [List.getElem?_eq_getElem ht] at h3; obtain ⟨v, _, h2, h1⟩ := hcell (j * 1 + t) (by rw [hlen] at ht; omega); rw [h2] at h3; obtain rfl := Option.some.inj h3; exact h1
  have s3 : Hid (∀ t, t < news.length → (w.drew.cell? ⟨b, 0 + i * 1 + t, none⟩).isSome = true ∧ w.drew.frozen? ⟨b, 0 + i * 1 + t, none⟩ = false) := by
   intro t ht; rw [hlen] at ht; obtain ⟨v, h1, _, _⟩ := hcell (0 + i * 1 + t) (by omega); exact ⟨by show (w.cell? _).isSome = true; rw [h1]; rfl, hfr _⟩
  obtain ⟨W1, hW1⟩ : ∃ W1, W1 = w.drew.setCells b (0 + i * 1) news := ⟨_, rfl⟩; obtain ⟨c1, g1, g2, g3⟩ := setCells_same b news (0 + i * 1) w.drew cs el hh; obtain ⟨r1, r2, r3, r4, r5, r6⟩ := setCells_rest b news (0 + i * 1) w.drew; rw [← hW1] at g1 r1 r2 r3 r4 r5 r6
  have hcl : ∀ ty, (Builtin.clear_ #[23] ty #[.slice (some ⟨b, (i + (n - j)) * 1, none⟩) (n - (i + (n - j))) (D - (i + (n - j)))]).run Try.prog W1 = .ok (.tuple #[]) (W1.setCells b ((i + (n - j)) * 1) (Builtin.zeroCells (Value.cells (.int .i64 0)) (n - (i + (n - j)))).toList) :=
   fun ty => run_clear_cells W1 _ _ ty _ hT hzv (by decide) (by decide) b _ _ _ (by omega) (fun k hk => by
    have hk2 : (i + (n - j)) * 1 + k < c1.size := by
     rw [g2, hsz]; have : k < (n - (i + (n - j))) * 1 := hk; omega
    unfold World.cell?; rw [g1]; simp only [Option.isSome_iff_exists]
    exact ⟨c1[(i + (n - j)) * 1 + k], by simp [hk2]⟩) (fun k hk => by
    unfold World.frozen?; rw [g1]
    simp)
  have hW : Hid (W1 = w.drew.setCells b (0 + i * 1) news) := hW1; obtain ⟨c2, k1, k2, k3⟩ := setCells_same b (Builtin.zeroCells (Value.cells (.int .i64 0)) (n - (i + (n - j)))).toList ((i + (n - j)) * 1) W1 c1 el g1; obtain ⟨q1, q2, q3, q4, q5, q6⟩ := setCells_rest b (Builtin.zeroCells (Value.cells (.int .i64 0)) (n - (i + (n - j)))).toList ((i + (n - j)) * 1) W1
  have X : Hid (w.heap.size = W1.heap.size ∧ (W1.setCells b ((i + (n - j)) * 1) (Builtin.zeroCells (Value.cells (.int .i64 0)) (n - (i + (n - j)))).toList).os = w.os ∧ (W1.setCells b ((i + (n - j)) * 1) (Builtin.zeroCells (Value.cells (.int .i64 0)) (n - (i + (n - j)))).toList).tape = w.tape ∧ ((W1.setCells b ((i + (n - j)) * 1) (Builtin.zeroCells (Value.cells (.int .i64 0)) (n - (i + (n - j)))).toList).output = w.output ∧ w.drawn ≤ (W1.setCells b ((i + (n - j)) * 1) (Builtin.zeroCells (Value.cells (.int .i64 0)) (n - (i + (n - j)))).toList).drawn) ∧ w.heap.size ≤ (W1.setCells b ((i + (n - j)) * 1) (Builtin.zeroCells (Value.cells (.int .i64 0)) (n - (i + (n - j)))).toList).heap.size ∧
    (∀ c, c < w.heap.size → c ≠ b → (W1.setCells b ((i + (n - j)) * 1) (Builtin.zeroCells (Value.cells (.int .i64 0)) (n - (i + (n - j)))).toList).heap[c]? = w.heap[c]?) ∧ ∃ cs' : Array Value, (W1.setCells b ((i + (n - j)) * 1) (Builtin.zeroCells (Value.cells (.int .i64 0)) (n - (i + (n - j)))).toList).heap[b]? = some (.cells cs' el (0, 0)) ∧ cs'.size = cs.size ∧
     ∀ k, k < (n - (j - i)) * 1 → cs'[k]? = if k < i * 1 then cs[k]? else cs[k + (j - i) * 1]?) := by
   refine ⟨r5.symm, q1.trans r1, q2.trans r2, ⟨q3.trans r3, ?_⟩, ?_, fun c _ hc => (q6 c hc).trans (r6 c hc), c2, k1, k2.trans g2, fun k hk => ?_⟩
   · rw [q4, r4]; exact Nat.le_succ _
   · rw [q5, r5]; exact Nat.le_refl _
   ·
    rw [k3, if_neg (by omega), g3, hlen]; by_cases hki : k < i * 1
    · rw [if_neg (by omega), if_pos hki]
    · rw [if_pos (by omega), if_neg hki, hget _ (by omega)]; congr 1; omega
  (have hiD : i ≤ D := by omega); (have hjD : j ≤ D := by omega); (have hne : ¬ i = j := by omega); simp only [Nat.mul_one] at hA hcl X; clear hW1 g1 g2 g3 r1 r2 r3 r4 r5 r6 k1 k2 k3 q1 q2 q3 q4 q5 q6 hget hnews hlen hcell hone hfr hh
  go_enter Try.func79, Try.ntmps79
  go_wp2_with fail
  go_region_law (refine step_append_room rfl (.tmp 22) (.tmp 25) 23 rfl 3 i0 1 hT hi0 hz1 b 0 i D (by simp [Act.eval, Act.put]) A (n - j) (D - j) news (by simp [Act.eval, Act.put]) s1.out hsrc.out s2.out (by omega) s3.out ?_; rw [← hW.out])
  go_wp2; go_ret; exact ⟨by rw [show n - (j - i) = i + (n - j) by omega]; rfl, by simp only [Nat.mul_one]; exact X.out.2⟩

end Go.Proofs.Ytgbapklfgjnggaa


namespace Go.Proofs.Ytgbapklfgjnggaa
open Go Go.Am
noncomputable section

theorem all32 : ∀ a b c : Fin 32, a.val &&& c.val = 0 → b.val &&& c.val = 0 → (a.val ||| b.val) &&& c.val = 0 := by decide +kernel

theorem and3 {a b c : Int} (ha : 0 ≤ a ∧ a < 32) (hb : 0 ≤ b ∧ b < 32) (hc : 0 ≤ c ∧ c < 32) (h1 : bits .and .i64 a c = 0) (h2 : bits .and .i64 b c = 0) : bits .and .i64 (bits .or .i64 a b) c = 0 := by
 have ho := or32 ha.1 ha.2 hb.1 hb.2; rw [(bits62 (by omega) (by omega) hc.1 (by omega)).1]; rw [(bits62 ha.1 (by omega) hc.1 (by omega)).1] at h1; rw [(bits62 hb.1 (by omega) hc.1 (by omega)).1] at h2; rw [(bits62 ha.1 (by omega) hb.1 (by omega)).2, Int.toNat_natCast]; have := all32 ⟨a.toNat, by omega⟩ ⟨b.toNat, by omega⟩ ⟨c.toNat, by omega⟩ (by simp only; omega) (by simp only; omega)
 simp only at this
 omega

theorem and_comm32 {a b : Int} (ha : 0 ≤ a ∧ a < 32) (hb : 0 ≤ b ∧ b < 32) (h : bits .and .i64 a b = 0) : bits .and .i64 b a = 0 := by
 rw [(bits62 ha.1 (by omega) hb.1 (by omega)).1] at h; rw [(bits62 hb.1 (by omega) ha.1 (by omega)).1, Nat.and_comm]; exact h

theorem perm_sum {l m : List Int} (h : l.Perm m) : l.sum = m.sum := by
 induction h with
 | nil => rfl
 | cons x _ ih => simp [ih]
 | swap x y l => simp; omega
 | trans _ _ a b => rw [a, b]

theorem set_perm {α : Type} {l : List α} {i : Nat} (h : i < l.length) (a : α) : (l.set i a).Perm (a :: l.eraseIdx i) := by
 rw [List.set_eq_take_append_cons_drop, if_pos h, List.eraseIdx_eq_take_drop_succ]; exact List.perm_middle

theorem get_perm {α : Type} {l : List α} {i : Nat} (h : i < l.length) : (l[i] :: l.eraseIdx i).Perm l := by
 have := (set_perm h l[i]).symm
 rw [List.set_getElem_self] at this
 exact this

/-! ### Joining two members of a list -/

def jn {α : Type} (ts : List α) (a b : Nat) (z : α) : List α := List.take b (List.set ts a z) ++ List.drop (b + 1) (List.set ts a z)

theorem jn_take {α : Type} (us : List α) (b : Nat) : List.take b us ++ List.take (us.length - (b + 1)) (List.drop (b + 1) us) = List.take b us ++ List.drop (b + 1) us := by
 rw [List.take_of_length_le (l := List.drop (b + 1) us) (by rw [List.length_drop]; exact Nat.le_refl _)]

theorem jn_len {α : Type} {ts : List α} {a b : Nat} (hb : b < ts.length) (z : α) : (jn ts a b z).length = ts.length - 1 := by
 unfold jn; rw [List.length_append, List.length_take, List.length_drop, List.length_set]; omega

theorem jn_perm {α : Type} {ts : List α} {a b : Nat} (hab : a < b) (hb : b < ts.length) (z d : α) : ∃ rest, ts.Perm (List.getD ts a d :: List.getD ts b d :: rest) ∧ (jn ts a b z).Perm (z :: rest) := by
 have e1 : jn ts a b z = (ts.set a z).eraseIdx b := (List.eraseIdx_eq_take_drop_succ ..).symm
 have e2 : (ts.set a z).eraseIdx b = (ts.eraseIdx b).set a z := by
  apply List.ext_getElem?; intro i; rw [List.getElem?_set, List.getElem?_eraseIdx, List.getElem?_eraseIdx, List.getElem?_set, List.getElem?_set, List.length_eraseIdx, if_pos hb]; by_cases h1 : a = i
  · subst h1; rw [if_pos hab, if_pos rfl, if_pos rfl, if_pos (by omega), if_pos (by omega)]
  ·
   rw [if_neg h1, if_neg h1]; by_cases h2 : i < b
   · rw [if_pos h2, if_pos h2]
   · rw [if_neg h2, if_neg h2, if_neg (by omega)]
 (have hl : a < (ts.eraseIdx b).length := by rw [List.length_eraseIdx, if_pos hb]; omega); refine ⟨(ts.eraseIdx b).eraseIdx a, ?_, ?_⟩
 ·
  have p1 := get_perm (l := ts) (i := b) hb; have p2 := get_perm (l := ts.eraseIdx b) (i := a) hl
  have e3 : (ts.eraseIdx b)[a] = List.getD ts a d := by
   rw [List.getD_eq_getElem?_getD, List.getElem?_eq_getElem (show a < ts.length by omega), Option.getD_some]; apply Option.some.inj; rw [← List.getElem?_eq_getElem hl, List.getElem?_eraseIdx, if_pos hab, List.getElem?_eq_getElem]
  have e4 : ts[b] = List.getD ts b d := by
   rw [List.getD_eq_getElem?_getD, List.getElem?_eq_getElem hb, Option.getD_some]
  rw [e3] at p2; rw [e4] at p1; exact (p1.symm.trans (p2.symm.cons _)).trans (List.Perm.swap ..)
 · rw [e1, e2]; exact set_perm hl z

theorem jn_map {α β : Type} (f : α → β) (ts : List α) (a b : Nat) (z : α) : (jn ts a b z).map f = jn (ts.map f) a b (f z) := by
 unfold jn; rw [List.map_append, List.map_take, List.map_drop, List.map_set]

/-! ### Trees with no relation in common -/

def mks (n : Int) (ts : List JoinTree) : List Int := ts.map fun t => treeMask t n

theorem mks_at {n : Int} {ts : List JoinTree} {i : Nat} (hi : i < ts.length) : List.getD (mks n ts) i 0 = treeMask (List.getD ts i JoinTree.zero) n := by
 unfold mks; simp only [List.getD_eq_getElem?_getD, List.getElem?_map]; rw [List.getElem?_eq_getElem hi]; rfl

theorem mks_len (n : Int) (ts : List JoinTree) : (mks n ts).length = ts.length := by unfold mks; simp

theorem mks_in {n : Int} (hn : n ≤ 5) (ts : List JoinTree) {i : Nat} (hi : i < ts.length) : 0 ≤ List.getD (mks n ts) i 0 ∧ List.getD (mks n ts) i 0 < 32 := by
 rw [mks_at hi]; exact mask_range hn _

theorem mks_or {n : Int} (hn : n ≤ 5) (ts : List JoinTree) {i j : Nat} (hi : i < ts.length) (hj : j < ts.length) : 0 ≤ bits .or .i64 (List.getD (mks n ts) i 0) (List.getD (mks n ts) j 0) ∧ bits .or .i64 (List.getD (mks n ts) i 0) (List.getD (mks n ts) j 0) < 32 := by
 have a := mks_in hn ts hi; have b := mks_in hn ts hj; have := or32 a.1 a.2 b.1 b.2; omega

structure FT (n : Int) (ts : List JoinTree) : Prop where
 ne : ∀ t ∈ ts, treeMask t n ≠ 0
 ap : ts.Pairwise fun a b => bits .and .i64 (treeMask a n) (treeMask b n) = 0

theorem FT.perm {n : Int} (hn : n ≤ 5) {ts us : List JoinTree} (h : FT n ts) (p : ts.Perm us) : FT n us :=
 ⟨fun t ht => h.ne t (p.mem_iff.2 ht), (List.Perm.pairwise_iff (fun {x y} hxy => and_comm32 (mask_range hn x) (mask_range hn y) hxy) p).1 h.ap⟩

def two (x y : JoinTree) : JoinTree := JoinTree.mk 0 [x, y]

theorem two_mask {n : Int} {x y : JoinTree} (hx : treeMask x n ≠ 0) (hy : treeMask y n ≠ 0) (hxy : bits .and .i64 (treeMask x n) (treeMask y n) = 0) : treeMask (two x y) n = bits .or .i64 (treeMask x n) (treeMask y n) := by
 rw [mask_eq]; show (bif false then _ else bif false then 0 else bif (bif (bif (treeMask x n == 0) then true else (treeMask y n == 0)) then true else (bits .and .i64 (treeMask x n) (treeMask y n) != 0)) then 0 else bits .or .i64 (treeMask x n) (treeMask y n)) = _; rw [beq_false_of_ne hx, beq_false_of_ne hy, hxy]; rfl

theorem two_join {n : Int} (hn : n ≤ 5) {x y : JoinTree} (hx : treeMask x n ≠ 0) (hy : treeMask y n ≠ 0) (hxy : bits .and .i64 (treeMask x n) (treeMask y n) = 0) : treeMask (two x y) n ≠ 0 ∧ Join2 (two x y) n := by
 have rx := mask_range hn x; have ry := mask_range hn y; have h := or32 rx.1 rx.2 ry.1 ry.2; have e := two_mask hx hy hxy; (have h0 : treeMask (two x y) n ≠ 0 := by omega); exact ⟨h0, join2 (by show (2 : Nat) ≠ 0; decide) h0⟩

theorem FT.jn {n : Int} (hn : n ≤ 5) {ts : List JoinTree} (h : FT n ts) {a b : Nat} (hab : a < b) (hb : b < ts.length) :
  FT n (jn ts a b (two (List.getD ts a JoinTree.zero) (List.getD ts b JoinTree.zero))) ∧
  mks n (jn ts a b (two (List.getD ts a JoinTree.zero) (List.getD ts b JoinTree.zero))) = jn (mks n ts) a b (bits .or .i64 (List.getD (mks n ts) a 0) (List.getD (mks n ts) b 0)) := by
 obtain ⟨rest, p, q⟩ := jn_perm hab hb (two (List.getD ts a JoinTree.zero) (List.getD ts b JoinTree.zero)) JoinTree.zero; have hp := h.perm hn p; have hx := hp.ne _ (List.mem_cons_self ..); have hy := hp.ne _ (List.mem_cons_of_mem _ (List.mem_cons_self ..)); have h1 := List.pairwise_cons.1 hp.ap; have h2 := List.pairwise_cons.1 h1.2; have hxy := h1.1 _ (List.mem_cons_self ..); have hm := two_mask hx hy hxy; have rx := mask_range hn (List.getD ts a JoinTree.zero); have ry := mask_range hn (List.getD ts b JoinTree.zero); refine ⟨FT.perm hn ⟨fun t ht => ?_, List.pairwise_cons.2 ⟨fun t ht => ?_, h2.2⟩⟩ q.symm, ?_⟩
 ·
  rcases List.mem_cons.1 ht with rfl | ht
  · exact (two_join hn hx hy hxy).1
  · exact hp.ne t (List.mem_cons_of_mem _ (List.mem_cons_of_mem _ ht))
 · rw [hm]; exact and3 rx ry (mask_range hn t) (h1.1 t (List.mem_cons_of_mem _ ht)) (h2.1 t ht)
 · rw [mks_at (show a < ts.length by omega), mks_at hb, ← hm]; exact jn_map _ _ _ _ _

def lfs (n : Nat) : List JoinTree := (List.range n).map fun j => JoinTree.mk ((j : Nat) : Int) []

theorem lf_mask {n j : Nat} (hj : j < n) : treeMask (JoinTree.mk ((j : Nat) : Int) []) (n : Int) = (1 : Int) * 2 ^ j := by
 rw [mask_eq, kids_beq0 (t := JoinTree.mk ((j : Nat) : Int) []) rfl, cond_true]; show (bif inRange ((j : Nat) : Int) 0 ((n : Int) - 1) then (1 : Int) * 2 ^ Int.toNat ((j : Nat) : Int) else 0) = _; rw [inRange_iff.2 ⟨by omega, by omega⟩, cond_true, Int.toNat_natCast]

theorem one_and : ∀ i j : Fin 5, i.val < j.val → bits .and .i64 ((1 : Int) * 2 ^ i.val) ((1 : Int) * 2 ^ j.val) = 0 := by decide +kernel

theorem lfs_ft {n : Nat} (hn : n ≤ 5) : FT (n : Int) (lfs n) ∧ mks (n : Int) (lfs n) = (List.range n).map fun j => (1 : Int) * 2 ^ j := by
 have key : ∀ j, j ∈ List.range n → treeMask (JoinTree.mk ((j : Nat) : Int) []) (n : Int) = (1 : Int) * 2 ^ j := fun j hj => lf_mask (List.mem_range.1 hj); refine ⟨⟨fun t ht => ?_, ?_⟩, ?_⟩
 · obtain ⟨j, hj, rfl⟩ := List.mem_map.1 ht; rw [key j hj]; have := List.mem_range.1 hj; have := pow2 (n := j) (by omega); omega
 · unfold lfs; rw [List.pairwise_map]; refine List.Pairwise.imp_of_mem ?_ List.pairwise_lt_range; intro i j hi hj hij; rw [key i hi, key j hj]; have a := List.mem_range.1 hi; have b := List.mem_range.1 hj; exact one_and ⟨i, by omega⟩ ⟨j, by omega⟩ hij
 · unfold mks lfs; rw [List.map_map]; exact List.map_congr_left key

theorem lfs_succ (n : Nat) : lfs (n + 1) = lfs n ++ [JoinTree.mk ((n : Nat) : Int) []] := by
 unfold lfs; rw [List.range_succ, List.map_append]; rfl

theorem pws_succ (n : Nat) : (List.range (n + 1)).map (fun j => (1 : Int) * 2 ^ j) = (List.range n).map (fun j => (1 : Int) * 2 ^ j) ++ [(1 : Int) * 2 ^ n] := by
 rw [List.range_succ, List.map_append]; rfl

theorem lfs_len (n : Nat) : (lfs n).length = n := by unfold lfs; simp

end
end Go.Proofs.Ytgbapklfgjnggaa
