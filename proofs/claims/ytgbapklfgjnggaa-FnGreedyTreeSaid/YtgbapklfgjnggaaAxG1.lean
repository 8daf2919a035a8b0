/-
  A part of the proof of this claim (AxG1): what functions of the program compute, and plain facts of that. No conditions.
-/
import Derived.Test.YtgbapklfgjnggaaAnX
import Derived.Test.YtgbapklfgjnggaaChecked
set_option linter.all false
namespace Go.Proofs.Ytgbapklfgjnggaa
open Go Go.Am Go.RowKit

set_option maxHeartbeats 4000000 in
set_option maxRecDepth 1000000 in
theorem del78 : DelC Try.prog 78 2 where
 fn := ⟨_, _, Try.func78, rfl, rfl⟩
 row := by
  intro w b D cs el n i j hh hsz hD hn hij hj hone
  obtain ⟨i0, hi0, hz0, hz1, hz2⟩ := info_parts (show (Try.prog.info? 43).map (fun i => (i.zero, i.size, i.bytes)) = some (some (.agg #[.int .i64 0, .slice none 0 0]), 2, 32) by kernel_rfl)
  have hT : Try.prog.underlying 41 = some (.slice 43) := by kernel_rfl
  have hzv : ∀ w, (zeroValue 43).run Try.prog w = .ok (.agg #[.int .i64 0, .slice none 0 0]) w := fun w => by simp [zeroValue, typeInfo, hi0, hz0]
  have hcell : ∀ k, k < n * 2 → ∃ v, w.cell? ⟨b, k, none⟩ = some v ∧ cs[k]? = some v ∧ v.oneCell' = true := by
   intro k hk
   obtain ⟨v, h1, h2⟩ := hone k hk
   exact ⟨v, by unfold World.cell?; rw [hh]; exact h1, h1, h2⟩
  have hfr : ∀ k, w.frozen? ⟨b, k, none⟩ = false := by
   intro k
   unfold World.frozen?
   rw [hh]
   simp
  obtain ⟨news, hnews⟩ : ∃ news, news = (cs.toList.drop (j * 2)).take ((n - j) * 2) := ⟨_, rfl⟩
  have hlen : news.length = (n - j) * 2 := by
   rw [hnews, List.length_take, List.length_drop, Array.length_toList, hsz]
   omega
  have hget : ∀ t, t < (n - j) * 2 → news[t]? = cs[j * 2 + t]? := by
   intro t ht
   rw [hnews, List.getElem?_take, if_pos ht, List.getElem?_drop, Array.getElem?_toList]
  obtain ⟨A, hA, hsrc⟩ : ∃ A : Addr, (if D = j then some (⟨b, 0, none⟩ : Addr) else some ⟨b, j * 2, none⟩) = some A ∧ Hid (∀ t u, news[t]? = some u → w.drew.cell? (A.add t) = some u) := by
   by_cases h : D = j
   ·
    refine ⟨⟨b, 0, none⟩, by simp [h], fun t u hu => ?_⟩
    have h0 : news.length = 0 := by rw [hlen]; omega
    rw [List.length_eq_zero_iff.1 h0] at hu
    simp at hu
   ·
    refine ⟨⟨b, j * 2, none⟩, by simp [h], fun t u hu => ?_⟩
    have ht : t < (n - j) * 2 := by
     have := (List.getElem?_eq_some_iff.1 hu).1
     rwa [hlen] at this
    rw [hget t ht] at hu
    obtain ⟨v, h1, h2, _⟩ := hcell (j * 2 + t) (by omega)
    rw [h2] at hu
    obtain rfl := Option.some.inj hu
    rw [Addr.add_lit]
    exact h1
  have s1 : Hid (news.length = (n - j) * 2) := hlen
  have s2 : Hid (∀ u ∈ news, u.oneCell' = true) := by
   intro u hu
   obtain ⟨t, ht, rfl⟩ := List.mem_iff_getElem.1 hu
   have h3 := hget t (by rw [← hlen]; exact ht)
   rw [List.getElem?_eq_getElem ht] at h3
   obtain ⟨v, _, h2, h1⟩ := hcell (j * 2 + t) (by rw [hlen] at ht; omega)
   rw [h2] at h3
   obtain rfl := Option.some.inj h3
   exact h1
  have s3 : Hid (∀ t, t < news.length → (w.drew.cell? ⟨b, 0 + i * 2 + t, none⟩).isSome = true ∧ w.drew.frozen? ⟨b, 0 + i * 2 + t, none⟩ = false) := by
   intro t ht
   rw [hlen] at ht
   obtain ⟨v, h1, _, _⟩ := hcell (0 + i * 2 + t) (by omega)
   exact ⟨by show (w.cell? _).isSome = true; rw [h1]; rfl, hfr _⟩
  obtain ⟨W1, hW1⟩ : ∃ W1, W1 = w.drew.setCells b (0 + i * 2) news := ⟨_, rfl⟩
  obtain ⟨c1, g1, g2, g3⟩ := setCells_same b news (0 + i * 2) w.drew cs el hh
  obtain ⟨r1, r2, r3, r4, r5, r6⟩ := setCells_rest b news (0 + i * 2) w.drew
  rw [← hW1] at g1 r1 r2 r3 r4 r5 r6
  have hcl : ∀ ty, (Builtin.clear_ #[41] ty #[.slice (some ⟨b, (i + (n - j)) * 2, none⟩) (n - (i + (n - j))) (D - (i + (n - j)))]).run Try.prog W1 = .ok (.tuple #[]) (W1.setCells b ((i + (n - j)) * 2) (Builtin.zeroCells (Value.cells (.agg #[.int .i64 0, .slice none 0 0])) (n - (i + (n - j)))).toList) :=
   fun ty => run_clear_cells W1 _ _ ty _ hT hzv (by decide) (by decide) b _ _ _ (by omega) (fun k hk => by
    have hk2 : (i + (n - j)) * 2 + k < c1.size := by
     rw [g2, hsz]
     have : k < (n - (i + (n - j))) * 2 := hk
     omega
    unfold World.cell?
    rw [g1]
    simp only [Option.isSome_iff_exists]
    exact ⟨c1[(i + (n - j)) * 2 + k], by simp [hk2]⟩) (fun k hk => by
    unfold World.frozen?
    rw [g1]
    simp)
  have hW : Hid (W1 = w.drew.setCells b (0 + i * 2) news) := hW1
  obtain ⟨c2, k1, k2, k3⟩ := setCells_same b (Builtin.zeroCells (Value.cells (.agg #[.int .i64 0, .slice none 0 0])) (n - (i + (n - j)))).toList ((i + (n - j)) * 2) W1 c1 el g1
  obtain ⟨q1, q2, q3, q4, q5, q6⟩ := setCells_rest b (Builtin.zeroCells (Value.cells (.agg #[.int .i64 0, .slice none 0 0])) (n - (i + (n - j)))).toList ((i + (n - j)) * 2) W1
  have X : Hid (w.heap.size = W1.heap.size ∧ (W1.setCells b ((i + (n - j)) * 2) (Builtin.zeroCells (Value.cells (.agg #[.int .i64 0, .slice none 0 0])) (n - (i + (n - j)))).toList).os = w.os ∧ (W1.setCells b ((i + (n - j)) * 2) (Builtin.zeroCells (Value.cells (.agg #[.int .i64 0, .slice none 0 0])) (n - (i + (n - j)))).toList).tape = w.tape ∧ ((W1.setCells b ((i + (n - j)) * 2) (Builtin.zeroCells (Value.cells (.agg #[.int .i64 0, .slice none 0 0])) (n - (i + (n - j)))).toList).output = w.output ∧ w.drawn ≤ (W1.setCells b ((i + (n - j)) * 2) (Builtin.zeroCells (Value.cells (.agg #[.int .i64 0, .slice none 0 0])) (n - (i + (n - j)))).toList).drawn) ∧ w.heap.size ≤ (W1.setCells b ((i + (n - j)) * 2) (Builtin.zeroCells (Value.cells (.agg #[.int .i64 0, .slice none 0 0])) (n - (i + (n - j)))).toList).heap.size ∧
    (∀ c, c < w.heap.size → c ≠ b → (W1.setCells b ((i + (n - j)) * 2) (Builtin.zeroCells (Value.cells (.agg #[.int .i64 0, .slice none 0 0])) (n - (i + (n - j)))).toList).heap[c]? = w.heap[c]?) ∧ ∃ cs' : Array Value, (W1.setCells b ((i + (n - j)) * 2) (Builtin.zeroCells (Value.cells (.agg #[.int .i64 0, .slice none 0 0])) (n - (i + (n - j)))).toList).heap[b]? = some (.cells cs' el (0, 0)) ∧ cs'.size = cs.size ∧
     ∀ k, k < (n - (j - i)) * 2 → cs'[k]? = if k < i * 2 then cs[k]? else cs[k + (j - i) * 2]?) := by
   refine ⟨r5.symm, q1.trans r1, q2.trans r2, ⟨q3.trans r3, ?_⟩, ?_, fun c _ hc => (q6 c hc).trans (r6 c hc), c2, k1, k2.trans g2, fun k hk => ?_⟩
   ·
    rw [q4, r4]
    exact Nat.le_succ _
   ·
    rw [q5, r5]
    exact Nat.le_refl _
   ·
    rw [k3, if_neg (by omega), g3, hlen]
    by_cases hki : k < i * 2
    ·
     rw [if_neg (by omega), if_pos hki]
    ·
     rw [if_pos (by omega), if_neg hki, hget _ (by omega)]
     congr 1
     omega
  have hiD : i ≤ D := by omega
  have hjD : j ≤ D := by omega
  have hne : ¬ i = j := by omega
  clear hW1 g1 g2 g3 r1 r2 r3 r4 r5 r6 k1 k2 k3 q1 q2 q3 q4 q5 q6 hget hnews hlen hcell hone hfr hh
  go_enter Try.func78, Try.ntmps78
  go_wp2_with fail
  go_region_law (refine step_append_room rfl (.tmp 22) (.tmp 25) 41 rfl 43 i0 2 hT hi0 hz1 b 0 i D (by simp [Act.eval, Act.put]) A (n - j) (D - j) news (by simp [Act.eval, Act.put]) s1.out hsrc.out s2.out (by omega) s3.out ?_; rw [← hW.out])
  go_wp2
  go_ret
  exact ⟨by rw [show n - (j - i) = i + (n - j) by omega]; rfl, by exact X.out.2⟩

set_option maxHeartbeats 4000000 in
set_option maxRecDepth 1000000 in
theorem del79 : DelC Try.prog 79 1 where
 fn := ⟨_, _, Try.func79, rfl, rfl⟩
 row := by
  intro w b D cs el n i j hh hsz hD hn hij hj hone
  obtain ⟨i0, hi0, hz0, hz1, hz2⟩ := info_parts (show (Try.prog.info? 3).map (fun i => (i.zero, i.size, i.bytes)) = some (some (.int .i64 0), 1, 8) by kernel_rfl)
  have hT : Try.prog.underlying 23 = some (.slice 3) := by kernel_rfl
  have hzv : ∀ w, (zeroValue 3).run Try.prog w = .ok (.int .i64 0) w := fun w => by simp [zeroValue, typeInfo, hi0, hz0]
  have hcell : ∀ k, k < n * 1 → ∃ v, w.cell? ⟨b, k, none⟩ = some v ∧ cs[k]? = some v ∧ v.oneCell' = true := by
   intro k hk
   obtain ⟨v, h1, h2⟩ := hone k hk
   exact ⟨v, by unfold World.cell?; rw [hh]; exact h1, h1, h2⟩
  have hfr : ∀ k, w.frozen? ⟨b, k, none⟩ = false := by
   intro k
   unfold World.frozen?
   rw [hh]
   simp
  obtain ⟨news, hnews⟩ : ∃ news, news = (cs.toList.drop (j * 1)).take ((n - j) * 1) := ⟨_, rfl⟩
  have hlen : news.length = (n - j) * 1 := by
   rw [hnews, List.length_take, List.length_drop, Array.length_toList, hsz]
   omega
  have hget : ∀ t, t < (n - j) * 1 → news[t]? = cs[j * 1 + t]? := by
   intro t ht
   rw [hnews, List.getElem?_take, if_pos ht, List.getElem?_drop, Array.getElem?_toList]
  obtain ⟨A, hA, hsrc⟩ : ∃ A : Addr, (if D = j then some (⟨b, 0, none⟩ : Addr) else some ⟨b, j * 1, none⟩) = some A ∧ Hid (∀ t u, news[t]? = some u → w.drew.cell? (A.add t) = some u) := by
   by_cases h : D = j
   ·
    refine ⟨⟨b, 0, none⟩, by simp [h], fun t u hu => ?_⟩
    have h0 : news.length = 0 := by rw [hlen]; omega
    rw [List.length_eq_zero_iff.1 h0] at hu
    simp at hu
   ·
    refine ⟨⟨b, j * 1, none⟩, by simp [h], fun t u hu => ?_⟩
    have ht : t < (n - j) * 1 := by
     have := (List.getElem?_eq_some_iff.1 hu).1
     rwa [hlen] at this
    rw [hget t ht] at hu
    obtain ⟨v, h1, h2, _⟩ := hcell (j * 1 + t) (by omega)
    rw [h2] at hu
    obtain rfl := Option.some.inj hu
    rw [Addr.add_lit]
    exact h1
  have s1 : Hid (news.length = (n - j) * 1) := hlen
  have s2 : Hid (∀ u ∈ news, u.oneCell' = true) := by
   intro u hu
   obtain ⟨t, ht, rfl⟩ := List.mem_iff_getElem.1 hu
   have h3 := hget t (by rw [← hlen]; exact ht)
   rw [List.getElem?_eq_getElem ht] at h3
   obtain ⟨v, _, h2, h1⟩ := hcell (j * 1 + t) (by rw [hlen] at ht; omega)
   rw [h2] at h3
   obtain rfl := Option.some.inj h3
   exact h1
  have s3 : Hid (∀ t, t < news.length → (w.drew.cell? ⟨b, 0 + i * 1 + t, none⟩).isSome = true ∧ w.drew.frozen? ⟨b, 0 + i * 1 + t, none⟩ = false) := by
   intro t ht
   rw [hlen] at ht
   obtain ⟨v, h1, _, _⟩ := hcell (0 + i * 1 + t) (by omega)
   exact ⟨by show (w.cell? _).isSome = true; rw [h1]; rfl, hfr _⟩
  obtain ⟨W1, hW1⟩ : ∃ W1, W1 = w.drew.setCells b (0 + i * 1) news := ⟨_, rfl⟩
  obtain ⟨c1, g1, g2, g3⟩ := setCells_same b news (0 + i * 1) w.drew cs el hh
  obtain ⟨r1, r2, r3, r4, r5, r6⟩ := setCells_rest b news (0 + i * 1) w.drew
  rw [← hW1] at g1 r1 r2 r3 r4 r5 r6
  have hcl : ∀ ty, (Builtin.clear_ #[23] ty #[.slice (some ⟨b, (i + (n - j)) * 1, none⟩) (n - (i + (n - j))) (D - (i + (n - j)))]).run Try.prog W1 = .ok (.tuple #[]) (W1.setCells b ((i + (n - j)) * 1) (Builtin.zeroCells (Value.cells (.int .i64 0)) (n - (i + (n - j)))).toList) :=
   fun ty => run_clear_cells W1 _ _ ty _ hT hzv (by decide) (by decide) b _ _ _ (by omega) (fun k hk => by
    have hk2 : (i + (n - j)) * 1 + k < c1.size := by
     rw [g2, hsz]
     have : k < (n - (i + (n - j))) * 1 := hk
     omega
    unfold World.cell?
    rw [g1]
    simp only [Option.isSome_iff_exists]
    exact ⟨c1[(i + (n - j)) * 1 + k], by simp [hk2]⟩) (fun k hk => by
    unfold World.frozen?
    rw [g1]
    simp)
  have hW : Hid (W1 = w.drew.setCells b (0 + i * 1) news) := hW1
  obtain ⟨c2, k1, k2, k3⟩ := setCells_same b (Builtin.zeroCells (Value.cells (.int .i64 0)) (n - (i + (n - j)))).toList ((i + (n - j)) * 1) W1 c1 el g1
  obtain ⟨q1, q2, q3, q4, q5, q6⟩ := setCells_rest b (Builtin.zeroCells (Value.cells (.int .i64 0)) (n - (i + (n - j)))).toList ((i + (n - j)) * 1) W1
  have X : Hid (w.heap.size = W1.heap.size ∧ (W1.setCells b ((i + (n - j)) * 1) (Builtin.zeroCells (Value.cells (.int .i64 0)) (n - (i + (n - j)))).toList).os = w.os ∧ (W1.setCells b ((i + (n - j)) * 1) (Builtin.zeroCells (Value.cells (.int .i64 0)) (n - (i + (n - j)))).toList).tape = w.tape ∧ ((W1.setCells b ((i + (n - j)) * 1) (Builtin.zeroCells (Value.cells (.int .i64 0)) (n - (i + (n - j)))).toList).output = w.output ∧ w.drawn ≤ (W1.setCells b ((i + (n - j)) * 1) (Builtin.zeroCells (Value.cells (.int .i64 0)) (n - (i + (n - j)))).toList).drawn) ∧ w.heap.size ≤ (W1.setCells b ((i + (n - j)) * 1) (Builtin.zeroCells (Value.cells (.int .i64 0)) (n - (i + (n - j)))).toList).heap.size ∧
    (∀ c, c < w.heap.size → c ≠ b → (W1.setCells b ((i + (n - j)) * 1) (Builtin.zeroCells (Value.cells (.int .i64 0)) (n - (i + (n - j)))).toList).heap[c]? = w.heap[c]?) ∧ ∃ cs' : Array Value, (W1.setCells b ((i + (n - j)) * 1) (Builtin.zeroCells (Value.cells (.int .i64 0)) (n - (i + (n - j)))).toList).heap[b]? = some (.cells cs' el (0, 0)) ∧ cs'.size = cs.size ∧
     ∀ k, k < (n - (j - i)) * 1 → cs'[k]? = if k < i * 1 then cs[k]? else cs[k + (j - i) * 1]?) := by
   refine ⟨r5.symm, q1.trans r1, q2.trans r2, ⟨q3.trans r3, ?_⟩, ?_, fun c _ hc => (q6 c hc).trans (r6 c hc), c2, k1, k2.trans g2, fun k hk => ?_⟩
   ·
    rw [q4, r4]
    exact Nat.le_succ _
   ·
    rw [q5, r5]
    exact Nat.le_refl _
   ·
    rw [k3, if_neg (by omega), g3, hlen]
    by_cases hki : k < i * 1
    ·
     rw [if_neg (by omega), if_pos hki]
    ·
     rw [if_pos (by omega), if_neg hki, hget _ (by omega)]
     congr 1
     omega
  have hiD : i ≤ D := by omega
  have hjD : j ≤ D := by omega
  have hne : ¬ i = j := by omega
  simp only [Nat.mul_one] at hA hcl X
  clear hW1 g1 g2 g3 r1 r2 r3 r4 r5 r6 k1 k2 k3 q1 q2 q3 q4 q5 q6 hget hnews hlen hcell hone hfr hh
  go_enter Try.func79, Try.ntmps79
  go_wp2_with fail
  go_region_law (refine step_append_room rfl (.tmp 22) (.tmp 25) 23 rfl 3 i0 1 hT hi0 hz1 b 0 i D (by simp [Act.eval, Act.put]) A (n - j) (D - j) news (by simp [Act.eval, Act.put]) s1.out hsrc.out s2.out (by omega) s3.out ?_; rw [← hW.out])
  go_wp2
  go_ret
  exact ⟨by rw [show n - (j - i) = i + (n - j) by omega]; rfl, by simp only [Nat.mul_one]; exact X.out.2⟩

end Go.Proofs.Ytgbapklfgjnggaa
