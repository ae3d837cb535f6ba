/- What the claim of this folder needs of its texts, put together by a program of this claim. Conditions: none. -/
import Derived.Test.YtpmldkhgdpchjaaBAS7
set_option linter.unusedVariables false
namespace Go.Proofs.Ytpmldkhgdpchjaa
open Go.MW
def aeN (na nb : Nat) : Nat := na + padn na + nb + padn nb + 8 + 8
/-- The bytes that the tag is of. -/
def aeF (na : Nat) (fa : Nat → Nat) (nb : Nat) (fb : Nat → Nat) (i : Nat) : Nat :=
  if i < na then fa i else if i < na + padn na then 0 else if i < na + padn na + nb then fb (i - (na + padn na)) else if i < na + padn na + nb + padn nb then 0 else if i < na + padn na + nb + padn nb + 8 then byt na (i - (na + padn na + nb + padn nb)) else byt nb (i - (na + padn na + nb + padn nb + 8))
section
variable (na nb : Nat) (fa fb : Nat → Nat)
theorem aeF0 (j : Nat) (h : j < na) : aeF na fa nb fb j = fa j := by unfold aeF; rw [if_pos h]
theorem aeF1 (j : Nat) (h : j < padn na) : aeF na fa nb fb (na + j) = 0 := by unfold aeF; rw [if_neg (by omega), if_pos (by omega)]
theorem aeF2 (j : Nat) (h : j < nb) : aeF na fa nb fb (na + padn na + j) = fb j := by
  unfold aeF; rw [if_neg (by omega), if_neg (by omega), if_pos (by omega), show na + padn na + j - (na + padn na) = j by omega]
theorem aeF3 (j : Nat) (h : j < padn nb) : aeF na fa nb fb (na + padn na + nb + j) = 0 := by
  unfold aeF; rw [if_neg (by omega), if_neg (by omega), if_neg (by omega), if_pos (by omega)]
theorem aeF4 (j : Nat) (h : j < 8) : aeF na fa nb fb (na + padn na + nb + padn nb + j) = byt na j := by
  unfold aeF; rw [if_neg (by omega), if_neg (by omega), if_neg (by omega), if_neg (by omega), if_pos (by omega), show na + padn na + nb + padn nb + j - (na + padn na + nb + padn nb) = j by omega]
theorem aeF5 (j : Nat) (h : j < 8) : aeF na fa nb fb (na + padn na + nb + padn nb + 8 + j) = byt nb j := by
  unfold aeF; rw [if_neg (by omega), if_neg (by omega), if_neg (by omega), if_neg (by omega), if_neg (by omega), show na + padn na + nb + padn nb + 8 + j - (na + padn na + nb + padn nb + 8) = j by omega]
theorem aeF_lt (hfa : ∀ i, i < na → fa i < 256) (hfb : ∀ i, i < nb → fb i < 256) (i : Nat) : aeF na fa nb fb i < 256 := by
  unfold aeF
  split
  · exact hfa _ (by assumption)
  · split
    · decide
    · split
      · exact hfb _ (by omega)
      · split
        · decide
        · split
          · exact byt_lt _ _
          · exact byt_lt _ _
end
/-- The key of one tag. -/
def once (K N : Nat) : Nat := lev (blkb K N 0) 32
theorem once_at (K N : Nat) : ∀ i, i < 32 → blkb K N 0 i = byt (once K N) i := fun i hi => (byt_lev (blkb K N 0) 32 (fun i _ => b4_lt _ i) i hi).symm
def tagB (K N na : Nat) (fa : Nat → Nat) (nb : Nat) (fb : Nat → Nat) : Nat → Nat := byt (tagZ (aeF na fa nb fb) (aeN na nb) (once K N))
theorem slN {k : IntKind} {t n : Nat} {f : Nat → Nat} {v : Value} {mi : Mem} (h : ∃ e, RowN k t n f v e ∧ mi = [e]) : ∃ p c, v = .slice p n c := by
  obtain ⟨e, h, _⟩ := h
  obtain ⟨p, c, h, _⟩ := h.slice
  exact ⟨p, c, h⟩
theorem tag_six (K N na nb : Nat) (fa fb : Nat → Nat) (hfa : ∀ i, i < na → fa i < 256) (hfb : ∀ i, i < nb → fb i < 256) (hna : na ≤ 400000) (hnb : nb ≤ 400000) {v0 v1 v2 v3 v4 v5 : Value} {w0 w : World} {mm mi : Mem} {vs : Value} (hw : Has w0 mm w) (hs : mi.Sublist mm) (h : IsSl 6 #[v0, v1, v2, v3, v4, v5] 35 vs mi)
    (h0 : Rd w .u8 na fa v0) (h1 : Rd w .u8 (padn na) (fun _ => 0) v1) (h2 : Rd w .u8 nb fb v2) (h3 : Rd w .u8 (padn nb) (fun _ => 0) v3) (h4 : Rd w .u8 8 (byt na) v4) (h5 : Rd w .u8 8 (byt nb) v5) :
    Calls Try.prog 46 [.agg (arr .u8 32 (blkb K N 0)), vs].toArray w (PostV w (.agg (arr .u8 16 (tagB K N na fa nb fb)))) := by
  have e0 : offOf (fun i => if i = 0 then na else if i = 1 then padn na else if i = 2 then nb else if i = 3 then padn nb else 8) 6 = aeN na nb := by simp [offOf, aeN]
  have hh := tag_list (once K N) 6 #[v0, v1, v2, v3, v4, v5] (fun i => if i = 0 then v0 else if i = 1 then v1 else if i = 2 then v2 else if i = 3 then v3 else if i = 4 then v4 else v5) (fun i => if i = 0 then na else if i = 1 then padn na else if i = 2 then nb else if i = 3 then padn nb else 8)
    (fun i => if i = 0 then fa else if i = 1 then fun _ => 0 else if i = 2 then fb else if i = 3 then fun _ => 0 else if i = 4 then byt na else byt nb) (aeF na fa nb fb)
    (fun i hi j hj => by
      have : i = 0 ∨ i = 1 ∨ i = 2 ∨ i = 3 ∨ i = 4 ∨ i = 5 := by omega
      rcases this with rfl | rfl | rfl | rfl | rfl | rfl
      · simpa [offOf] using aeF0 na nb fa fb j (by simpa using hj)
      · simpa [offOf] using aeF1 na nb fa fb j (by simpa using hj)
      · simpa [offOf] using aeF2 na nb fa fb j (by simpa using hj)
      · simpa [offOf] using aeF3 na nb fa fb j (by simpa using hj)
      · simpa [offOf] using aeF4 na nb fa fb j (by simpa using hj)
      · simpa [offOf] using aeF5 na nb fa fb j (by simpa using hj)) (by rw [e0]; unfold aeN padn; omega) (by decide) (fun i _ => aeF_lt na nb fa fb hfa hfb i) (fun i hi => by
      have : i = 0 ∨ i = 1 ∨ i = 2 ∨ i = 3 ∨ i = 4 ∨ i = 5 := by omega
      rcases this with rfl | rfl | rfl | rfl | rfl | rfl <;> rfl) hw hs h (fun i hi => by
      have : i = 0 ∨ i = 1 ∨ i = 2 ∨ i = 3 ∨ i = 4 ∨ i = 5 := by omega
      rcases this with rfl | rfl | rfl | rfl | rfl | rfl
      · exact h0
      · exact h1
      · exact h2
      · exact h3
      · exact h4
      · exact h5)
  rw [e0] at hh
  rwa [arr_congr (once_at K N)]

set_option maxRecDepth 100000 in
set_option maxHeartbeats 1000000 in
theorem atag_spec (K N na nb : Nat) (fa fb : Nat → Nat) (hfa : ∀ i, i < na → fa i < 256) (hfb : ∀ i, i < nb → fb i < 256) (hna : na ≤ 400000) (hnb : nb ≤ 400000) (va vb : Value) (w : World) (ha : Rd w .u8 na fa va) (hb : Rd w .u8 nb fb vb) :
    Calls Try.prog 59 [.agg (arr .u8 32 (byt K)), .agg (arr .u8 12 (byt N)), va, vb].toArray w (PostV w (.agg (arr .u8 16 (tagB K N na fa nb fb)))) := by
  have ha0 := ha
  have hb0 := hb
  obtain ⟨p1, c1, b1, o1, rfl, hp1, hx1⟩ := ha
  obtain ⟨p2, c2, b2, o2, rfl, hp2, hx2⟩ := hb
  refine calls_of_WC Try.func59 rfl ?_
  simp only [Try.ntmps59, List.length_cons, List.length_nil, Nat.reduceAdd, Nat.reduceSub, List.replicate, List.cons_append, List.nil_append]
  refine WC_seq ?_
  refine WC_region ?_
  refine WL_rel rfl (rel_box rfl rfl) ?_
  rintro _ _ ⟨b0, rfl, rfl⟩
  dsimp only [put, List.set, ev, nth, List.nil_append, List.cons_append, md, Nat.reducePow, Nat.reduceAdd, Nat.reduceMul]
  refine WL_rel rfl (rel_box rfl rfl) ?_
  rintro _ _ ⟨b1, rfl, rfl⟩
  dsimp only [put, List.set, ev, nth, List.nil_append, List.cons_append, md, Nat.reducePow, Nat.reduceAdd, Nat.reduceMul]
  refine WL_rel rfl (rel_alloc z71 rfl) ?_
  rintro _ _ ⟨b2, rfl, rfl⟩
  dsimp only [put, List.set, ev, nth, List.nil_append, List.cons_append, md, Nat.reducePow, Nat.reduceAdd, Nat.reduceMul]
  refine WL_nil ?_
  refine WC_seq ?_
  refine WC_region ?_
  refine WL_det rfl (det_loadWA 0 Try.underlying22 rfl i22 rfl rfl) ?_
  dsimp only [put, List.set, ev, nth, List.nil_append, List.cons_append, md, Nat.reducePow, Nat.reduceAdd, Nat.reduceMul]
  refine WL_det rfl (det_loadWA 1 Try.underlying23 rfl i23 rfl rfl) ?_
  dsimp only [put, List.set, ev, nth, List.nil_append, List.cons_append, md, Nat.reducePow, Nat.reduceAdd, Nat.reduceMul]
  refine WL_rel rfl (Rel_call rfl Try.call18 (fun w hw => block_spec K N 0 (by decide) w)) ?_
  rintro _ _ ⟨rfl, rfl⟩
  dsimp only [put, List.append_nil, List.set, ev, nth, List.nil_append, List.cons_append, md, Nat.reducePow, Nat.reduceAdd, Nat.reduceMul]
  refine WL_rel rfl (rel_alloc z33 rfl) ?_
  rintro _ _ ⟨b3, rfl, rfl⟩
  dsimp only [put, List.set, ev, nth, List.nil_append, List.cons_append, md, Nat.reducePow, Nat.reduceAdd, Nat.reduceMul]
  refine WL_chg rfl (chg_storeWA 3 Try.sizeOf33 rfl rfl rfl) ?_
  rintro _ _ rfl
  dsimp only [put, List.set, ev, nth, List.nil_append, List.cons_append, md, Nat.reducePow, Nat.reduceAdd, Nat.reduceMul]
  refine WL_nil ?_
  refine WC_seq ?_
  refine WC_draw [[], [0], [0, 1], [], [], [4], [4, 5], [], [], [8], [4, 5, 6, 8, 9], [], [4, 5, 6, 8, 9, 10, 11], [], [4, 5, 6, 8, 9, 10, 11, 12, 13], [3, 4, 5, 6, 7, 8, 9, 10, 11, 12, 13, 14], [0, 1, 2, 3, 4, 5, 6, 7, 8, 9, 10, 11, 12, 13, 14, 15], [0, 1, 2, 3, 4, 5, 6, 7, 8, 9, 10, 11, 12, 13, 14, 15, 16]] [17] 30 [] (List.nil_sublist _) mixed rfl (by decide) ?_
  refine RW.pure rfl rfl (fun _ => rfl) (fun V hV => det_arrTo (h := 32) Try.underlying33 Try.sizeOf5 rfl rfl (by omega)) (fun _ _ _ => rfl) ?_
  dsimp only [put, List.set, ev, nth, List.nil_append, List.cons_append, md, Nat.reducePow, Nat.reduceAdd, Nat.reduceMul]
  refine RW.pure rfl rfl (fun _ => rfl) (fun V hV => det_arrayAt Try.underlying22 rfl (by omega)) (fun _ _ _ => rfl) ?_
  dsimp only [put, List.set, ev, nth, List.nil_append, List.cons_append, md, Nat.reducePow, Nat.reduceAdd, Nat.reduceMul]
  refine RW.det [] rfl rfl rfl rfl (fun _ => rfl) (fun V hV => Det.rel (det_loadPart0 3 Try.underlying22 i22 rfl rfl (by decide))) (fun _ _ _ => rfl) ?_
  dsimp only [put, List.set, ev, nth, List.nil_append, List.cons_append, md, Nat.reducePow, Nat.reduceAdd, Nat.reduceMul]
  refine RW.pure rfl rfl (fun _ => rfl) (fun V hV => det_move) (fun _ _ _ => rfl) ?_
  dsimp only [put, List.set, ev, nth, List.nil_append, List.cons_append, md, Nat.reducePow, Nat.reduceAdd, Nat.reduceMul]
  refine RW.pure rfl rfl (fun _ => rfl) (fun V hV => det_move) (fun _ _ _ => rfl) ?_
  dsimp only [put, List.set, ev, nth, List.nil_append, List.cons_append, md, Nat.reducePow, Nat.reduceAdd, Nat.reduceMul]
  refine RW.pure rfl rfl (fun _ => rfl) (fun V hV => det_len Try.underlying35 rfl) (fun _ _ _ => rfl) ?_
  dsimp only [put, List.set, ev, nth, List.nil_append, List.cons_append, md, Nat.reducePow, Nat.reduceAdd, Nat.reduceMul]
  refine RW.rel' (R0 := fun _ v m => ∃ e, RowN .u8 5 (padn na) (fun _ => 0) v e ∧ m = [e]) [] rfl rfl rfl rfl (fun _ => rfl) rfl (fun V hV => Rel_call rfl Try.call83 (fun w hw => gap_spec na w)) (fun _ _ _ _ _ h => h) ?_
  dsimp only [put, List.set, ev, nth, List.nil_append, List.cons_append, md, Nat.reducePow, Nat.reduceAdd, Nat.reduceMul]
  refine RW.pure rfl rfl (fun _ => rfl) (fun V hV => det_move) (fun _ _ _ => rfl) ?_
  dsimp only [put, List.set, ev, nth, List.nil_append, List.cons_append, md, Nat.reducePow, Nat.reduceAdd, Nat.reduceMul]
  refine RW.pure rfl rfl (fun _ => rfl) (fun V hV => det_move) (fun _ _ _ => rfl) ?_
  dsimp only [put, List.set, ev, nth, List.nil_append, List.cons_append, md, Nat.reducePow, Nat.reduceAdd, Nat.reduceMul]
  refine RW.pure rfl rfl (fun _ => rfl) (fun V hV => det_len Try.underlying35 rfl) (fun _ _ _ => rfl) ?_
  dsimp only [put, List.set, ev, nth, List.nil_append, List.cons_append, md, Nat.reducePow, Nat.reduceAdd, Nat.reduceMul]
  refine RW.rel' (R0 := fun _ v m => ∃ e, RowN .u8 5 (padn nb) (fun _ => 0) v e ∧ m = [e]) [] rfl rfl rfl rfl (fun _ => rfl) rfl (fun V hV => Rel_call rfl Try.call83 (fun w hw => gap_spec nb w)) (fun _ _ _ _ _ h => h) ?_
  dsimp only [put, List.set, ev, nth, List.nil_append, List.cons_append, md, Nat.reducePow, Nat.reduceAdd, Nat.reduceMul]
  refine RW.pure rfl rfl (fun _ => rfl) (fun V hV => det_move) (fun _ _ _ => rfl) ?_
  dsimp only [put, List.set, ev, nth, List.nil_append, List.cons_append, md, Nat.reducePow, Nat.reduceAdd, Nat.reduceMul]
  refine RW.rel' (R0 := fun _ v m => ∃ e, RowN .u8 5 (8) (byt na) v e ∧ m = [e]) [] rfl rfl rfl rfl (fun _ => rfl) rfl (fun V hV => Rel_call rfl Try.call84 (fun w hw => size_spec na c1 p1 (by omega) w)) (fun _ _ _ _ _ h => h) ?_
  dsimp only [put, List.set, ev, nth, List.nil_append, List.cons_append, md, Nat.reducePow, Nat.reduceAdd, Nat.reduceMul]
  refine RW.pure rfl rfl (fun _ => rfl) (fun V hV => det_move) (fun _ _ _ => rfl) ?_
  dsimp only [put, List.set, ev, nth, List.nil_append, List.cons_append, md, Nat.reducePow, Nat.reduceAdd, Nat.reduceMul]
  refine RW.rel' (R0 := fun _ v m => ∃ e, RowN .u8 5 (8) (byt nb) v e ∧ m = [e]) [] rfl rfl rfl rfl (fun _ => rfl) rfl (fun V hV => Rel_call rfl Try.call84 (fun w hw => size_spec nb c2 p2 (by omega) w)) (fun _ _ _ _ _ h => h) ?_
  dsimp only [put, List.set, ev, nth, List.nil_append, List.cons_append, md, Nat.reducePow, Nat.reduceAdd, Nat.reduceMul]
  refine RW.rel' [] rfl rfl rfl rfl (fun _ => rfl) rfl (fun V hV => rel_lit (c := #[.slice p1 na c1, (V 6).1, .slice p2 nb c2, (V 10).1, (V 12).1, (V 14).1]) Try.underlying110 Try.zeroValue35 Try.sizeOf35 (by decide) (by decide) (by obtain ⟨q6, k6, h6⟩ := slN (hV 6 (by decide) _ rfl); obtain ⟨q10, k10, h10⟩ := slN (hV 10 (by decide) _ rfl); obtain ⟨q12, k12, h12⟩ := slN (hV 12 (by decide) _ rfl); obtain ⟨q14, k14, h14⟩ := slN (hV 14 (by decide) _ rfl); rw [h6, h10, h12, h14]; kernel_rfl)) (fun V V' hV v m h => by simpa only [hV 6 (by decide), hV 10 (by decide), hV 12 (by decide), hV 14 (by decide)] using h) ?_
  dsimp only [put, List.set, ev, nth, List.nil_append, List.cons_append, md, Nat.reducePow, Nat.reduceAdd, Nat.reduceMul]
  refine RW.det [6, 10, 12, 14, 15] rfl rfl rfl rfl (fun _ => rfl) (fun V hV => Rel_call rfl Try.call46 (fun w hw => tag_six K N na nb fa fb hfa hfb hna hnb hw (flat_mem (j := 15) (by decide)) (hV 15 (by decide) _ rfl) (ha0.far hw) (Rd.rowNew hw (flat_mem (j := 6) (by decide)) (hV 6 (by decide) _ rfl)) (hb0.far hw) (Rd.rowNew hw (flat_mem (j := 10) (by decide)) (hV 10 (by decide) _ rfl)) (Rd.rowNew hw (flat_mem (j := 12) (by decide)) (hV 12 (by decide) _ rfl)) (Rd.rowNew hw (flat_mem (j := 14) (by decide)) (hV 14 (by decide) _ rfl)))) (fun _ _ _ => rfl) ?_
  dsimp only [put, List.set, ev, nth, List.nil_append, List.cons_append, md, Nat.reducePow, Nat.reduceAdd, Nat.reduceMul]
  refine RW.tail' (B := fun V => _ ++ flat [6, 10, 12, 14, 15] V) rfl rfl rfl rfl (fun _ => rfl) (fun V hV => chg_storeWA 2 Try.sizeOf71 rfl rfl rfl) (fun V V' hV _ _ h => by simpa only [flat_cons, flat_nil, hV 6 (by decide), hV 10 (by decide), hV 12 (by decide), hV 14 (by decide), hV 15 (by decide)] using h) (fun _ _ _ _ _ => List.nil_sublist _) ?_
  dsimp only [put, List.set, ev, nth, List.nil_append, List.cons_append, md, Nat.reducePow, Nat.reduceAdd, Nat.reduceMul]
  refine RW.done (fun V => (V 17).2) rfl rfl (fun _ => rfl) (fun V hV => ?_)
  obtain ⟨bl15, hp15, hq15⟩ : IsSl _ _ _ (V 15).1 (V 15).2 := hV 15 _ rfl
  obtain ⟨e6, hr6, hq6⟩ : ∃ e, RowN .u8 5 (padn na) (fun _ => 0) (V 6).1 e ∧ (V 6).2 = [e] := hV 6 _ rfl
  obtain ⟨v6, hv6⟩ : ∃ v, v = (V 6).1 := ⟨_, rfl⟩
  rw [← hv6] at hr6
  obtain ⟨e10, hr10, hq10⟩ : ∃ e, RowN .u8 5 (padn nb) (fun _ => 0) (V 10).1 e ∧ (V 10).2 = [e] := hV 10 _ rfl
  obtain ⟨v10, hv10⟩ : ∃ v, v = (V 10).1 := ⟨_, rfl⟩
  rw [← hv10] at hr10
  obtain ⟨e12, hr12, hq12⟩ : ∃ e, RowN .u8 5 (8) (byt na) (V 12).1 e ∧ (V 12).2 = [e] := hV 12 _ rfl
  obtain ⟨v12, hv12⟩ : ∃ v, v = (V 12).1 := ⟨_, rfl⟩
  rw [← hv12] at hr12
  obtain ⟨e14, hr14, hq14⟩ : ∃ e, RowN .u8 5 (8) (byt nb) (V 14).1 e ∧ (V 14).2 = [e] := hV 14 _ rfl
  obtain ⟨v14, hv14⟩ : ∃ v, v = (V 14).1 := ⟨_, rfl⟩
  rw [← hv14] at hr14
  have ht17 : (V 17).2 = _ := hV 17 _ rfl
  simp only [hp15, hq15, hq6, ← hv6, hq10, ← hv10, hq12, ← hv12, hq14, ← hv14, ht17, flat_cons, flat_nil]
  try dsimp only [put, blk, flat_nil, List.append_nil, List.append, List.eraseIdx, List.set, ev, nth, List.nil_append, List.cons_append, md, Nat.reducePow, Nat.reduceAdd, Nat.reduceMul]
  clear hV ht17
  refine WC_ret ?_
  refine fin_cell 2 Try.results59 rfl rfl Try.underlying71 rfl i71 (arr_size _ _ _) ([]) (List.nil_sublist _) ?_
  exact ⟨rfl, rfl⟩

set_option maxRecDepth 100000 in
set_option maxHeartbeats 2000000 in
theorem ratag_spec (K N na nb : Nat) (fa fb : Nat → Nat) (hfa : ∀ i, i < na → fa i < 256) (hfb : ∀ i, i < nb → fb i < 256) (hna : na ≤ 400000) (hnb : nb ≤ 400000) (va vb : Value) (w : World) (ha : Rd w .u8 na fa va) (hb : Rd w .u8 nb fb vb) :
    Calls Try.prog 60 [.agg (arr .u8 32 (byt K)), .agg (arr .u8 12 (byt N)), va, vb].toArray w (PostV w (.agg (arr .u8 16 (tagB K N na fa nb fb)))) := by
  have ha0 := ha
  have hb0 := hb
  obtain ⟨p1, c1, b1, o1, rfl, hp1, hx1⟩ := ha
  obtain ⟨p2, c2, b2, o2, rfl, hp2, hx2⟩ := hb
  obtain ⟨F, hF⟩ : ∃ F, F = aeF na fa nb fb := ⟨_, rfl⟩
  have a0 := aeF0 na nb fa fb
  have a1 := aeF1 na nb fa fb
  have a2 := aeF2 na nb fa fb
  have a3 := aeF3 na nb fa fb
  have a4 := aeF4 na nb fa fb
  have a5 := aeF5 na nb fa fb
  rw [← hF] at a0 a1 a2 a3 a4 a5
  have hFlt : ∀ i, i < aeN na nb → F i < 256 := fun i _ => by rw [hF]; exact aeF_lt na nb fa fb hfa hfb i
  refine calls_of_WC Try.func60 rfl ?_
  simp only [Try.ntmps60, List.length_cons, List.length_nil, Nat.reduceAdd, Nat.reduceSub, List.replicate, List.cons_append, List.nil_append]
  refine WC_seq ?_
  refine WC_region ?_
  refine WL_rel rfl (rel_box rfl rfl) ?_
  rintro _ _ ⟨b0, rfl, rfl⟩
  dsimp only [put, List.set, ev, nth, List.nil_append, List.cons_append, md, Nat.reducePow, Nat.reduceAdd, Nat.reduceMul]
  refine WL_rel rfl (rel_box rfl rfl) ?_
  rintro _ _ ⟨b1, rfl, rfl⟩
  dsimp only [put, List.set, ev, nth, List.nil_append, List.cons_append, md, Nat.reducePow, Nat.reduceAdd, Nat.reduceMul]
  refine WL_rel rfl (rel_alloc z71 rfl) ?_
  rintro _ _ ⟨b2, rfl, rfl⟩
  dsimp only [put, List.set, ev, nth, List.nil_append, List.cons_append, md, Nat.reducePow, Nat.reduceAdd, Nat.reduceMul]
  refine WL_nil ?_
  refine WC_seq ?_
  refine WC_region ?_
  refine WL_det rfl (det_loadWA 0 Try.underlying22 rfl i22 rfl rfl) ?_
  dsimp only [put, List.set, ev, nth, List.nil_append, List.cons_append, md, Nat.reducePow, Nat.reduceAdd, Nat.reduceMul]
  refine WL_det rfl (det_loadWA 1 Try.underlying23 rfl i23 rfl rfl) ?_
  dsimp only [put, List.set, ev, nth, List.nil_append, List.cons_append, md, Nat.reducePow, Nat.reduceAdd, Nat.reduceMul]
  refine WL_rel rfl (Rel_call rfl Try.call19 (fun w hw => rblock_spec K N 0 (by decide) w)) ?_
  rintro _ _ ⟨_, hr9, rfl⟩
  obtain ⟨b9, c9, cur9, rfl, rfl, hle9, hmx9, hsz9, hcur9⟩ := RowV.pos hr9 (by decide)
  dsimp only [put, List.append_nil, List.set, ev, nth, List.nil_append, List.cons_append, md, Nat.reducePow, Nat.reduceAdd, Nat.reduceMul]
  refine WL_det rfl (det_assign) ?_
  dsimp only [put, List.set, ev, nth, List.nil_append, List.cons_append, md, Nat.reducePow, Nat.reduceAdd, Nat.reduceMul]
  refine WL_nil ?_
  refine WC_seq ?_
  refine WC_region ?_
  refine WL_rel rfl (rel_alloc z22 rfl) ?_
  rintro _ _ ⟨b4, rfl, rfl⟩
  dsimp only [put, List.set, ev, nth, List.nil_append, List.cons_append, md, Nat.reducePow, Nat.reduceAdd, Nat.reduceMul]
  refine WL_nil ?_
  refine WC_seq ?_
  refine WC_seq ?_
  refine WC_region ?_
  refine WL_det rfl (det_assign) ?_
  dsimp only [put, List.set, ev, nth, List.nil_append, List.cons_append, md, Nat.reducePow, Nat.reduceAdd, Nat.reduceMul]
  refine WL_nil ?_
  refine WC_block ?_
  refine WC_loopS (ι := Nat) [20, 21, 24, 25, 26, 27, 28, 29, 22, 23] (fun i => [(11, vn .i64 (i))]) (fun i => [(4, (some b4, .cells (arr .u8 32 (fillz (blkb K N 0) i)) 22 (0, 0)))]) (fun i => i ≤ 32) (fun i => 32 - i) 0 ?_ ?_ ?_ ?_
  · rfl
  · rw [fillz_zero]
    try rfl
  · exact (by omega)
  · intro i g hI
    dsimp only [setAll, setG, setM, List.set]
    refine WC_seq ?_
    refine WC_seq ?_
    refine WC_region ?_
    refine WL_det rfl (det_move) ?_
    dsimp only [put, List.set, ev, nth, List.nil_append, List.cons_append, md, Nat.reducePow, Nat.reduceAdd, Nat.reduceMul]
    refine WL_det rfl (det_lss (q := 32) rfl rfl) ?_
    dsimp only [put, List.set, ev, nth, List.nil_append, List.cons_append, md, Nat.reducePow, Nat.reduceAdd, Nat.reduceMul]
    refine WL_nil ?_
    refine WC_cond rfl (fun hc0 => ?_) (fun hc0 => ?_)
    · have hc0 := of_decide_eq_true hc0
      refine WC_skip ?_
      refine WC_seq ?_
      refine WC_block ?_
      refine WC_region ?_
      refine WL_det rfl (det_move) ?_
      dsimp only [put, List.set, ev, nth, List.nil_append, List.cons_append, md, Nat.reducePow, Nat.reduceAdd, Nat.reduceMul]
      refine WL_det rfl (det_move) ?_
      dsimp only [put, List.set, ev, nth, List.nil_append, List.cons_append, md, Nat.reducePow, Nat.reduceAdd, Nat.reduceMul]
      refine WL_det rfl (det_move) ?_
      dsimp only [put, List.set, ev, nth, List.nil_append, List.cons_append, md, Nat.reducePow, Nat.reduceAdd, Nat.reduceMul]
      refine WL_det rfl (det_idxS0 Try.underlying35 Try.sizeOf5 rfl rfl (rfl) (by omega)) ?_
      dsimp only [put, List.set, ev, nth, List.nil_append, List.cons_append, md, Nat.reducePow, Nat.reduceAdd, Nat.reduceMul]
      refine WL_det rfl (det_load 3 Try.isAgg5 rfl rfl (hcur9 _ (by omega))) ?_
      dsimp only [put, List.set, ev, nth, List.nil_append, List.cons_append, md, Nat.reducePow, Nat.reduceAdd, Nat.reduceMul]
      refine WL_det rfl (det_idxA Try.underlying22 Try.sizeOf5 rfl rfl (rfl) (by omega)) ?_
      dsimp only [put, List.set, ev, nth, List.nil_append, List.cons_append, md, Nat.reducePow, Nat.reduceAdd, Nat.reduceMul]
      refine WL_chg rfl (chg_storeA 4 Try.sizeOf5 rfl rfl (by omega) rfl) ?_
      rintro _ _ rfl
      dsimp only [put, List.set, ev, nth, List.nil_append, List.cons_append, md, Nat.reducePow, Nat.reduceAdd, Nat.reduceMul]
      refine WL_nil ?_
      refine WC_region ?_
      refine WL_det rfl (det_move) ?_
      dsimp only [put, List.set, ev, nth, List.nil_append, List.cons_append, md, Nat.reducePow, Nat.reduceAdd, Nat.reduceMul]
      refine WL_det rfl (det_addi (q := 1) rfl rfl (by omega)) ?_
      dsimp only [put, List.set, ev, nth, List.nil_append, List.cons_append, md, Nat.reducePow, Nat.reduceAdd, Nat.reduceMul]
      refine WL_det rfl (det_assign) ?_
      dsimp only [put, List.set, ev, nth, List.nil_append, List.cons_append, md, Nat.reducePow, Nat.reduceAdd, Nat.reduceMul]
      refine WL_nil ?_
      refine ⟨i + 1, ?_, ?_, ?_, ?_⟩
      · rfl
      · rw [fillz_step]
        try rfl
      · omega
      · omega
    · have hc0 := of_decide_eq_false hc0
      obtain rfl : i = 32 := by omega
      rw [arr_congr (f := fillz (blkb K N 0) 32) (g := byt (once K N)) (fun i hi => (fillz_full _ 32 i hi).trans (once_at K N i hi))]
      refine WC_exit ?_
      refine inB_same ?_
      refine WC_seq ?_
      refine WC_region ?_
      refine WL_det rfl (det_assign) ?_
      dsimp only [put, List.set, ev, nth, List.nil_append, List.cons_append, md, Nat.reducePow, Nat.reduceAdd, Nat.reduceMul]
      refine WL_nil ?_
      refine WC_seq ?_
      refine WC_region ?_
      refine WL.addNone (.cells #[] 5 (0, 0)) ?_
      dsimp only [List.cons_append, List.nil_append]
      refine WL_det rfl (det_move) ?_
      dsimp only [put, List.set, ev, nth, List.nil_append, List.cons_append, md, Nat.reducePow, Nat.reduceAdd, Nat.reduceMul]
      refine WL_det rfl (det_move) ?_
      dsimp only [put, List.set, ev, nth, List.nil_append, List.cons_append, md, Nat.reducePow, Nat.reduceAdd, Nat.reduceMul]
      refine WL_chg rfl (chg_appendRd 5 rfl (show RowN .u8 5 0 F _ _ from RowV.nil _ _ _) rfl rfl (fun w hw => ha0.far hw) Try.underlying35 ei5 rfl (by omega) (by decide)) ?_
      rintro v32 _ ⟨e32, hr32, rfl⟩
      dsimp only [put, List.eraseIdx, List.set, ev, nth, List.nil_append, List.cons_append, md, Nat.reducePow, Nat.reduceAdd, Nat.reduceMul]
      have hr32 : RowN .u8 5 na F v32 e32 := by
        rw [Nat.zero_add] at hr32
        exact RowN.congr hr32 fun i hi => by simp [catV, a0 i hi]
      refine WL_det rfl (det_assign) ?_
      dsimp only [put, List.set, ev, nth, List.nil_append, List.cons_append, md, Nat.reducePow, Nat.reduceAdd, Nat.reduceMul]
      refine WL_nil ?_
      refine WC_seq ?_
      refine WC_block ?_
      refine WC_loopS (ι := Nat × Value × (Option Nat × Obj)) [33, 34, 35, 36, 37, 38, 39] (fun x => [(12, x.2.1)]) (fun x => [(5, x.2.2)]) (fun x => na ≤ x.1 ∧ x.1 ≤ na + padn na ∧ RowN .u8 5 x.1 F x.2.1 x.2.2) (fun x => na + padn na - x.1) (na, v32, e32) ?_ ?_ ?_ ?_
      · rfl
      · rfl
      · exact ⟨Nat.le_refl _, Nat.le_add_right _ _, hr32⟩
      · rintro ⟨m, v12, e12⟩ g ⟨hm1, hm2, hr12⟩
        dsimp only [setAll, setG, setM, List.set]
        dsimp only at hm1 hm2 hr12
        obtain ⟨p12, c12, rfl, hc12⟩ := hr12.slice
        refine WC_seq ?_
        refine WC_seq ?_
        refine WC_region ?_
        refine WL_det rfl (det_move) ?_
        dsimp only [put, List.set, ev, nth, List.nil_append, List.cons_append, md, Nat.reducePow, Nat.reduceAdd, Nat.reduceMul]
        refine WL_det rfl (det_len Try.underlying35 rfl) ?_
        dsimp only [put, List.set, ev, nth, List.nil_append, List.cons_append, md, Nat.reducePow, Nat.reduceAdd, Nat.reduceMul]
        refine WL_det rfl (det_remi (q := 16) rfl rfl (by omega)) ?_
        dsimp only [put, List.set, ev, nth, List.nil_append, List.cons_append, md, Nat.reducePow, Nat.reduceAdd, Nat.reduceMul]
        refine WL_det rfl (det_neq (q := 0) rfl rfl) ?_
        dsimp only [put, List.set, ev, nth, List.nil_append, List.cons_append, md, Nat.reducePow, Nat.reduceAdd, Nat.reduceMul]
        refine WL_nil ?_
        refine WC_cond rfl (fun hc1 => ?_) (fun hc1 => ?_)
        · have hc1 : ¬ m % 16 = 0 := by simpa using hc1
          have hlt : m < na + padn na := by unfold padn at hm2 ⊢; omega
          refine WC_skip ?_
          refine WC_block ?_
          refine WC_region ?_
          refine WL_det rfl (det_move) ?_
          dsimp only [put, List.set, ev, nth, List.nil_append, List.cons_append, md, Nat.reducePow, Nat.reduceAdd, Nat.reduceMul]
          refine WL_rel rfl (rel_lit1 Try.underlying35 Try.zeroValue5 Try.sizeOf5 rfl rfl) ?_
          rintro _ _ ⟨bl, rfl, rfl⟩
          dsimp only [put, List.set, ev, nth, List.nil_append, List.cons_append, md, Nat.reducePow, Nat.reduceAdd, Nat.reduceMul]
          refine WL_chg rfl (chg_append1 5 6 rfl (hr12) rfl rfl rfl rfl Try.underlying35 ei5 rfl (by unfold padn at hm2; omega) (by decide)) ?_
          rintro v39 _ ⟨e39, hr39, rfl⟩
          dsimp only [put, List.eraseIdx, List.set, ev, nth, List.nil_append, List.cons_append, md, Nat.reducePow, Nat.reduceAdd, Nat.reduceMul]
          have hr39 : RowN .u8 5 (m + 1) F v39 e39 := RowN.snoc hr39 (by have h := a1 (m - na) (by omega); rw [show na + (m - na) = m by omega] at h; exact h.symm)
          refine WL_det rfl (det_assign) ?_
          dsimp only [put, List.set, ev, nth, List.nil_append, List.cons_append, md, Nat.reducePow, Nat.reduceAdd, Nat.reduceMul]
          refine WL_nil ?_
          refine ⟨(m + 1, v39, e39), ?_, ?_, ?_, ?_⟩
          · rfl
          · rfl
          · exact ⟨by dsimp only; omega, by dsimp only; omega, hr39⟩
          · dsimp only; omega
        · have hc1 : m % 16 = 0 := by simpa using hc1
          obtain rfl : m = na + padn na := by unfold padn at hm2 ⊢; omega
          refine WC_exit ?_
          refine inB_same ?_
          refine WC_seq ?_
          refine WC_region ?_
          refine WL_det rfl (det_move) ?_
          dsimp only [put, List.set, ev, nth, List.nil_append, List.cons_append, md, Nat.reducePow, Nat.reduceAdd, Nat.reduceMul]
          refine WL_det rfl (det_move) ?_
          dsimp only [put, List.set, ev, nth, List.nil_append, List.cons_append, md, Nat.reducePow, Nat.reduceAdd, Nat.reduceMul]
          refine WL_chg rfl (chg_appendRd 5 rfl (hr12) rfl rfl (fun w hw => hb0.far hw) Try.underlying35 ei5 rfl (by unfold padn; omega) (by decide)) ?_
          rintro v42 _ ⟨e42, hr42, rfl⟩
          dsimp only [put, List.eraseIdx, List.set, ev, nth, List.nil_append, List.cons_append, md, Nat.reducePow, Nat.reduceAdd, Nat.reduceMul]
          have hr42 : RowN .u8 5 (na + padn na + nb) F v42 e42 := RowN.more hr42 a2
          refine WL_det rfl (det_assign) ?_
          dsimp only [put, List.set, ev, nth, List.nil_append, List.cons_append, md, Nat.reducePow, Nat.reduceAdd, Nat.reduceMul]
          refine WL_nil ?_
          refine WC_seq ?_
          refine WC_block ?_
          refine WC_loopS (ι := Nat × Value × (Option Nat × Obj)) [43, 44, 45, 46, 47, 48, 49] (fun x => [(12, x.2.1)]) (fun x => [(5, x.2.2)]) (fun x => na + padn na + nb ≤ x.1 ∧ x.1 ≤ na + padn na + nb + padn nb ∧ RowN .u8 5 x.1 F x.2.1 x.2.2) (fun x => na + padn na + nb + padn nb - x.1) (na + padn na + nb, v42, e42) ?_ ?_ ?_ ?_
          · rfl
          · rfl
          · exact ⟨Nat.le_refl _, Nat.le_add_right _ _, hr42⟩
          · rintro ⟨m, v12, e12⟩ g ⟨hm1, hm2, hr12⟩
            dsimp only [setAll, setG, setM, List.set]
            dsimp only at hm1 hm2 hr12
            obtain ⟨p12, c12, rfl, hc12⟩ := hr12.slice
            refine WC_seq ?_
            refine WC_seq ?_
            refine WC_region ?_
            refine WL_det rfl (det_move) ?_
            dsimp only [put, List.set, ev, nth, List.nil_append, List.cons_append, md, Nat.reducePow, Nat.reduceAdd, Nat.reduceMul]
            refine WL_det rfl (det_len Try.underlying35 rfl) ?_
            dsimp only [put, List.set, ev, nth, List.nil_append, List.cons_append, md, Nat.reducePow, Nat.reduceAdd, Nat.reduceMul]
            refine WL_det rfl (det_remi (q := 16) rfl rfl (by omega)) ?_
            dsimp only [put, List.set, ev, nth, List.nil_append, List.cons_append, md, Nat.reducePow, Nat.reduceAdd, Nat.reduceMul]
            refine WL_det rfl (det_neq (q := 0) rfl rfl) ?_
            dsimp only [put, List.set, ev, nth, List.nil_append, List.cons_append, md, Nat.reducePow, Nat.reduceAdd, Nat.reduceMul]
            refine WL_nil ?_
            refine WC_cond rfl (fun hc2 => ?_) (fun hc2 => ?_)
            · have hc2 : ¬ m % 16 = 0 := by simpa using hc2
              have hlt : m < na + padn na + nb + padn nb := by unfold padn at hm1 hm2 ⊢; omega
              refine WC_skip ?_
              refine WC_block ?_
              refine WC_region ?_
              refine WL_det rfl (det_move) ?_
              dsimp only [put, List.set, ev, nth, List.nil_append, List.cons_append, md, Nat.reducePow, Nat.reduceAdd, Nat.reduceMul]
              refine WL_rel rfl (rel_lit1 Try.underlying35 Try.zeroValue5 Try.sizeOf5 rfl rfl) ?_
              rintro _ _ ⟨bl, rfl, rfl⟩
              dsimp only [put, List.set, ev, nth, List.nil_append, List.cons_append, md, Nat.reducePow, Nat.reduceAdd, Nat.reduceMul]
              refine WL_chg rfl (chg_append1 5 6 rfl (hr12) rfl rfl rfl rfl Try.underlying35 ei5 rfl (by unfold padn at hm2; omega) (by decide)) ?_
              rintro v49 _ ⟨e49, hr49, rfl⟩
              dsimp only [put, List.eraseIdx, List.set, ev, nth, List.nil_append, List.cons_append, md, Nat.reducePow, Nat.reduceAdd, Nat.reduceMul]
              have hr49 : RowN .u8 5 (m + 1) F v49 e49 := RowN.snoc hr49 (by have h := a3 (m - (na + padn na + nb)) (by omega); rw [show na + padn na + nb + (m - (na + padn na + nb)) = m by omega] at h; exact h.symm)
              refine WL_det rfl (det_assign) ?_
              dsimp only [put, List.set, ev, nth, List.nil_append, List.cons_append, md, Nat.reducePow, Nat.reduceAdd, Nat.reduceMul]
              refine WL_nil ?_
              refine ⟨(m + 1, v49, e49), ?_, ?_, ?_, ?_⟩
              · rfl
              · rfl
              · exact ⟨by dsimp only; omega, by dsimp only; omega, hr49⟩
              · dsimp only; omega
            · have hc2 : m % 16 = 0 := by simpa using hc2
              obtain rfl : m = na + padn na + nb + padn nb := by unfold padn at hm1 hm2 ⊢; omega
              refine WC_exit ?_
              refine inB_same ?_
              refine WC_seq ?_
              refine WC_region ?_
              refine WL_det rfl (det_move) ?_
              dsimp only [put, List.set, ev, nth, List.nil_append, List.cons_append, md, Nat.reducePow, Nat.reduceAdd, Nat.reduceMul]
              refine WL_det rfl (det_len Try.underlying35 rfl) ?_
              dsimp only [put, List.set, ev, nth, List.nil_append, List.cons_append, md, Nat.reducePow, Nat.reduceAdd, Nat.reduceMul]
              refine WL_rel rfl (Rel_call rfl Try.call85 (fun w hw => rlow_spec na (by omega) w)) ?_
              rintro _ _ ⟨v53, e53, rfl, hr53, rfl⟩
              dsimp only [put, List.append_nil, List.set, ev, nth, List.nil_append, List.cons_append, md, Nat.reducePow, Nat.reduceAdd, Nat.reduceMul]
              refine WL_det rfl (det_move) ?_
              dsimp only [put, List.set, ev, nth, List.nil_append, List.cons_append, md, Nat.reducePow, Nat.reduceAdd, Nat.reduceMul]
              refine WL_det rfl (det_extract rfl rfl) ?_
              dsimp only [put, List.set, ev, nth, List.nil_append, List.cons_append, md, Nat.reducePow, Nat.reduceAdd, Nat.reduceMul]
              refine WL_det rfl (det_extract rfl rfl) ?_
              dsimp only [put, List.set, ev, nth, List.nil_append, List.cons_append, md, Nat.reducePow, Nat.reduceAdd, Nat.reduceMul]
              refine WL_det rfl (det_assign) ?_
              dsimp only [put, List.set, ev, nth, List.nil_append, List.cons_append, md, Nat.reducePow, Nat.reduceAdd, Nat.reduceMul]
              refine WL_det rfl (det_assign) ?_
              dsimp only [put, List.set, ev, nth, List.nil_append, List.cons_append, md, Nat.reducePow, Nat.reduceAdd, Nat.reduceMul]
              refine WL_nil ?_
              refine WC_seq ?_
              refine WC_region ?_
              refine WL_det rfl (det_move) ?_
              dsimp only [put, List.set, ev, nth, List.nil_append, List.cons_append, md, Nat.reducePow, Nat.reduceAdd, Nat.reduceMul]
              refine WL_det rfl (det_len Try.underlying35 rfl) ?_
              dsimp only [put, List.set, ev, nth, List.nil_append, List.cons_append, md, Nat.reducePow, Nat.reduceAdd, Nat.reduceMul]
              refine WL_rel rfl (Rel_call rfl Try.call85 (fun w hw => rlow_spec nb (by omega) w)) ?_
              rintro _ _ ⟨v59, e59, rfl, hr59, rfl⟩
              dsimp only [put, List.append_nil, List.set, ev, nth, List.nil_append, List.cons_append, md, Nat.reducePow, Nat.reduceAdd, Nat.reduceMul]
              refine WL_det rfl (det_move) ?_
              dsimp only [put, List.set, ev, nth, List.nil_append, List.cons_append, md, Nat.reducePow, Nat.reduceAdd, Nat.reduceMul]
              refine WL_det rfl (det_extract rfl rfl) ?_
              dsimp only [put, List.set, ev, nth, List.nil_append, List.cons_append, md, Nat.reducePow, Nat.reduceAdd, Nat.reduceMul]
              refine WL_det rfl (det_extract rfl rfl) ?_
              dsimp only [put, List.set, ev, nth, List.nil_append, List.cons_append, md, Nat.reducePow, Nat.reduceAdd, Nat.reduceMul]
              refine WL_det rfl (det_assign) ?_
              dsimp only [put, List.set, ev, nth, List.nil_append, List.cons_append, md, Nat.reducePow, Nat.reduceAdd, Nat.reduceMul]
              refine WL_det rfl (det_assign) ?_
              dsimp only [put, List.set, ev, nth, List.nil_append, List.cons_append, md, Nat.reducePow, Nat.reduceAdd, Nat.reduceMul]
              refine WL_nil ?_
              refine WC_seq ?_
              refine WC_region ?_
              refine WL_det rfl (det_move) ?_
              dsimp only [put, List.set, ev, nth, List.nil_append, List.cons_append, md, Nat.reducePow, Nat.reduceAdd, Nat.reduceMul]
              refine WL_det rfl (det_move) ?_
              dsimp only [put, List.set, ev, nth, List.nil_append, List.cons_append, md, Nat.reducePow, Nat.reduceAdd, Nat.reduceMul]
              refine WL_chg rfl (chg_appendRd 5 rfl (hr12) rfl rfl (fun w hw => Rd.row hw 6 rfl hr53) Try.underlying35 ei5 rfl (by unfold padn; omega) (by decide)) ?_
              rintro v64 _ ⟨e64, hr64, rfl⟩
              dsimp only [put, List.eraseIdx, List.set, ev, nth, List.nil_append, List.cons_append, md, Nat.reducePow, Nat.reduceAdd, Nat.reduceMul]
              have hr64 : RowN .u8 5 (na + padn na + nb + padn nb + 8) F v64 e64 := RowN.more hr64 a4
              refine WL_det rfl (det_assign) ?_
              dsimp only [put, List.set, ev, nth, List.nil_append, List.cons_append, md, Nat.reducePow, Nat.reduceAdd, Nat.reduceMul]
              refine WL_nil ?_
              refine WC_seq ?_
              refine WC_draw [[], [], [], [1, 2], [0, 1, 2, 3], [0, 1, 2, 3, 4]] [3, 4, 5] 70 _ (.cons _ (.cons _ (.cons _ (.cons _ (.cons_cons _ (List.nil_sublist _)))))) mixed rfl (by decide) ?_
              refine RW.pure rfl rfl (fun _ => rfl) (fun V hV => det_loadWA 0 Try.underlying22 rfl i22 rfl rfl) (fun _ _ _ => rfl) ?_
              dsimp only [put, List.set, ev, nth, List.nil_append, List.cons_append, md, Nat.reducePow, Nat.reduceAdd, Nat.reduceMul]
              refine RW.pure rfl rfl (fun _ => rfl) (fun V hV => det_move) (fun _ _ _ => rfl) ?_
              dsimp only [put, List.set, ev, nth, List.nil_append, List.cons_append, md, Nat.reducePow, Nat.reduceAdd, Nat.reduceMul]
              refine RW.pure rfl rfl (fun _ => rfl) (fun V hV => det_move) (fun _ _ _ => rfl) ?_
              dsimp only [put, List.set, ev, nth, List.nil_append, List.cons_append, md, Nat.reducePow, Nat.reduceAdd, Nat.reduceMul]
              refine RW.tail' (B := fun V => _ ++ flat [] V) rfl rfl rfl rfl (fun _ => rfl) (fun V hV => chg_appendRd 5 rfl hr64 rfl rfl (fun w hw => Rd.row hw 7 rfl hr59) Try.underlying35 ei5 rfl (by unfold padn; omega) (by decide)) (fun _ _ _ _ _ h => h) (fun V hV v m' h => by obtain ⟨e9, _, rfl⟩ := h; exact .cons _ (.cons _ (.cons _ (.cons _ (.cons_cons _ (List.nil_sublist _)))))) ?_
              dsimp only [put, List.set, ev, nth, List.nil_append, List.cons_append, md, Nat.reducePow, Nat.reduceAdd, Nat.reduceMul]
              refine RW.tail' (B := fun V => (V 3).2) (R0 := fun V v m' => v = .agg (arr .u8 16 (tagB K N na fa nb fb)) ∧ m' = (V 3).2) rfl rfl rfl rfl (fun _ => rfl) (fun V hV => Chg_callE rfl Try.call45 (fun w hw => by
                obtain ⟨e9, hr9, hm9⟩ := hV 3 (by decide) _ rfl
                rw [hm9] at hw
                have hr9 := RowN.more hr9 a5
                have hc := rtag_spec (once K N) (aeN na nb) F hFlt (by unfold aeN padn; omega) _ w (Rd.row hw 5 rfl hr9)
                rw [hF] at hc
                exact hc)) (fun V V' hV v m' h => by rw [← hV 3 (by decide)]; exact h) (fun V hV v m' h => by obtain ⟨e9, _, hm9⟩ := hV 3 (by decide) _ rfl; rw [h.2, hm9]; exact .cons _ (.cons _ (.cons _ (.cons _ (.cons_cons _ (List.nil_sublist _)))))) ?_
              dsimp only [put, List.set, ev, nth, List.nil_append, List.cons_append, md, Nat.reducePow, Nat.reduceAdd, Nat.reduceMul]
              refine RW.tail' (B := fun V => (V 4).2) (R0 := fun V _ m' => m' = (V 4).2.set 2 (some b2, .cells (arr .u8 16 (tagB K N na fa nb fb)) 71 (0, 0))) rfl rfl rfl rfl (fun _ => rfl) (fun V hV => chg_storeWA 2 (f := fun _ => 0) Try.sizeOf71 rfl (by have h4 := (hV 4 (by decide) _ rfl).2; obtain ⟨e9, _, hm9⟩ := hV 3 (by decide) _ rfl; rw [h4, hm9]; rfl) (hV 4 (by decide) _ rfl).1) (fun V V' hV v m' h => by rw [← hV 4 (by decide)]; exact h) (fun V hV v m' h => by have h4 := (hV 4 (by decide) _ rfl).2; obtain ⟨e9, _, hm9⟩ := hV 3 (by decide) _ rfl; rw [h, h4, hm9]; exact .cons _ (.cons _ (.cons _ (.cons _ (.cons_cons _ (List.nil_sublist _)))))) ?_
              dsimp only [put, List.set, ev, nth, List.nil_append, List.cons_append, md, Nat.reducePow, Nat.reduceAdd, Nat.reduceMul]
              refine RW.done (fun V => (V 5).2) rfl rfl (fun _ => rfl) (fun V hV => ?_)
              obtain ⟨e9, _, hm9⟩ := hV 3 _ rfl
              have h42 := (hV 4 _ rfl).2
              have h5 : (V 5).2 = _ := hV 5 _ rfl
              rw [h5, h42, hm9]
              dsimp only [flat_nil, List.append_nil, List.set, List.append, put, ev, nth]
              refine WC_ret ?_
              refine fin_cell 2 Try.results60 rfl rfl Try.underlying71 rfl i71 (arr_size _ _ _) ([]) (List.nil_sublist _) ?_
              exact ⟨rfl, rfl⟩

end Go.Proofs.Ytpmldkhgdpchjaa

set_option linter.unusedVariables false
namespace Go.Proofs.Ytpmldkhgdpchjaa
open Go.MW
def sealF (K N na : Nat) (fa : Nat → Nat) (nt : Nat) (ft : Nat → Nat) : Nat → Nat := catV (hidb K N 1 ft) nt (tagB K N na fa nt (hidb K N 1 ft))
theorem sealF_head {K N na nt : Nat} {fa ft : Nat → Nat} {i : Nat} (h : i < nt) : hidb K N 1 ft i = sealF K N na fa nt ft i := by unfold sealF catV; rw [if_pos h]
theorem sealF_tail (K N na nt : Nat) (fa ft : Nat → Nat) (j : Nat) : tagB K N na fa nt (hidb K N 1 ft) j = sealF K N na fa nt ft (nt + j) := by
  unfold sealF catV; rw [if_neg (by omega), show nt + j - nt = j by omega]
set_option maxRecDepth 100000 in
set_option maxHeartbeats 1000000 in
theorem seal_spec (K N na nt : Nat) (fa ft : Nat → Nat) (hfa : ∀ i, i < na → fa i < 256) (hft : ∀ i, i < nt → ft i < 256) (hna : na ≤ 400000) (hnt : nt ≤ 400000) (va vb : Value) (w : World) (ha : Rd w .u8 na fa va) (hb : Rd w .u8 nt ft vb) :
    Calls Try.prog 40 [.agg (arr .u8 32 (byt K)), .agg (arr .u8 12 (byt N)), va, vb].toArray w (Post w (fun v m => ∃ v1 e, v = .tuple #[v1, vn .i64 0] ∧ RowN .u8 5 (nt + 16) (sealF K N na fa nt ft) v1 e ∧ m = [e])) := by
  have ha0 := ha
  have hb0 := hb
  obtain ⟨p1, c1, b1, o1, rfl, hp1, hx1⟩ := ha
  obtain ⟨p2, c2, b2, o2, rfl, hp2, hx2⟩ := hb
  refine calls_of_WC Try.func40 rfl ?_
  simp only [Try.ntmps40, List.length_cons, List.length_nil, Nat.reduceAdd, Nat.reduceSub, List.replicate, List.cons_append, List.nil_append]
  refine WC_seq ?_
  refine WC_region ?_
  refine WL_rel rfl (rel_box rfl rfl) ?_
  rintro _ _ ⟨b0, rfl, rfl⟩
  dsimp only [put, List.set, ev, nth, List.nil_append, List.cons_append, md, Nat.reducePow, Nat.reduceAdd, Nat.reduceMul]
  refine WL_rel rfl (rel_box rfl rfl) ?_
  rintro _ _ ⟨b1, rfl, rfl⟩
  dsimp only [put, List.set, ev, nth, List.nil_append, List.cons_append, md, Nat.reducePow, Nat.reduceAdd, Nat.reduceMul]
  refine WL_det rfl (det_assign) ?_
  dsimp only [put, List.set, ev, nth, List.nil_append, List.cons_append, md, Nat.reducePow, Nat.reduceAdd, Nat.reduceMul]
  refine WL_det rfl (det_assign) ?_
  dsimp only [put, List.set, ev, nth, List.nil_append, List.cons_append, md, Nat.reducePow, Nat.reduceAdd, Nat.reduceMul]
  refine WL_nil ?_
  refine WC_seq ?_
  refine WC_seq ?_
  refine WC_region ?_
  refine WL_det rfl (det_move) ?_
  dsimp only [put, List.set, ev, nth, List.nil_append, List.cons_append, md, Nat.reducePow, Nat.reduceAdd, Nat.reduceMul]
  refine WL_det rfl (det_len Try.underlying35 rfl) ?_
  dsimp only [put, List.set, ev, nth, List.nil_append, List.cons_append, md, Nat.reducePow, Nat.reduceAdd, Nat.reduceMul]
  refine WL_det rfl (Det.bv false (det_gtr (q := 1048560) rfl rfl) (decide_eq_false (by omega))) ?_
  dsimp only [put, List.set, ev, nth, List.nil_append, List.cons_append, md, Nat.reducePow, Nat.reduceAdd, Nat.reduceMul]
  refine WL_det rfl (det_move) ?_
  dsimp only [put, List.set, ev, nth, List.nil_append, List.cons_append, md, Nat.reducePow, Nat.reduceAdd, Nat.reduceMul]
  refine WL_detG rfl (det_move) ?_
  dsimp only [put, List.set, ev, nth, List.nil_append, List.cons_append, md, Nat.reducePow, Nat.reduceAdd, Nat.reduceMul]
  refine WL_detG rfl (det_len Try.underlying35 rfl) ?_
  dsimp only [put, List.set, ev, nth, List.nil_append, List.cons_append, md, Nat.reducePow, Nat.reduceAdd, Nat.reduceMul]
  refine WL_detG rfl (Det.bv false (det_gtr (q := 1048576) rfl rfl) (decide_eq_false (by omega))) ?_
  dsimp only [put, List.set, ev, nth, List.nil_append, List.cons_append, md, Nat.reducePow, Nat.reduceAdd, Nat.reduceMul]
  refine WL_det rfl (det_pick_false rfl) ?_
  dsimp only [put, List.set, ev, nth, List.nil_append, List.cons_append, md, Nat.reducePow, Nat.reduceAdd, Nat.reduceMul]
  refine WL_nil ?_
  refine WC_cond_false rfl ?_
  refine WC_skip ?_
  refine WC_seq ?_
  refine WC_region ?_
  refine WL_det rfl (det_loadWA 0 Try.underlying22 rfl i22 rfl rfl) ?_
  dsimp only [put, List.set, ev, nth, List.nil_append, List.cons_append, md, Nat.reducePow, Nat.reduceAdd, Nat.reduceMul]
  refine WL_det rfl (det_loadWA 1 Try.underlying23 rfl i23 rfl rfl) ?_
  dsimp only [put, List.set, ev, nth, List.nil_append, List.cons_append, md, Nat.reducePow, Nat.reduceAdd, Nat.reduceMul]
  refine WL_det rfl (det_move) ?_
  dsimp only [put, List.set, ev, nth, List.nil_append, List.cons_append, md, Nat.reducePow, Nat.reduceAdd, Nat.reduceMul]
  refine WL_rel rfl (Rel_call rfl Try.call42 (fun w hw => hide_ok K N 1 (by decide) nt ft hft (by omega) (by omega) _ w (hb0.far hw))) ?_
  rintro _ _ ⟨v25, e25, rfl, hr25, rfl⟩
  obtain ⟨ps25, cs25, rfl, hcs25⟩ := hr25.slice
  dsimp only [put, List.append_nil, List.set, ev, nth, List.nil_append, List.cons_append, md, Nat.reducePow, Nat.reduceAdd, Nat.reduceMul]
  refine WL_det rfl (det_move) ?_
  dsimp only [put, List.set, ev, nth, List.nil_append, List.cons_append, md, Nat.reducePow, Nat.reduceAdd, Nat.reduceMul]
  refine WL_det rfl (det_extract rfl rfl) ?_
  dsimp only [put, List.set, ev, nth, List.nil_append, List.cons_append, md, Nat.reducePow, Nat.reduceAdd, Nat.reduceMul]
  refine WL_det rfl (det_extract rfl rfl) ?_
  dsimp only [put, List.set, ev, nth, List.nil_append, List.cons_append, md, Nat.reducePow, Nat.reduceAdd, Nat.reduceMul]
  refine WL_det rfl (det_assign) ?_
  dsimp only [put, List.set, ev, nth, List.nil_append, List.cons_append, md, Nat.reducePow, Nat.reduceAdd, Nat.reduceMul]
  refine WL_det rfl (det_assign) ?_
  dsimp only [put, List.set, ev, nth, List.nil_append, List.cons_append, md, Nat.reducePow, Nat.reduceAdd, Nat.reduceMul]
  refine WL_nil ?_
  refine WC_seq ?_
  refine WC_seq ?_
  refine WC_region ?_
  refine WL_det rfl (det_move) ?_
  dsimp only [put, List.set, ev, nth, List.nil_append, List.cons_append, md, Nat.reducePow, Nat.reduceAdd, Nat.reduceMul]
  refine WL_det rfl (Det.bv false (det_neq (q := 0) rfl rfl) (rfl)) ?_
  dsimp only [put, List.set, ev, nth, List.nil_append, List.cons_append, md, Nat.reducePow, Nat.reduceAdd, Nat.reduceMul]
  refine WL_nil ?_
  refine WC_cond_false rfl ?_
  refine WC_skip ?_
  refine WC_seq ?_
  refine WC_region ?_
  refine WL_det rfl (det_loadWA 0 Try.underlying22 rfl i22 rfl rfl) ?_
  dsimp only [put, List.set, ev, nth, List.nil_append, List.cons_append, md, Nat.reducePow, Nat.reduceAdd, Nat.reduceMul]
  refine WL_det rfl (det_loadWA 1 Try.underlying23 rfl i23 rfl rfl) ?_
  dsimp only [put, List.set, ev, nth, List.nil_append, List.cons_append, md, Nat.reducePow, Nat.reduceAdd, Nat.reduceMul]
  refine WL_det rfl (det_move) ?_
  dsimp only [put, List.set, ev, nth, List.nil_append, List.cons_append, md, Nat.reducePow, Nat.reduceAdd, Nat.reduceMul]
  refine WL_det rfl (det_move) ?_
  dsimp only [put, List.set, ev, nth, List.nil_append, List.cons_append, md, Nat.reducePow, Nat.reduceAdd, Nat.reduceMul]
  refine WL_rel rfl (Rel_call rfl Try.call59 (fun w hw => atag_spec K N na nt fa (hidb K N 1 ft) hfa (fun i hi => hidb_lt (hft i hi)) hna hnt _ _ w (ha0.far hw) (Rd.row hw 2 rfl hr25))) ?_
  rintro _ _ ⟨rfl, rfl⟩
  dsimp only [put, List.append_nil, List.set, ev, nth, List.nil_append, List.cons_append, md, Nat.reducePow, Nat.reduceAdd, Nat.reduceMul]
  refine WL_rel rfl (rel_alloc z71 rfl) ?_
  rintro _ _ ⟨b3, rfl, rfl⟩
  dsimp only [put, List.set, ev, nth, List.nil_append, List.cons_append, md, Nat.reducePow, Nat.reduceAdd, Nat.reduceMul]
  refine WL_chg rfl (chg_storeWA 3 Try.sizeOf71 rfl rfl rfl) ?_
  rintro _ _ rfl
  dsimp only [put, List.set, ev, nth, List.nil_append, List.cons_append, md, Nat.reducePow, Nat.reduceAdd, Nat.reduceMul]
  refine WL_nil ?_
  refine WC_seq ?_
  refine WC_region ?_
  refine WL_det rfl (det_move) ?_
  dsimp only [put, List.set, ev, nth, List.nil_append, List.cons_append, md, Nat.reducePow, Nat.reduceAdd, Nat.reduceMul]
  refine WL_det rfl (det_sliceA Try.underlying71 Try.sizeOf5 rfl) ?_
  dsimp only [put, List.set, ev, nth, List.nil_append, List.cons_append, md, Nat.reducePow, Nat.reduceAdd, Nat.reduceMul]
  refine WL_chg rfl (chg_appendRd 2 rfl (hr25) rfl rfl (fun w hw => Rd.arr hw 3 rfl (Nat.le_refl _)) Try.underlying35 ei5 rfl (by omega) (by decide)) ?_
  rintro v38 _ ⟨e38, hr38, rfl⟩
  dsimp only [put, List.eraseIdx, List.set, ev, nth, List.nil_append, List.cons_append, md, Nat.reducePow, Nat.reduceAdd, Nat.reduceMul]
  refine WL_det rfl (det_assign) ?_
  dsimp only [put, List.set, ev, nth, List.nil_append, List.cons_append, md, Nat.reducePow, Nat.reduceAdd, Nat.reduceMul]
  refine WL_det rfl (det_assign) ?_
  dsimp only [put, List.set, ev, nth, List.nil_append, List.cons_append, md, Nat.reducePow, Nat.reduceAdd, Nat.reduceMul]
  refine WL_nil ?_
  refine WC_ret ?_
  refine fin_tmp2 Try.results40 rfl rfl ([e38]) (.cons _ (.cons _ (.cons_cons _ (.cons _ .slnil)))) ?_
  exact ⟨_, _, rfl, hr38, rfl⟩

set_option maxRecDepth 100000 in
set_option maxHeartbeats 1000000 in
theorem rseal_spec (K N na nt : Nat) (fa ft : Nat → Nat) (hfa : ∀ i, i < na → fa i < 256) (hft : ∀ i, i < nt → ft i < 256) (hna : na ≤ 400000) (hnt : nt ≤ 400000) (va vb : Value) (w : World) (ha : Rd w .u8 na fa va) (hb : Rd w .u8 nt ft vb) :
    Calls Try.prog 58 [.agg (arr .u8 32 (byt K)), .agg (arr .u8 12 (byt N)), va, vb].toArray w (Post w (fun v m => ∃ e, RowN .u8 5 (nt + 16) (sealF K N na fa nt ft) v e ∧ m = [e])) := by
  have ha0 := ha
  have hb0 := hb
  obtain ⟨p1, c1, b1, o1, rfl, hp1, hx1⟩ := ha
  obtain ⟨p2, c2, b2, o2, rfl, hp2, hx2⟩ := hb
  refine calls_of_WC Try.func58 rfl ?_
  simp only [Try.ntmps58, List.length_cons, List.length_nil, Nat.reduceAdd, Nat.reduceSub, List.replicate, List.cons_append, List.nil_append]
  refine WC_seq ?_
  refine WC_region ?_
  refine WL_rel rfl (rel_box rfl rfl) ?_
  rintro _ _ ⟨b0, rfl, rfl⟩
  dsimp only [put, List.set, ev, nth, List.nil_append, List.cons_append, md, Nat.reducePow, Nat.reduceAdd, Nat.reduceMul]
  refine WL_rel rfl (rel_box rfl rfl) ?_
  rintro _ _ ⟨b1, rfl, rfl⟩
  dsimp only [put, List.set, ev, nth, List.nil_append, List.cons_append, md, Nat.reducePow, Nat.reduceAdd, Nat.reduceMul]
  refine WL_det rfl (det_assign) ?_
  dsimp only [put, List.set, ev, nth, List.nil_append, List.cons_append, md, Nat.reducePow, Nat.reduceAdd, Nat.reduceMul]
  refine WL_nil ?_
  refine WC_seq ?_
  refine WC_region ?_
  refine WL_det rfl (det_loadWA 0 Try.underlying22 rfl i22 rfl rfl) ?_
  dsimp only [put, List.set, ev, nth, List.nil_append, List.cons_append, md, Nat.reducePow, Nat.reduceAdd, Nat.reduceMul]
  refine WL_det rfl (det_loadWA 1 Try.underlying23 rfl i23 rfl rfl) ?_
  dsimp only [put, List.set, ev, nth, List.nil_append, List.cons_append, md, Nat.reducePow, Nat.reduceAdd, Nat.reduceMul]
  refine WL_det rfl (det_move) ?_
  dsimp only [put, List.set, ev, nth, List.nil_append, List.cons_append, md, Nat.reducePow, Nat.reduceAdd, Nat.reduceMul]
  refine WL_rel rfl (Rel_call rfl Try.call43 (fun w hw => rhide_spec K N 1 (by decide) nt ft hft (by omega) (by omega) _ w (hb0.far hw))) ?_
  rintro v15 _ ⟨e15, hr15, rfl⟩
  dsimp only [put, List.append_nil, List.set, ev, nth, List.nil_append, List.cons_append, md, Nat.reducePow, Nat.reduceAdd, Nat.reduceMul]
  refine WL_det rfl (det_assign) ?_
  dsimp only [put, List.set, ev, nth, List.nil_append, List.cons_append, md, Nat.reducePow, Nat.reduceAdd, Nat.reduceMul]
  refine WL_nil ?_
  refine WC_seq ?_
  refine WC_region ?_
  refine WL_det rfl (det_loadWA 0 Try.underlying22 rfl i22 rfl rfl) ?_
  dsimp only [put, List.set, ev, nth, List.nil_append, List.cons_append, md, Nat.reducePow, Nat.reduceAdd, Nat.reduceMul]
  refine WL_det rfl (det_loadWA 1 Try.underlying23 rfl i23 rfl rfl) ?_
  dsimp only [put, List.set, ev, nth, List.nil_append, List.cons_append, md, Nat.reducePow, Nat.reduceAdd, Nat.reduceMul]
  refine WL_det rfl (det_move) ?_
  dsimp only [put, List.set, ev, nth, List.nil_append, List.cons_append, md, Nat.reducePow, Nat.reduceAdd, Nat.reduceMul]
  refine WL_det rfl (det_move) ?_
  dsimp only [put, List.set, ev, nth, List.nil_append, List.cons_append, md, Nat.reducePow, Nat.reduceAdd, Nat.reduceMul]
  refine WL_rel rfl (Rel_call rfl Try.call60 (fun w hw => ratag_spec K N na nt fa (hidb K N 1 ft) hfa (fun i hi => hidb_lt (hft i hi)) hna hnt _ _ w (ha0.far hw) (Rd.row hw 2 rfl hr15))) ?_
  rintro _ _ ⟨rfl, rfl⟩
  dsimp only [put, List.append_nil, List.set, ev, nth, List.nil_append, List.cons_append, md, Nat.reducePow, Nat.reduceAdd, Nat.reduceMul]
  refine WL_rel rfl (rel_alloc z71 rfl) ?_
  rintro _ _ ⟨b3, rfl, rfl⟩
  dsimp only [put, List.set, ev, nth, List.nil_append, List.cons_append, md, Nat.reducePow, Nat.reduceAdd, Nat.reduceMul]
  refine WL_chg rfl (chg_storeWA 3 Try.sizeOf71 rfl rfl rfl) ?_
  rintro _ _ rfl
  dsimp only [put, List.set, ev, nth, List.nil_append, List.cons_append, md, Nat.reducePow, Nat.reduceAdd, Nat.reduceMul]
  refine WL_nil ?_
  refine WC_seq ?_
  refine WC_seq ?_
  refine WC_region ?_
  refine WL_det rfl (det_assign) ?_
  dsimp only [put, List.set, ev, nth, List.nil_append, List.cons_append, md, Nat.reducePow, Nat.reduceAdd, Nat.reduceMul]
  refine WL_nil ?_
  refine WC_block ?_
  refine WC_loopS (ι := Nat × Value × (Option Nat × Obj)) [21, 22, 25, 26, 27, 28, 29, 30, 23, 24] (fun x => [(11, vn .i64 (x.1)), (9, x.2.1)]) (fun x => [(2, x.2.2)]) (fun x => x.1 ≤ 16 ∧ RowN .u8 5 (nt + x.1) (sealF K N na fa nt ft) x.2.1 x.2.2) (fun x => 16 - x.1) (0, v15, e15) ?_ ?_ ?_ ?_
  · rfl
  · rfl
  · exact ⟨Nat.zero_le _, RowN.congr hr15 fun i hi => sealF_head hi⟩
  · rintro ⟨i, v9, e9⟩ g ⟨hi, hr9⟩
    dsimp only [setAll, setG, setM, List.set]
    dsimp only at hi hr9
    refine WC_seq ?_
    refine WC_seq ?_
    refine WC_region ?_
    refine WL_det rfl (det_move) ?_
    dsimp only [put, List.set, ev, nth, List.nil_append, List.cons_append, md, Nat.reducePow, Nat.reduceAdd, Nat.reduceMul]
    refine WL_det rfl (det_lss (q := 16) rfl rfl) ?_
    dsimp only [put, List.set, ev, nth, List.nil_append, List.cons_append, md, Nat.reducePow, Nat.reduceAdd, Nat.reduceMul]
    refine WL_nil ?_
    refine WC_cond rfl (fun hc0 => ?_) (fun hc0 => ?_)
    · have hc0 := of_decide_eq_true hc0
      refine WC_skip ?_
      refine WC_seq ?_
      refine WC_block ?_
      refine WC_region ?_
      refine WL_det rfl (det_move) ?_
      dsimp only [put, List.set, ev, nth, List.nil_append, List.cons_append, md, Nat.reducePow, Nat.reduceAdd, Nat.reduceMul]
      refine WL_det rfl (det_move) ?_
      dsimp only [put, List.set, ev, nth, List.nil_append, List.cons_append, md, Nat.reducePow, Nat.reduceAdd, Nat.reduceMul]
      refine WL_det rfl (det_idxA Try.underlying71 Try.sizeOf5 rfl rfl (rfl) (by omega)) ?_
      dsimp only [put, List.set, ev, nth, List.nil_append, List.cons_append, md, Nat.reducePow, Nat.reduceAdd, Nat.reduceMul]
      refine WL_det rfl (det_loadA 3 Try.isAgg5 rfl rfl (by omega)) ?_
      dsimp only [put, List.set, ev, nth, List.nil_append, List.cons_append, md, Nat.reducePow, Nat.reduceAdd, Nat.reduceMul]
      refine WL_rel rfl (rel_lit1 Try.underlying35 Try.zeroValue5 Try.sizeOf5 rfl rfl) ?_
      rintro _ _ ⟨bl, rfl, rfl⟩
      dsimp only [put, List.set, ev, nth, List.nil_append, List.cons_append, md, Nat.reducePow, Nat.reduceAdd, Nat.reduceMul]
      refine WL_chg rfl (chg_append1 2 4 rfl (hr9) rfl rfl rfl rfl Try.underlying35 ei5 rfl (by omega) (by decide)) ?_
      rintro v30 _ ⟨e30, hr30, rfl⟩
      dsimp only [put, List.eraseIdx, List.set, ev, nth, List.nil_append, List.cons_append, md, Nat.reducePow, Nat.reduceAdd, Nat.reduceMul]
      have hr30 : RowN .u8 5 (nt + (i + 1)) (sealF K N na fa nt ft) v30 e30 := RowN.snoc hr30 (sealF_tail K N na nt fa ft i)
      refine WL_det rfl (det_assign) ?_
      dsimp only [put, List.set, ev, nth, List.nil_append, List.cons_append, md, Nat.reducePow, Nat.reduceAdd, Nat.reduceMul]
      refine WL_nil ?_
      refine WC_region ?_
      refine WL_det rfl (det_move) ?_
      dsimp only [put, List.set, ev, nth, List.nil_append, List.cons_append, md, Nat.reducePow, Nat.reduceAdd, Nat.reduceMul]
      refine WL_det rfl (det_addi (q := 1) rfl rfl (by omega)) ?_
      dsimp only [put, List.set, ev, nth, List.nil_append, List.cons_append, md, Nat.reducePow, Nat.reduceAdd, Nat.reduceMul]
      refine WL_det rfl (det_assign) ?_
      dsimp only [put, List.set, ev, nth, List.nil_append, List.cons_append, md, Nat.reducePow, Nat.reduceAdd, Nat.reduceMul]
      refine WL_nil ?_
      refine ⟨(i + 1, v30, e30), ?_, ?_, ?_, ?_⟩
      · rfl
      · rfl
      · exact ⟨by dsimp only; omega, hr30⟩
      · dsimp only; omega
    · have hc0 := of_decide_eq_false hc0
      obtain rfl : i = 16 := by omega
      refine WC_exit ?_
      refine inB_same ?_
      refine WC_seq ?_
      refine WC_region ?_
      refine WL_det rfl (det_move) ?_
      dsimp only [put, List.set, ev, nth, List.nil_append, List.cons_append, md, Nat.reducePow, Nat.reduceAdd, Nat.reduceMul]
      refine WL_det rfl (det_assign) ?_
      dsimp only [put, List.set, ev, nth, List.nil_append, List.cons_append, md, Nat.reducePow, Nat.reduceAdd, Nat.reduceMul]
      refine WL_nil ?_
      refine WC_ret ?_
      refine fin_tmp Try.results58 rfl ([e9]) (.cons _ (.cons _ (.cons_cons _ (.cons _ .slnil)))) ?_
      exact ⟨_, hr9, rfl⟩

set_option maxRecDepth 100000 in
set_option maxHeartbeats 400000 in
theorem eawake_spec  (w : World) :
    Calls Try.prog 31 [].toArray w (PostV w (.bool true)) := by
  refine calls_of_WC Try.func31 rfl ?_
  simp only [Try.ntmps31, List.length_nil, Nat.reduceSub, List.replicate, List.nil_append]
  refine WC_seq ?_
  refine WC_region ?_
  refine WL_det rfl (det_assign) ?_
  dsimp only [put, List.set, ev, nth, List.nil_append, List.cons_append, md, Nat.reducePow, Nat.reduceAdd, Nat.reduceMul]
  refine WL_nil ?_
  refine WC_seq ?_
  refine WC_region ?_
  refine WL_det (v := .agg (arr .u8 32 (byt 1))) rfl (fun w _ => by kernel_rfl) ?_
  dsimp only [put, List.set, ev, nth, List.nil_append, List.cons_append, md, Nat.reducePow, Nat.reduceAdd, Nat.reduceMul]
  refine WL_det (v := .agg (arr .u8 12 (byt 2))) rfl (fun w _ => by kernel_rfl) ?_
  dsimp only [put, List.set, ev, nth, List.nil_append, List.cons_append, md, Nat.reducePow, Nat.reduceAdd, Nat.reduceMul]
  refine WL_rel rfl (rel_make Try.underlying35 ei5 rfl rfl (by decide) (by decide)) ?_
  rintro _ _ ⟨b0, rfl, rfl⟩
  dsimp only [put, List.set, ev, nth, List.nil_append, List.cons_append, md, Nat.reducePow, Nat.reduceAdd, Nat.reduceMul]
  refine WL_rel rfl (Rel_call rfl Try.call40 (fun w hw => seal_spec 1 2 0 5 (fun _ => 0) (fun _ => 0) (fun _ _ => by decide) (fun _ _ => by decide) (by decide) (by decide) _ _ w (Rd.nil _ _ _) (Rd.arr hw 0 rfl (Nat.le_refl _)))) ?_
  rintro _ _ ⟨v7, e7, rfl, hr7, rfl⟩
  obtain ⟨ps7, cs7, rfl, hcs7⟩ := hr7.slice
  dsimp only [put, List.append_nil, List.set, ev, nth, List.nil_append, List.cons_append, md, Nat.reducePow, Nat.reduceAdd, Nat.reduceMul]
  refine WL_det rfl (det_move) ?_
  dsimp only [put, List.set, ev, nth, List.nil_append, List.cons_append, md, Nat.reducePow, Nat.reduceAdd, Nat.reduceMul]
  refine WL_det rfl (det_extract rfl rfl) ?_
  dsimp only [put, List.set, ev, nth, List.nil_append, List.cons_append, md, Nat.reducePow, Nat.reduceAdd, Nat.reduceMul]
  refine WL_det rfl (det_extract rfl rfl) ?_
  dsimp only [put, List.set, ev, nth, List.nil_append, List.cons_append, md, Nat.reducePow, Nat.reduceAdd, Nat.reduceMul]
  refine WL_det rfl (det_assign) ?_
  dsimp only [put, List.set, ev, nth, List.nil_append, List.cons_append, md, Nat.reducePow, Nat.reduceAdd, Nat.reduceMul]
  refine WL_det rfl (det_assign) ?_
  dsimp only [put, List.set, ev, nth, List.nil_append, List.cons_append, md, Nat.reducePow, Nat.reduceAdd, Nat.reduceMul]
  refine WL_nil ?_
  refine WC_seq ?_
  refine WC_region ?_
  refine WL_det rfl (det_move) ?_
  dsimp only [put, List.set, ev, nth, List.nil_append, List.cons_append, md, Nat.reducePow, Nat.reduceAdd, Nat.reduceMul]
  refine WL_det rfl (Det.bv true (det_eql (q := 0) rfl rfl) (rfl)) ?_
  dsimp only [put, List.set, ev, nth, List.nil_append, List.cons_append, md, Nat.reducePow, Nat.reduceAdd, Nat.reduceMul]
  refine WL_det rfl (det_move) ?_
  dsimp only [put, List.set, ev, nth, List.nil_append, List.cons_append, md, Nat.reducePow, Nat.reduceAdd, Nat.reduceMul]
  refine WL_detG rfl (det_move) ?_
  dsimp only [put, List.set, ev, nth, List.nil_append, List.cons_append, md, Nat.reducePow, Nat.reduceAdd, Nat.reduceMul]
  refine WL_detG rfl (det_len Try.underlying35 rfl) ?_
  dsimp only [put, List.set, ev, nth, List.nil_append, List.cons_append, md, Nat.reducePow, Nat.reduceAdd, Nat.reduceMul]
  refine WL_detG rfl (Det.bv true (det_eql (q := 21) rfl rfl) (rfl)) ?_
  dsimp only [put, List.set, ev, nth, List.nil_append, List.cons_append, md, Nat.reducePow, Nat.reduceAdd, Nat.reduceMul]
  refine WL_det rfl (det_pick_true rfl) ?_
  dsimp only [put, List.set, ev, nth, List.nil_append, List.cons_append, md, Nat.reducePow, Nat.reduceAdd, Nat.reduceMul]
  refine WL_det rfl (det_move) ?_
  dsimp only [put, List.set, ev, nth, List.nil_append, List.cons_append, md, Nat.reducePow, Nat.reduceAdd, Nat.reduceMul]
  refine WL_relG rfl (Rel_call rfl Try.call61 (fun w hw => asize_nat 5 (by decide) w)) ?_
  rintro _ _ ⟨rfl, rfl⟩
  dsimp only [put, List.append_nil, List.set, ev, nth, List.nil_append, List.cons_append, md, Nat.reducePow, Nat.reduceAdd, Nat.reduceMul]
  refine WL_detG rfl (Det.bv true (det_eql (q := 21) rfl rfl) (rfl)) ?_
  dsimp only [put, List.set, ev, nth, List.nil_append, List.cons_append, md, Nat.reducePow, Nat.reduceAdd, Nat.reduceMul]
  refine WL_det rfl (det_pick_true rfl) ?_
  dsimp only [put, List.set, ev, nth, List.nil_append, List.cons_append, md, Nat.reducePow, Nat.reduceAdd, Nat.reduceMul]
  refine WL_det rfl (det_assign) ?_
  dsimp only [put, List.set, ev, nth, List.nil_append, List.cons_append, md, Nat.reducePow, Nat.reduceAdd, Nat.reduceMul]
  refine WL_nil ?_
  refine WC_ret ?_
  refine fin_tmp Try.results31 rfl ([]) (List.nil_sublist _) ?_
  exact ⟨rfl, rfl⟩

end Go.Proofs.Ytpmldkhgdpchjaa
