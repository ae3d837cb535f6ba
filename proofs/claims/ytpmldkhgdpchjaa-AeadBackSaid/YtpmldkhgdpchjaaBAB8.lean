/- What the claim of this folder needs of its texts, put together by a program of this claim. Conditions: none. -/
import Derived.Test.YtpmldkhgdpchjaaBAB7
set_option linter.unusedVariables false
namespace Go.Proofs.Ytpmldkhgdpchjaa
open Go.MW
def aeN (na nb : Nat) : Nat := na + padn na + nb + padn nb + 8 + 8
/-- The bytes that the tag is of. -/
def aeF (na : Nat) (fa : Nat → Nat) (nb : Nat) (fb : Nat → Nat) (i : Nat) : Nat :=
  if i < na then fa i else if i < na + padn na then 0 else if i < na + padn na + nb then fb (i - (na + padn na)) else if i < na + padn na + nb + padn nb then 0 else if i < na + padn na + nb + padn nb + 8 then byt na (i - (na + padn na + nb + padn nb)) else byt nb (i - (na + padn na + nb + padn nb + 8))
section
variable (na nb : Nat) (fa fb : Nat → Nat)
theorem aeF0 (j : Nat) (h : j < na) : aeF na fa nb fb j = fa j := by unfold aeF; rw [if_pos h]
theorem aeF1 (j : Nat) (h : j < padn na) : aeF na fa nb fb (na + j) = 0 := by unfold aeF; rw [if_neg (by omega), if_pos (by omega)]
theorem aeF2 (j : Nat) (h : j < nb) : aeF na fa nb fb (na + padn na + j) = fb j := by
  unfold aeF; rw [if_neg (by omega), if_neg (by omega), if_pos (by omega), show na + padn na + j - (na + padn na) = j by omega]
theorem aeF3 (j : Nat) (h : j < padn nb) : aeF na fa nb fb (na + padn na + nb + j) = 0 := by
  unfold aeF; rw [if_neg (by omega), if_neg (by omega), if_neg (by omega), if_pos (by omega)]
theorem aeF4 (j : Nat) (h : j < 8) : aeF na fa nb fb (na + padn na + nb + padn nb + j) = byt na j := by
  unfold aeF; rw [if_neg (by omega), if_neg (by omega), if_neg (by omega), if_neg (by omega), if_pos (by omega), show na + padn na + nb + padn nb + j - (na + padn na + nb + padn nb) = j by omega]
theorem aeF5 (j : Nat) (h : j < 8) : aeF na fa nb fb (na + padn na + nb + padn nb + 8 + j) = byt nb j := by
  unfold aeF; rw [if_neg (by omega), if_neg (by omega), if_neg (by omega), if_neg (by omega), if_neg (by omega), show na + padn na + nb + padn nb + 8 + j - (na + padn na + nb + padn nb + 8) = j by omega]
theorem aeF_lt (hfa : ∀ i, i < na → fa i < 256) (hfb : ∀ i, i < nb → fb i < 256) (i : Nat) : aeF na fa nb fb i < 256 := by
  unfold aeF
  split
  · exact hfa _ (by assumption)
  · split
    · decide
    · split
      · exact hfb _ (by omega)
      · split
        · decide
        · split
          · exact byt_lt _ _
          · exact byt_lt _ _
end
theorem aeF_congr {na nb : Nat} {fa fa' fb fb' : Nat → Nat} (ha : ∀ i, i < na → fa i = fa' i) (hb : ∀ i, i < nb → fb i = fb' i) : aeF na fa nb fb = aeF na fa' nb fb' := by
  funext i
  unfold aeF
  by_cases h : i < na
  · rw [if_pos h, if_pos h, ha i h]
  · rw [if_neg h, if_neg h]
    by_cases h2 : i < na + padn na
    · rw [if_pos h2, if_pos h2]
    · rw [if_neg h2, if_neg h2]
      by_cases h3 : i < na + padn na + nb
      · rw [if_pos h3, if_pos h3, hb _ (by omega)]
      · rw [if_neg h3, if_neg h3]
/-- The key of one tag. -/
def once (K N : Nat) : Nat := lev (blkb K N 0) 32
theorem once_at (K N : Nat) : ∀ i, i < 32 → blkb K N 0 i = byt (once K N) i := fun i hi => (byt_lev (blkb K N 0) 32 (fun i _ => b4_lt _ i) i hi).symm
def tagB (K N na : Nat) (fa : Nat → Nat) (nb : Nat) (fb : Nat → Nat) : Nat → Nat := byt (tagZ (aeF na fa nb fb) (aeN na nb) (once K N))
theorem tagB_congr (K N : Nat) {na nb : Nat} {fa fa' fb fb' : Nat → Nat} (ha : ∀ i, i < na → fa i = fa' i) (hb : ∀ i, i < nb → fb i = fb' i) : tagB K N na fa nb fb = tagB K N na fa' nb fb' := by
  unfold tagB; rw [aeF_congr ha hb]
theorem slN {k : IntKind} {t n : Nat} {f : Nat → Nat} {v : Value} {mi : Mem} (h : ∃ e, RowN k t n f v e ∧ mi = [e]) : ∃ p c, v = .slice p n c := by
  obtain ⟨e, h, _⟩ := h
  obtain ⟨p, c, h, _⟩ := h.slice
  exact ⟨p, c, h⟩
theorem tag_six (K N na nb : Nat) (fa fb : Nat → Nat) (hfa : ∀ i, i < na → fa i < 256) (hfb : ∀ i, i < nb → fb i < 256) (hna : na ≤ 400000) (hnb : nb ≤ 400000) {v0 v1 v2 v3 v4 v5 : Value} {w0 w : World} {mm mi : Mem} {vs : Value} (hw : Has w0 mm w) (hs : mi.Sublist mm) (h : IsSl 6 #[v0, v1, v2, v3, v4, v5] 35 vs mi)
    (h0 : Rd w .u8 na fa v0) (h1 : Rd w .u8 (padn na) (fun _ => 0) v1) (h2 : Rd w .u8 nb fb v2) (h3 : Rd w .u8 (padn nb) (fun _ => 0) v3) (h4 : Rd w .u8 8 (byt na) v4) (h5 : Rd w .u8 8 (byt nb) v5) :
    Calls Try.prog 46 [.agg (arr .u8 32 (blkb K N 0)), vs].toArray w (PostV w (.agg (arr .u8 16 (tagB K N na fa nb fb)))) := by
  have e0 : offOf (fun i => if i = 0 then na else if i = 1 then padn na else if i = 2 then nb else if i = 3 then padn nb else 8) 6 = aeN na nb := by simp [offOf, aeN]
  have hh := tag_list (once K N) 6 #[v0, v1, v2, v3, v4, v5] (fun i => if i = 0 then v0 else if i = 1 then v1 else if i = 2 then v2 else if i = 3 then v3 else if i = 4 then v4 else v5) (fun i => if i = 0 then na else if i = 1 then padn na else if i = 2 then nb else if i = 3 then padn nb else 8)
    (fun i => if i = 0 then fa else if i = 1 then fun _ => 0 else if i = 2 then fb else if i = 3 then fun _ => 0 else if i = 4 then byt na else byt nb) (aeF na fa nb fb)
    (fun i hi j hj => by
      have : i = 0 ∨ i = 1 ∨ i = 2 ∨ i = 3 ∨ i = 4 ∨ i = 5 := by omega
      rcases this with rfl | rfl | rfl | rfl | rfl | rfl
      · simpa [offOf] using aeF0 na nb fa fb j (by simpa using hj)
      · simpa [offOf] using aeF1 na nb fa fb j (by simpa using hj)
      · simpa [offOf] using aeF2 na nb fa fb j (by simpa using hj)
      · simpa [offOf] using aeF3 na nb fa fb j (by simpa using hj)
      · simpa [offOf] using aeF4 na nb fa fb j (by simpa using hj)
      · simpa [offOf] using aeF5 na nb fa fb j (by simpa using hj)) (by rw [e0]; unfold aeN padn; omega) (by decide) (fun i _ => aeF_lt na nb fa fb hfa hfb i) (fun i hi => by
      have : i = 0 ∨ i = 1 ∨ i = 2 ∨ i = 3 ∨ i = 4 ∨ i = 5 := by omega
      rcases this with rfl | rfl | rfl | rfl | rfl | rfl <;> rfl) hw hs h (fun i hi => by
      have : i = 0 ∨ i = 1 ∨ i = 2 ∨ i = 3 ∨ i = 4 ∨ i = 5 := by omega
      rcases this with rfl | rfl | rfl | rfl | rfl | rfl
      · exact h0
      · exact h1
      · exact h2
      · exact h3
      · exact h4
      · exact h5)
  rw [e0] at hh
  rwa [arr_congr (once_at K N)]

set_option maxRecDepth 100000 in
set_option maxHeartbeats 1000000 in
theorem atag_spec (K N na nb : Nat) (fa fb : Nat → Nat) (hfa : ∀ i, i < na → fa i < 256) (hfb : ∀ i, i < nb → fb i < 256) (hna : na ≤ 400000) (hnb : nb ≤ 400000) (va vb : Value) (w : World) (ha : Rd w .u8 na fa va) (hb : Rd w .u8 nb fb vb) :
    Calls Try.prog 59 [.agg (arr .u8 32 (byt K)), .agg (arr .u8 12 (byt N)), va, vb].toArray w (PostV w (.agg (arr .u8 16 (tagB K N na fa nb fb)))) := by
  have ha0 := ha
  have hb0 := hb
  obtain ⟨p1, c1, b1, o1, rfl, hp1, hx1⟩ := ha
  obtain ⟨p2, c2, b2, o2, rfl, hp2, hx2⟩ := hb
  refine calls_of_WC Try.func59 rfl ?_
  simp only [Try.ntmps59, List.length_cons, List.length_nil, Nat.reduceAdd, Nat.reduceSub, List.replicate, List.cons_append, List.nil_append]
  refine WC_seq ?_
  refine WC_region ?_
  refine WL_rel rfl (rel_box rfl rfl) ?_
  rintro _ _ ⟨b0, rfl, rfl⟩
  dsimp only [put, List.set, ev, nth, List.nil_append, List.cons_append, md, Nat.reducePow, Nat.reduceAdd, Nat.reduceMul]
  refine WL_rel rfl (rel_box rfl rfl) ?_
  rintro _ _ ⟨b1, rfl, rfl⟩
  dsimp only [put, List.set, ev, nth, List.nil_append, List.cons_append, md, Nat.reducePow, Nat.reduceAdd, Nat.reduceMul]
  refine WL_rel rfl (rel_alloc z71 rfl) ?_
  rintro _ _ ⟨b2, rfl, rfl⟩
  dsimp only [put, List.set, ev, nth, List.nil_append, List.cons_append, md, Nat.reducePow, Nat.reduceAdd, Nat.reduceMul]
  refine WL_nil ?_
  refine WC_seq ?_
  refine WC_region ?_
  refine WL_det rfl (det_loadWA 0 Try.underlying22 rfl i22 rfl rfl) ?_
  dsimp only [put, List.set, ev, nth, List.nil_append, List.cons_append, md, Nat.reducePow, Nat.reduceAdd, Nat.reduceMul]
  refine WL_det rfl (det_loadWA 1 Try.underlying23 rfl i23 rfl rfl) ?_
  dsimp only [put, List.set, ev, nth, List.nil_append, List.cons_append, md, Nat.reducePow, Nat.reduceAdd, Nat.reduceMul]
  refine WL_rel rfl (Rel_call rfl Try.call18 (fun w hw => block_spec K N 0 (by decide) w)) ?_
  rintro _ _ ⟨rfl, rfl⟩
  dsimp only [put, List.append_nil, List.set, ev, nth, List.nil_append, List.cons_append, md, Nat.reducePow, Nat.reduceAdd, Nat.reduceMul]
  refine WL_rel rfl (rel_alloc z33 rfl) ?_
  rintro _ _ ⟨b3, rfl, rfl⟩
  dsimp only [put, List.set, ev, nth, List.nil_append, List.cons_append, md, Nat.reducePow, Nat.reduceAdd, Nat.reduceMul]
  refine WL_chg rfl (chg_storeWA 3 Try.sizeOf33 rfl rfl rfl) ?_
  rintro _ _ rfl
  dsimp only [put, List.set, ev, nth, List.nil_append, List.cons_append, md, Nat.reducePow, Nat.reduceAdd, Nat.reduceMul]
  refine WL_nil ?_
  refine WC_seq ?_
  refine WC_draw [[], [0], [0, 1], [], [], [4], [4, 5], [], [], [8], [4, 5, 6, 8, 9], [], [4, 5, 6, 8, 9, 10, 11], [], [4, 5, 6, 8, 9, 10, 11, 12, 13], [3, 4, 5, 6, 7, 8, 9, 10, 11, 12, 13, 14], [0, 1, 2, 3, 4, 5, 6, 7, 8, 9, 10, 11, 12, 13, 14, 15], [0, 1, 2, 3, 4, 5, 6, 7, 8, 9, 10, 11, 12, 13, 14, 15, 16]] [17] 30 [] (List.nil_sublist _) mixed rfl (by decide) ?_
  refine RW.pure rfl rfl (fun _ => rfl) (fun V hV => det_arrTo (h := 32) Try.underlying33 Try.sizeOf5 rfl rfl (by omega)) (fun _ _ _ => rfl) ?_
  dsimp only [put, List.set, ev, nth, List.nil_append, List.cons_append, md, Nat.reducePow, Nat.reduceAdd, Nat.reduceMul]
  refine RW.pure rfl rfl (fun _ => rfl) (fun V hV => det_arrayAt Try.underlying22 rfl (by omega)) (fun _ _ _ => rfl) ?_
  dsimp only [put, List.set, ev, nth, List.nil_append, List.cons_append, md, Nat.reducePow, Nat.reduceAdd, Nat.reduceMul]
  refine RW.det [] rfl rfl rfl rfl (fun _ => rfl) (fun V hV => Det.rel (det_loadPart0 3 Try.underlying22 i22 rfl rfl (by decide))) (fun _ _ _ => rfl) ?_
  dsimp only [put, List.set, ev, nth, List.nil_append, List.cons_append, md, Nat.reducePow, Nat.reduceAdd, Nat.reduceMul]
  refine RW.pure rfl rfl (fun _ => rfl) (fun V hV => det_move) (fun _ _ _ => rfl) ?_
  dsimp only [put, List.set, ev, nth, List.nil_append, List.cons_append, md, Nat.reducePow, Nat.reduceAdd, Nat.reduceMul]
  refine RW.pure rfl rfl (fun _ => rfl) (fun V hV => det_move) (fun _ _ _ => rfl) ?_
  dsimp only [put, List.set, ev, nth, List.nil_append, List.cons_append, md, Nat.reducePow, Nat.reduceAdd, Nat.reduceMul]
  refine RW.pure rfl rfl (fun _ => rfl) (fun V hV => det_len Try.underlying35 rfl) (fun _ _ _ => rfl) ?_
  dsimp only [put, List.set, ev, nth, List.nil_append, List.cons_append, md, Nat.reducePow, Nat.reduceAdd, Nat.reduceMul]
  refine RW.rel' (R0 := fun _ v m => ∃ e, RowN .u8 5 (padn na) (fun _ => 0) v e ∧ m = [e]) [] rfl rfl rfl rfl (fun _ => rfl) rfl (fun V hV => Rel_call rfl Try.call83 (fun w hw => gap_spec na w)) (fun _ _ _ _ _ h => h) ?_
  dsimp only [put, List.set, ev, nth, List.nil_append, List.cons_append, md, Nat.reducePow, Nat.reduceAdd, Nat.reduceMul]
  refine RW.pure rfl rfl (fun _ => rfl) (fun V hV => det_move) (fun _ _ _ => rfl) ?_
  dsimp only [put, List.set, ev, nth, List.nil_append, List.cons_append, md, Nat.reducePow, Nat.reduceAdd, Nat.reduceMul]
  refine RW.pure rfl rfl (fun _ => rfl) (fun V hV => det_move) (fun _ _ _ => rfl) ?_
  dsimp only [put, List.set, ev, nth, List.nil_append, List.cons_append, md, Nat.reducePow, Nat.reduceAdd, Nat.reduceMul]
  refine RW.pure rfl rfl (fun _ => rfl) (fun V hV => det_len Try.underlying35 rfl) (fun _ _ _ => rfl) ?_
  dsimp only [put, List.set, ev, nth, List.nil_append, List.cons_append, md, Nat.reducePow, Nat.reduceAdd, Nat.reduceMul]
  refine RW.rel' (R0 := fun _ v m => ∃ e, RowN .u8 5 (padn nb) (fun _ => 0) v e ∧ m = [e]) [] rfl rfl rfl rfl (fun _ => rfl) rfl (fun V hV => Rel_call rfl Try.call83 (fun w hw => gap_spec nb w)) (fun _ _ _ _ _ h => h) ?_
  dsimp only [put, List.set, ev, nth, List.nil_append, List.cons_append, md, Nat.reducePow, Nat.reduceAdd, Nat.reduceMul]
  refine RW.pure rfl rfl (fun _ => rfl) (fun V hV => det_move) (fun _ _ _ => rfl) ?_
  dsimp only [put, List.set, ev, nth, List.nil_append, List.cons_append, md, Nat.reducePow, Nat.reduceAdd, Nat.reduceMul]
  refine RW.rel' (R0 := fun _ v m => ∃ e, RowN .u8 5 (8) (byt na) v e ∧ m = [e]) [] rfl rfl rfl rfl (fun _ => rfl) rfl (fun V hV => Rel_call rfl Try.call84 (fun w hw => size_spec na c1 p1 (by omega) w)) (fun _ _ _ _ _ h => h) ?_
  dsimp only [put, List.set, ev, nth, List.nil_append, List.cons_append, md, Nat.reducePow, Nat.reduceAdd, Nat.reduceMul]
  refine RW.pure rfl rfl (fun _ => rfl) (fun V hV => det_move) (fun _ _ _ => rfl) ?_
  dsimp only [put, List.set, ev, nth, List.nil_append, List.cons_append, md, Nat.reducePow, Nat.reduceAdd, Nat.reduceMul]
  refine RW.rel' (R0 := fun _ v m => ∃ e, RowN .u8 5 (8) (byt nb) v e ∧ m = [e]) [] rfl rfl rfl rfl (fun _ => rfl) rfl (fun V hV => Rel_call rfl Try.call84 (fun w hw => size_spec nb c2 p2 (by omega) w)) (fun _ _ _ _ _ h => h) ?_
  dsimp only [put, List.set, ev, nth, List.nil_append, List.cons_append, md, Nat.reducePow, Nat.reduceAdd, Nat.reduceMul]
  refine RW.rel' [] rfl rfl rfl rfl (fun _ => rfl) rfl (fun V hV => rel_lit (c := #[.slice p1 na c1, (V 6).1, .slice p2 nb c2, (V 10).1, (V 12).1, (V 14).1]) Try.underlying110 Try.zeroValue35 Try.sizeOf35 (by decide) (by decide) (by obtain ⟨q6, k6, h6⟩ := slN (hV 6 (by decide) _ rfl); obtain ⟨q10, k10, h10⟩ := slN (hV 10 (by decide) _ rfl); obtain ⟨q12, k12, h12⟩ := slN (hV 12 (by decide) _ rfl); obtain ⟨q14, k14, h14⟩ := slN (hV 14 (by decide) _ rfl); rw [h6, h10, h12, h14]; kernel_rfl)) (fun V V' hV v m h => by simpa only [hV 6 (by decide), hV 10 (by decide), hV 12 (by decide), hV 14 (by decide)] using h) ?_
  dsimp only [put, List.set, ev, nth, List.nil_append, List.cons_append, md, Nat.reducePow, Nat.reduceAdd, Nat.reduceMul]
  refine RW.det [6, 10, 12, 14, 15] rfl rfl rfl rfl (fun _ => rfl) (fun V hV => Rel_call rfl Try.call46 (fun w hw => tag_six K N na nb fa fb hfa hfb hna hnb hw (flat_mem (j := 15) (by decide)) (hV 15 (by decide) _ rfl) (ha0.far hw) (Rd.rowNew hw (flat_mem (j := 6) (by decide)) (hV 6 (by decide) _ rfl)) (hb0.far hw) (Rd.rowNew hw (flat_mem (j := 10) (by decide)) (hV 10 (by decide) _ rfl)) (Rd.rowNew hw (flat_mem (j := 12) (by decide)) (hV 12 (by decide) _ rfl)) (Rd.rowNew hw (flat_mem (j := 14) (by decide)) (hV 14 (by decide) _ rfl)))) (fun _ _ _ => rfl) ?_
  dsimp only [put, List.set, ev, nth, List.nil_append, List.cons_append, md, Nat.reducePow, Nat.reduceAdd, Nat.reduceMul]
  refine RW.tail' (B := fun V => _ ++ flat [6, 10, 12, 14, 15] V) rfl rfl rfl rfl (fun _ => rfl) (fun V hV => chg_storeWA 2 Try.sizeOf71 rfl rfl rfl) (fun V V' hV _ _ h => by simpa only [flat_cons, flat_nil, hV 6 (by decide), hV 10 (by decide), hV 12 (by decide), hV 14 (by decide), hV 15 (by decide)] using h) (fun _ _ _ _ _ => List.nil_sublist _) ?_
  dsimp only [put, List.set, ev, nth, List.nil_append, List.cons_append, md, Nat.reducePow, Nat.reduceAdd, Nat.reduceMul]
  refine RW.done (fun V => (V 17).2) rfl rfl (fun _ => rfl) (fun V hV => ?_)
  obtain ⟨bl15, hp15, hq15⟩ : IsSl _ _ _ (V 15).1 (V 15).2 := hV 15 _ rfl
  obtain ⟨e6, hr6, hq6⟩ : ∃ e, RowN .u8 5 (padn na) (fun _ => 0) (V 6).1 e ∧ (V 6).2 = [e] := hV 6 _ rfl
  obtain ⟨v6, hv6⟩ : ∃ v, v = (V 6).1 := ⟨_, rfl⟩
  rw [← hv6] at hr6
  obtain ⟨e10, hr10, hq10⟩ : ∃ e, RowN .u8 5 (padn nb) (fun _ => 0) (V 10).1 e ∧ (V 10).2 = [e] := hV 10 _ rfl
  obtain ⟨v10, hv10⟩ : ∃ v, v = (V 10).1 := ⟨_, rfl⟩
  rw [← hv10] at hr10
  obtain ⟨e12, hr12, hq12⟩ : ∃ e, RowN .u8 5 (8) (byt na) (V 12).1 e ∧ (V 12).2 = [e] := hV 12 _ rfl
  obtain ⟨v12, hv12⟩ : ∃ v, v = (V 12).1 := ⟨_, rfl⟩
  rw [← hv12] at hr12
  obtain ⟨e14, hr14, hq14⟩ : ∃ e, RowN .u8 5 (8) (byt nb) (V 14).1 e ∧ (V 14).2 = [e] := hV 14 _ rfl
  obtain ⟨v14, hv14⟩ : ∃ v, v = (V 14).1 := ⟨_, rfl⟩
  rw [← hv14] at hr14
  have ht17 : (V 17).2 = _ := hV 17 _ rfl
  simp only [hp15, hq15, hq6, ← hv6, hq10, ← hv10, hq12, ← hv12, hq14, ← hv14, ht17, flat_cons, flat_nil]
  try dsimp only [put, blk, flat_nil, List.append_nil, List.append, List.eraseIdx, List.set, ev, nth, List.nil_append, List.cons_append, md, Nat.reducePow, Nat.reduceAdd, Nat.reduceMul]
  clear hV ht17
  refine WC_ret ?_
  refine fin_cell 2 Try.results59 rfl rfl Try.underlying71 rfl i71 (arr_size _ _ _) ([]) (List.nil_sublist _) ?_
  exact ⟨rfl, rfl⟩

end Go.Proofs.Ytpmldkhgdpchjaa

set_option linter.unusedVariables false
namespace Go.Proofs.Ytpmldkhgdpchjaa
open Go.MW
def sealF (K N na : Nat) (fa : Nat → Nat) (nt : Nat) (ft : Nat → Nat) : Nat → Nat := catV (hidb K N 1 ft) nt (tagB K N na fa nt (hidb K N 1 ft))
def okB (K N na : Nat) (fa : Nat → Nat) (ns : Nat) (fs : Nat → Nat) : Bool := sameB 16 (tagB K N na fa (ns - 16) fs) (ns - (ns - 16)) (fun i => fs (ns - 16 + i))
theorem sealF_lt {K N na nt : Nat} {fa ft : Nat → Nat} (hft : ∀ i, i < nt → ft i < 256) (i : Nat) : sealF K N na fa nt ft i < 256 := by
  unfold sealF catV
  split
  · exact hidb_lt (hft _ (by assumption))
  · exact byt_lt _ _
theorem equal_is (b : Bool) (n n2 : Nat) (f g : Nat → Nat) (h : sameB n f n2 g = b) (hf : ∀ i, i < n → f i < 256) (hg : ∀ i, i < n2 → g i < 256) (va vb : Value) (w : World) (ha : Rd w .u8 n f va) (hb : Rd w .u8 n2 g vb) (hn : n ≤ maxLen) : Calls Try.prog 41 [va, vb].toArray w (PostV w (.bool b)) :=
  h ▸ equal_spec n n2 f g hf hg va vb w ha hb hn
theorem ok_of_all {K N na ns : Nat} {fa fs : Nat → Nat} (h : 16 ≤ ns) (ha : ∀ j, j < 16 → tagB K N na fa (ns - 16) fs j = fs (ns - 16 + j)) : okB K N na fa ns fs = true := by
  unfold okB; exact sameB_iff.2 ⟨by omega, ha⟩
theorem okB_seal (K N na nt : Nat) (fa ft : Nat → Nat) : okB K N na fa (nt + 16) (sealF K N na fa nt ft) = true := by
  refine ok_of_all (by omega) fun j hj => ?_
  rw [Nat.add_sub_cancel]
  unfold sealF
  rw [tagB_congr K N (fa' := fa) (fb := catV _ _ _) (fb' := hidb K N 1 ft) (fun _ _ => rfl) (fun i hi => by unfold catV; rw [if_pos hi])]
  unfold catV
  rw [if_neg (by omega), show nt + j - nt = j by omega]
theorem open_seal (K N na nt : Nat) (fa ft : Nat → Nat) : ∀ i, i < nt → hidb K N 1 (sealF K N na fa nt ft) i = ft i := by
  intro i hi
  have h : sealF K N na fa nt ft i = hidb K N 1 ft i := by unfold sealF catV; rw [if_pos hi]
  rw [← hidb_back K N 1 ft i]
  unfold hidb at h ⊢
  rw [h]
theorem seal_open (K N na ns : Nat) (fa fs : Nat → Nat) (h16 : 16 ≤ ns) (ho : okB K N na fa ns fs = true) : ∀ i, i < ns → sealF K N na fa (ns - 16) (hidb K N 1 fs) i = fs i := by
  intro i hi
  unfold sealF catV
  split
  · exact hidb_back K N 1 fs i
  · have h := (sameB_iff.1 ho).2 (i - (ns - 16)) (by omega)
    rw [show ns - 16 + (i - (ns - 16)) = i by omega] at h
    rw [← h]
    rw [tagB_congr K N (fun _ _ => rfl) (fun j _ => hidb_back K N 1 fs j)]

set_option maxRecDepth 100000 in
set_option maxHeartbeats 1000000 in
theorem seal_spec (K N na nt : Nat) (fa ft : Nat → Nat) (hfa : ∀ i, i < na → fa i < 256) (hft : ∀ i, i < nt → ft i < 256) (hna : na ≤ 400000) (hnt : nt ≤ 400000) (va vb : Value) (w : World) (ha : Rd w .u8 na fa va) (hb : Rd w .u8 nt ft vb) :
    Calls Try.prog 40 [.agg (arr .u8 32 (byt K)), .agg (arr .u8 12 (byt N)), va, vb].toArray w (Post w (fun v m => ∃ v1 e, v = .tuple #[v1, vn .i64 0] ∧ RowN .u8 5 (nt + 16) (sealF K N na fa nt ft) v1 e ∧ m = [e])) := by
  have ha0 := ha
  have hb0 := hb
  obtain ⟨p1, c1, b1, o1, rfl, hp1, hx1⟩ := ha
  obtain ⟨p2, c2, b2, o2, rfl, hp2, hx2⟩ := hb
  refine calls_of_WC Try.func40 rfl ?_
  simp only [Try.ntmps40, List.length_cons, List.length_nil, Nat.reduceAdd, Nat.reduceSub, List.replicate, List.cons_append, List.nil_append]
  refine WC_seq ?_
  refine WC_region ?_
  refine WL_rel rfl (rel_box rfl rfl) ?_
  rintro _ _ ⟨b0, rfl, rfl⟩
  dsimp only [put, List.set, ev, nth, List.nil_append, List.cons_append, md, Nat.reducePow, Nat.reduceAdd, Nat.reduceMul]
  refine WL_rel rfl (rel_box rfl rfl) ?_
  rintro _ _ ⟨b1, rfl, rfl⟩
  dsimp only [put, List.set, ev, nth, List.nil_append, List.cons_append, md, Nat.reducePow, Nat.reduceAdd, Nat.reduceMul]
  refine WL_det rfl (det_assign) ?_
  dsimp only [put, List.set, ev, nth, List.nil_append, List.cons_append, md, Nat.reducePow, Nat.reduceAdd, Nat.reduceMul]
  refine WL_det rfl (det_assign) ?_
  dsimp only [put, List.set, ev, nth, List.nil_append, List.cons_append, md, Nat.reducePow, Nat.reduceAdd, Nat.reduceMul]
  refine WL_nil ?_
  refine WC_seq ?_
  refine WC_seq ?_
  refine WC_region ?_
  refine WL_det rfl (det_move) ?_
  dsimp only [put, List.set, ev, nth, List.nil_append, List.cons_append, md, Nat.reducePow, Nat.reduceAdd, Nat.reduceMul]
  refine WL_det rfl (det_len Try.underlying35 rfl) ?_
  dsimp only [put, List.set, ev, nth, List.nil_append, List.cons_append, md, Nat.reducePow, Nat.reduceAdd, Nat.reduceMul]
  refine WL_det rfl (Det.bv false (det_gtr (q := 1048560) rfl rfl) (decide_eq_false (by omega))) ?_
  dsimp only [put, List.set, ev, nth, List.nil_append, List.cons_append, md, Nat.reducePow, Nat.reduceAdd, Nat.reduceMul]
  refine WL_det rfl (det_move) ?_
  dsimp only [put, List.set, ev, nth, List.nil_append, List.cons_append, md, Nat.reducePow, Nat.reduceAdd, Nat.reduceMul]
  refine WL_detG rfl (det_move) ?_
  dsimp only [put, List.set, ev, nth, List.nil_append, List.cons_append, md, Nat.reducePow, Nat.reduceAdd, Nat.reduceMul]
  refine WL_detG rfl (det_len Try.underlying35 rfl) ?_
  dsimp only [put, List.set, ev, nth, List.nil_append, List.cons_append, md, Nat.reducePow, Nat.reduceAdd, Nat.reduceMul]
  refine WL_detG rfl (Det.bv false (det_gtr (q := 1048576) rfl rfl) (decide_eq_false (by omega))) ?_
  dsimp only [put, List.set, ev, nth, List.nil_append, List.cons_append, md, Nat.reducePow, Nat.reduceAdd, Nat.reduceMul]
  refine WL_det rfl (det_pick_false rfl) ?_
  dsimp only [put, List.set, ev, nth, List.nil_append, List.cons_append, md, Nat.reducePow, Nat.reduceAdd, Nat.reduceMul]
  refine WL_nil ?_
  refine WC_cond_false rfl ?_
  refine WC_skip ?_
  refine WC_seq ?_
  refine WC_region ?_
  refine WL_det rfl (det_loadWA 0 Try.underlying22 rfl i22 rfl rfl) ?_
  dsimp only [put, List.set, ev, nth, List.nil_append, List.cons_append, md, Nat.reducePow, Nat.reduceAdd, Nat.reduceMul]
  refine WL_det rfl (det_loadWA 1 Try.underlying23 rfl i23 rfl rfl) ?_
  dsimp only [put, List.set, ev, nth, List.nil_append, List.cons_append, md, Nat.reducePow, Nat.reduceAdd, Nat.reduceMul]
  refine WL_det rfl (det_move) ?_
  dsimp only [put, List.set, ev, nth, List.nil_append, List.cons_append, md, Nat.reducePow, Nat.reduceAdd, Nat.reduceMul]
  refine WL_rel rfl (Rel_call rfl Try.call42 (fun w hw => hide_ok K N 1 (by decide) nt ft hft (by omega) (by omega) _ w (hb0.far hw))) ?_
  rintro _ _ ⟨v25, e25, rfl, hr25, rfl⟩
  obtain ⟨ps25, cs25, rfl, hcs25⟩ := hr25.slice
  dsimp only [put, List.append_nil, List.set, ev, nth, List.nil_append, List.cons_append, md, Nat.reducePow, Nat.reduceAdd, Nat.reduceMul]
  refine WL_det rfl (det_move) ?_
  dsimp only [put, List.set, ev, nth, List.nil_append, List.cons_append, md, Nat.reducePow, Nat.reduceAdd, Nat.reduceMul]
  refine WL_det rfl (det_extract rfl rfl) ?_
  dsimp only [put, List.set, ev, nth, List.nil_append, List.cons_append, md, Nat.reducePow, Nat.reduceAdd, Nat.reduceMul]
  refine WL_det rfl (det_extract rfl rfl) ?_
  dsimp only [put, List.set, ev, nth, List.nil_append, List.cons_append, md, Nat.reducePow, Nat.reduceAdd, Nat.reduceMul]
  refine WL_det rfl (det_assign) ?_
  dsimp only [put, List.set, ev, nth, List.nil_append, List.cons_append, md, Nat.reducePow, Nat.reduceAdd, Nat.reduceMul]
  refine WL_det rfl (det_assign) ?_
  dsimp only [put, List.set, ev, nth, List.nil_append, List.cons_append, md, Nat.reducePow, Nat.reduceAdd, Nat.reduceMul]
  refine WL_nil ?_
  refine WC_seq ?_
  refine WC_seq ?_
  refine WC_region ?_
  refine WL_det rfl (det_move) ?_
  dsimp only [put, List.set, ev, nth, List.nil_append, List.cons_append, md, Nat.reducePow, Nat.reduceAdd, Nat.reduceMul]
  refine WL_det rfl (Det.bv false (det_neq (q := 0) rfl rfl) (rfl)) ?_
  dsimp only [put, List.set, ev, nth, List.nil_append, List.cons_append, md, Nat.reducePow, Nat.reduceAdd, Nat.reduceMul]
  refine WL_nil ?_
  refine WC_cond_false rfl ?_
  refine WC_skip ?_
  refine WC_seq ?_
  refine WC_region ?_
  refine WL_det rfl (det_loadWA 0 Try.underlying22 rfl i22 rfl rfl) ?_
  dsimp only [put, List.set, ev, nth, List.nil_append, List.cons_append, md, Nat.reducePow, Nat.reduceAdd, Nat.reduceMul]
  refine WL_det rfl (det_loadWA 1 Try.underlying23 rfl i23 rfl rfl) ?_
  dsimp only [put, List.set, ev, nth, List.nil_append, List.cons_append, md, Nat.reducePow, Nat.reduceAdd, Nat.reduceMul]
  refine WL_det rfl (det_move) ?_
  dsimp only [put, List.set, ev, nth, List.nil_append, List.cons_append, md, Nat.reducePow, Nat.reduceAdd, Nat.reduceMul]
  refine WL_det rfl (det_move) ?_
  dsimp only [put, List.set, ev, nth, List.nil_append, List.cons_append, md, Nat.reducePow, Nat.reduceAdd, Nat.reduceMul]
  refine WL_rel rfl (Rel_call rfl Try.call59 (fun w hw => atag_spec K N na nt fa (hidb K N 1 ft) hfa (fun i hi => hidb_lt (hft i hi)) hna hnt _ _ w (ha0.far hw) (Rd.row hw 2 rfl hr25))) ?_
  rintro _ _ ⟨rfl, rfl⟩
  dsimp only [put, List.append_nil, List.set, ev, nth, List.nil_append, List.cons_append, md, Nat.reducePow, Nat.reduceAdd, Nat.reduceMul]
  refine WL_rel rfl (rel_alloc z71 rfl) ?_
  rintro _ _ ⟨b3, rfl, rfl⟩
  dsimp only [put, List.set, ev, nth, List.nil_append, List.cons_append, md, Nat.reducePow, Nat.reduceAdd, Nat.reduceMul]
  refine WL_chg rfl (chg_storeWA 3 Try.sizeOf71 rfl rfl rfl) ?_
  rintro _ _ rfl
  dsimp only [put, List.set, ev, nth, List.nil_append, List.cons_append, md, Nat.reducePow, Nat.reduceAdd, Nat.reduceMul]
  refine WL_nil ?_
  refine WC_seq ?_
  refine WC_region ?_
  refine WL_det rfl (det_move) ?_
  dsimp only [put, List.set, ev, nth, List.nil_append, List.cons_append, md, Nat.reducePow, Nat.reduceAdd, Nat.reduceMul]
  refine WL_det rfl (det_sliceA Try.underlying71 Try.sizeOf5 rfl) ?_
  dsimp only [put, List.set, ev, nth, List.nil_append, List.cons_append, md, Nat.reducePow, Nat.reduceAdd, Nat.reduceMul]
  refine WL_chg rfl (chg_appendRd 2 rfl (hr25) rfl rfl (fun w hw => Rd.arr hw 3 rfl (Nat.le_refl _)) Try.underlying35 ei5 rfl (by omega) (by decide)) ?_
  rintro v38 _ ⟨e38, hr38, rfl⟩
  dsimp only [put, List.eraseIdx, List.set, ev, nth, List.nil_append, List.cons_append, md, Nat.reducePow, Nat.reduceAdd, Nat.reduceMul]
  refine WL_det rfl (det_assign) ?_
  dsimp only [put, List.set, ev, nth, List.nil_append, List.cons_append, md, Nat.reducePow, Nat.reduceAdd, Nat.reduceMul]
  refine WL_det rfl (det_assign) ?_
  dsimp only [put, List.set, ev, nth, List.nil_append, List.cons_append, md, Nat.reducePow, Nat.reduceAdd, Nat.reduceMul]
  refine WL_nil ?_
  refine WC_ret ?_
  refine fin_tmp2 Try.results40 rfl rfl ([e38]) (.cons _ (.cons _ (.cons_cons _ (.cons _ .slnil)))) ?_
  exact ⟨_, _, rfl, hr38, rfl⟩

set_option maxRecDepth 100000 in
set_option maxHeartbeats 1000000 in
theorem open_spec (K N na ns c2 : Nat) (fa fs : Nat → Nat) (hfa : ∀ i, i < na → fa i < 256) (hfs : ∀ i, i < ns → fs i < 256) (hna : na ≤ 400000) (hns : ns ≤ 400000) (va : Value) (p2 : Option Addr) (hcap : ns ≤ c2) (w : World) (ha : Rd w .u8 na fa va) (hb : Rd w .u8 ns fs (.slice p2 ns c2)) :
    Calls Try.prog 32 [.agg (arr .u8 32 (byt K)), .agg (arr .u8 12 (byt N)), va, .slice p2 ns c2].toArray w (Post w (fun v m => (ns < 16 ∧ v = .tuple #[.slice none 0 0, vn .i64 10] ∧ m = []) ∨ (16 ≤ ns ∧ okB K N na fa ns fs = false ∧ v = .tuple #[.slice none 0 0, vn .i64 20] ∧ m = []) ∨ (16 ≤ ns ∧ okB K N na fa ns fs = true ∧ ∃ v1 e, v = .tuple #[v1, vn .i64 0] ∧ RowN .u8 5 (ns - 16) (hidb K N 1 fs) v1 e ∧ m = [e]))) := by
  have ha0 := ha
  have hb0 := hb
  obtain ⟨p1, c1, b1, o1, rfl, hp1, hx1⟩ := ha
  obtain ⟨p2x, c2x, b2x, o2, he2, hp2, hx2⟩ := hb
  simp only [Value.slice.injEq, true_and] at he2
  obtain ⟨rfl, rfl⟩ := he2
  refine calls_of_WC Try.func32 rfl ?_
  simp only [Try.ntmps32, List.length_cons, List.length_nil, Nat.reduceAdd, Nat.reduceSub, List.replicate, List.cons_append, List.nil_append]
  refine WC_seq ?_
  refine WC_region ?_
  refine WL_rel rfl (rel_box rfl rfl) ?_
  rintro _ _ ⟨b0, rfl, rfl⟩
  dsimp only [put, List.set, ev, nth, List.nil_append, List.cons_append, md, Nat.reducePow, Nat.reduceAdd, Nat.reduceMul]
  refine WL_rel rfl (rel_box rfl rfl) ?_
  rintro _ _ ⟨b1, rfl, rfl⟩
  dsimp only [put, List.set, ev, nth, List.nil_append, List.cons_append, md, Nat.reducePow, Nat.reduceAdd, Nat.reduceMul]
  refine WL_det rfl (det_assign) ?_
  dsimp only [put, List.set, ev, nth, List.nil_append, List.cons_append, md, Nat.reducePow, Nat.reduceAdd, Nat.reduceMul]
  refine WL_det rfl (det_assign) ?_
  dsimp only [put, List.set, ev, nth, List.nil_append, List.cons_append, md, Nat.reducePow, Nat.reduceAdd, Nat.reduceMul]
  refine WL_nil ?_
  refine WC_seq ?_
  by_cases h16 : ns < 16
  · refine WC_region ?_
    refine WL_det rfl (det_move) ?_
    dsimp only [put, List.set, ev, nth, List.nil_append, List.cons_append, md, Nat.reducePow, Nat.reduceAdd, Nat.reduceMul]
    refine WL_det rfl (det_len Try.underlying35 rfl) ?_
    dsimp only [put, List.set, ev, nth, List.nil_append, List.cons_append, md, Nat.reducePow, Nat.reduceAdd, Nat.reduceMul]
    refine WL_det rfl (det_subz rfl rfl rfl (by omega) (by omega)) ?_
    dsimp only [put, List.set, ev, nth, List.nil_append, List.cons_append, md, Nat.reducePow, Nat.reduceAdd, Nat.reduceMul]
    refine WL_det rfl (det_assign) ?_
    dsimp only [put, List.set, ev, nth, List.nil_append, List.cons_append, md, Nat.reducePow, Nat.reduceAdd, Nat.reduceMul]
    refine WL_nil ?_
    refine WC_seq ?_
    refine WC_block ?_
    refine WC_seq ?_
    refine WC_region ?_
    refine WL_det rfl (det_move) ?_
    dsimp only [put, List.set, ev, nth, List.nil_append, List.cons_append, md, Nat.reducePow, Nat.reduceAdd, Nat.reduceMul]
    refine WL_det rfl (det_len Try.underlying35 rfl) ?_
    dsimp only [put, List.set, ev, nth, List.nil_append, List.cons_append, md, Nat.reducePow, Nat.reduceAdd, Nat.reduceMul]
    refine WL_det rfl (Det.bv false (det_gtr (q := 1048576) rfl rfl) (decide_eq_false (by omega))) ?_
    dsimp only [put, List.set, ev, nth, List.nil_append, List.cons_append, md, Nat.reducePow, Nat.reduceAdd, Nat.reduceMul]
    refine WL_det rfl (det_move) ?_
    dsimp only [put, List.set, ev, nth, List.nil_append, List.cons_append, md, Nat.reducePow, Nat.reduceAdd, Nat.reduceMul]
    refine WL_detG rfl (det_move) ?_
    dsimp only [put, List.set, ev, nth, List.nil_append, List.cons_append, md, Nat.reducePow, Nat.reduceAdd, Nat.reduceMul]
    refine WL_detG rfl (det_len Try.underlying35 rfl) ?_
    dsimp only [put, List.set, ev, nth, List.nil_append, List.cons_append, md, Nat.reducePow, Nat.reduceAdd, Nat.reduceMul]
    refine WL_detG rfl (Det.bv false (det_gtr (q := 1048576) rfl rfl) (decide_eq_false (by omega))) ?_
    dsimp only [put, List.set, ev, nth, List.nil_append, List.cons_append, md, Nat.reducePow, Nat.reduceAdd, Nat.reduceMul]
    refine WL_det rfl (det_pick_false rfl) ?_
    dsimp only [put, List.set, ev, nth, List.nil_append, List.cons_append, md, Nat.reducePow, Nat.reduceAdd, Nat.reduceMul]
    refine WL_det rfl (det_assign) ?_
    dsimp only [put, List.set, ev, nth, List.nil_append, List.cons_append, md, Nat.reducePow, Nat.reduceAdd, Nat.reduceMul]
    refine WL_nil ?_
    refine WC_cond_false rfl ?_
    refine WC_seq ?_
    refine WC_region ?_
    refine WL_det rfl (det_move) ?_
    dsimp only [put, List.set, ev, nth, List.nil_append, List.cons_append, md, Nat.reducePow, Nat.reduceAdd, Nat.reduceMul]
    refine WL_det rfl (Det.bv true (det_lssz rfl rfl) (decide_eq_true (by omega))) ?_
    dsimp only [put, List.set, ev, nth, List.nil_append, List.cons_append, md, Nat.reducePow, Nat.reduceAdd, Nat.reduceMul]
    refine WL_det rfl (det_assign) ?_
    dsimp only [put, List.set, ev, nth, List.nil_append, List.cons_append, md, Nat.reducePow, Nat.reduceAdd, Nat.reduceMul]
    refine WL_nil ?_
    refine WC_cond_true rfl ?_
    refine WC_seq ?_
    refine WC_region ?_
    refine WL_det rfl (det_assign) ?_
    dsimp only [put, List.set, ev, nth, List.nil_append, List.cons_append, md, Nat.reducePow, Nat.reduceAdd, Nat.reduceMul]
    refine WL_det rfl (det_assign) ?_
    dsimp only [put, List.set, ev, nth, List.nil_append, List.cons_append, md, Nat.reducePow, Nat.reduceAdd, Nat.reduceMul]
    refine WL_nil ?_
    refine WC_ret ?_
    refine inB_ret ?_
    refine fin_tmp2 Try.results32 rfl rfl ([]) (List.nil_sublist _) ?_
    exact .inl ⟨h16, rfl, rfl⟩
  · refine WC_region ?_
    refine WL_det rfl (det_move) ?_
    dsimp only [put, List.set, ev, nth, List.nil_append, List.cons_append, md, Nat.reducePow, Nat.reduceAdd, Nat.reduceMul]
    refine WL_det rfl (det_len Try.underlying35 rfl) ?_
    dsimp only [put, List.set, ev, nth, List.nil_append, List.cons_append, md, Nat.reducePow, Nat.reduceAdd, Nat.reduceMul]
    refine WL_det rfl (det_subi (q := 16) rfl rfl (by omega) (by omega)) ?_
    dsimp only [put, List.set, ev, nth, List.nil_append, List.cons_append, md, Nat.reducePow, Nat.reduceAdd, Nat.reduceMul]
    refine WL_det rfl (det_assign) ?_
    dsimp only [put, List.set, ev, nth, List.nil_append, List.cons_append, md, Nat.reducePow, Nat.reduceAdd, Nat.reduceMul]
    refine WL_nil ?_
    refine WC_seq ?_
    refine WC_block ?_
    refine WC_seq ?_
    refine WC_region ?_
    refine WL_det rfl (det_move) ?_
    dsimp only [put, List.set, ev, nth, List.nil_append, List.cons_append, md, Nat.reducePow, Nat.reduceAdd, Nat.reduceMul]
    refine WL_det rfl (det_len Try.underlying35 rfl) ?_
    dsimp only [put, List.set, ev, nth, List.nil_append, List.cons_append, md, Nat.reducePow, Nat.reduceAdd, Nat.reduceMul]
    refine WL_det rfl (Det.bv false (det_gtr (q := 1048576) rfl rfl) (decide_eq_false (by omega))) ?_
    dsimp only [put, List.set, ev, nth, List.nil_append, List.cons_append, md, Nat.reducePow, Nat.reduceAdd, Nat.reduceMul]
    refine WL_det rfl (det_move) ?_
    dsimp only [put, List.set, ev, nth, List.nil_append, List.cons_append, md, Nat.reducePow, Nat.reduceAdd, Nat.reduceMul]
    refine WL_detG rfl (det_move) ?_
    dsimp only [put, List.set, ev, nth, List.nil_append, List.cons_append, md, Nat.reducePow, Nat.reduceAdd, Nat.reduceMul]
    refine WL_detG rfl (det_len Try.underlying35 rfl) ?_
    dsimp only [put, List.set, ev, nth, List.nil_append, List.cons_append, md, Nat.reducePow, Nat.reduceAdd, Nat.reduceMul]
    refine WL_detG rfl (Det.bv false (det_gtr (q := 1048576) rfl rfl) (decide_eq_false (by omega))) ?_
    dsimp only [put, List.set, ev, nth, List.nil_append, List.cons_append, md, Nat.reducePow, Nat.reduceAdd, Nat.reduceMul]
    refine WL_det rfl (det_pick_false rfl) ?_
    dsimp only [put, List.set, ev, nth, List.nil_append, List.cons_append, md, Nat.reducePow, Nat.reduceAdd, Nat.reduceMul]
    refine WL_det rfl (det_assign) ?_
    dsimp only [put, List.set, ev, nth, List.nil_append, List.cons_append, md, Nat.reducePow, Nat.reduceAdd, Nat.reduceMul]
    refine WL_nil ?_
    refine WC_cond_false rfl ?_
    refine WC_seq ?_
    refine WC_region ?_
    refine WL_det rfl (det_move) ?_
    dsimp only [put, List.set, ev, nth, List.nil_append, List.cons_append, md, Nat.reducePow, Nat.reduceAdd, Nat.reduceMul]
    refine WL_det rfl (Det.bv false (det_lss (q := 0) rfl rfl) (by simp)) ?_
    dsimp only [put, List.set, ev, nth, List.nil_append, List.cons_append, md, Nat.reducePow, Nat.reduceAdd, Nat.reduceMul]
    refine WL_det rfl (det_assign) ?_
    dsimp only [put, List.set, ev, nth, List.nil_append, List.cons_append, md, Nat.reducePow, Nat.reduceAdd, Nat.reduceMul]
    refine WL_nil ?_
    refine WC_cond_false rfl ?_
    refine WC_skip ?_
    refine WC_seq ?_
    refine WC_draw [[], [], [], [], [], [3, 4], [0, 1, 2, 3, 4, 5], [], [0, 1, 2, 3, 4, 5, 6, 7]] [8] 48 [] (List.nil_sublist _) mixed rfl (by decide) ?_
    refine RW.det [] rfl rfl rfl rfl (fun _ => rfl) (fun V hV => Det.rel (det_loadWA 0 Try.underlying22 rfl i22 rfl rfl)) (fun _ _ _ => rfl) ?_
    dsimp only [put, List.set, ev, nth, List.nil_append, List.cons_append, md, Nat.reducePow, Nat.reduceAdd, Nat.reduceMul]
    refine RW.det [] rfl rfl rfl rfl (fun _ => rfl) (fun V hV => Det.rel (det_loadWA 1 Try.underlying23 rfl i23 rfl rfl)) (fun _ _ _ => rfl) ?_
    dsimp only [put, List.set, ev, nth, List.nil_append, List.cons_append, md, Nat.reducePow, Nat.reduceAdd, Nat.reduceMul]
    refine RW.pure rfl rfl (fun _ => rfl) (fun V hV => det_move) (fun _ _ _ => rfl) ?_
    dsimp only [put, List.set, ev, nth, List.nil_append, List.cons_append, md, Nat.reducePow, Nat.reduceAdd, Nat.reduceMul]
    refine RW.pure rfl rfl (fun _ => rfl) (fun V hV => det_move) (fun _ _ _ => rfl) ?_
    dsimp only [put, List.set, ev, nth, List.nil_append, List.cons_append, md, Nat.reducePow, Nat.reduceAdd, Nat.reduceMul]
    refine RW.pure rfl rfl (fun _ => rfl) (fun V hV => det_move) (fun _ _ _ => rfl) ?_
    dsimp only [put, List.set, ev, nth, List.nil_append, List.cons_append, md, Nat.reducePow, Nat.reduceAdd, Nat.reduceMul]
    refine RW.pure rfl rfl (fun _ => rfl) (fun V hV => det_cutTo Try.underlying35 Try.sizeOf5 rfl rfl (by omega)) (fun _ _ _ => rfl) ?_
    dsimp only [put, List.set, ev, nth, List.nil_append, List.cons_append, md, Nat.reducePow, Nat.reduceAdd, Nat.reduceMul]
    refine RW.det [] rfl rfl rfl rfl (fun _ => rfl) (fun V hV => Rel_call rfl Try.call59 (fun w hw => atag_spec K N na (ns - 16) fa fs hfa (fun i hi => hfs i (by omega)) hna (by omega) _ _ w (ha0.far hw) ((hb0.far hw).take (by omega)))) (fun _ _ _ => rfl) ?_
    dsimp only [put, List.set, ev, nth, List.nil_append, List.cons_append, md, Nat.reducePow, Nat.reduceAdd, Nat.reduceMul]
    refine RW.rel' (R0 := fun _ => IsNew (arr .u8 16 fun _ => 0) 71) [] rfl rfl rfl rfl (fun _ => rfl) rfl (fun V hV => draw_alloc z71 rfl) (fun _ _ _ _ _ h => h) ?_
    dsimp only [put, List.set, ev, nth, List.nil_append, List.cons_append, md, Nat.reducePow, Nat.reduceAdd, Nat.reduceMul]
    refine RW.tail' (B := fun V => _ ++ flat [7] V) rfl rfl rfl rfl (fun _ => rfl) (fun V hV => chg_storeWA 2 Try.sizeOf71 (IsNew.ptr (hV 7 (by decide) _ rfl)) (by have e7 : (V 7).2 = _ := IsNew.mem (hV 7 (by decide) _ rfl); simp only [flat_cons, flat_nil, e7]; rfl) rfl) (fun V V' hV _ _ h => by simpa only [flat_cons, flat_nil, hV 7 (by decide)] using h) (fun _ _ _ _ _ => List.nil_sublist _) ?_
    dsimp only [put, List.set, ev, nth, List.nil_append, List.cons_append, md, Nat.reducePow, Nat.reduceAdd, Nat.reduceMul]
    refine RW.done (fun V => (V 8).2) rfl rfl (fun _ => rfl) (fun V hV => ?_)
    obtain ⟨b2, hp2, hq2⟩ : IsNew _ _ (V 7).1 (V 7).2 := hV 7 _ rfl
    have ht8 : (V 8).2 = _ := hV 8 _ rfl
    simp only [hp2, hq2, ht8, flat_cons, flat_nil]
    try dsimp only [put, blk, flat_nil, List.append_nil, List.append, List.eraseIdx, List.set, ev, nth, List.nil_append, List.cons_append, md, Nat.reducePow, Nat.reduceAdd, Nat.reduceMul]
    clear hV hp2 hq2 ht8
    refine WC_seq ?_
    refine WC_seq ?_
    by_cases hok : okB K N na fa ns fs = true
    · refine WC_draw [[], [], [], [1, 2], [0, 1, 2, 3], [0, 1, 2, 3, 4]] [] 48 [] (List.nil_sublist _) mixed rfl (by decide) ?_
      refine RW.pure rfl rfl (fun _ => rfl) (fun V hV => det_sliceA Try.underlying71 Try.sizeOf5 rfl) (fun _ _ _ => rfl) ?_
      dsimp only [put, List.set, ev, nth, List.nil_append, List.cons_append, md, Nat.reducePow, Nat.reduceAdd, Nat.reduceMul]
      refine RW.pure rfl rfl (fun _ => rfl) (fun V hV => det_move) (fun _ _ _ => rfl) ?_
      dsimp only [put, List.set, ev, nth, List.nil_append, List.cons_append, md, Nat.reducePow, Nat.reduceAdd, Nat.reduceMul]
      refine RW.pure rfl rfl (fun _ => rfl) (fun V hV => det_move) (fun _ _ _ => rfl) ?_
      dsimp only [put, List.set, ev, nth, List.nil_append, List.cons_append, md, Nat.reducePow, Nat.reduceAdd, Nat.reduceMul]
      refine RW.pure rfl rfl (fun _ => rfl) (fun V hV => det_cutFrom Try.underlying35 Try.sizeOf5 rfl rfl (by omega)) (fun _ _ _ => rfl) ?_
      dsimp only [put, List.set, ev, nth, List.nil_append, List.cons_append, md, Nat.reducePow, Nat.reduceAdd, Nat.reduceMul]
      refine RW.det [] rfl rfl rfl rfl (fun _ => rfl) (fun V hV => Rel_call rfl Try.call41 (fun w hw => equal_is true 16 (ns - (ns - 16)) (tagB K N na fa (ns - 16) fs) (fun i => fs (ns - 16 + i)) hok (fun i _ => byt_lt _ _) (fun i hi => hfs _ (by omega)) _ _ w (Rd.arr hw 2 rfl (Nat.le_refl _)) ((hb0.far hw).drop (by omega) hcap) (by decide))) (fun _ _ _ => rfl) ?_
      dsimp only [put, List.set, ev, nth, List.nil_append, List.cons_append, md, Nat.reducePow, Nat.reduceAdd, Nat.reduceMul]
      refine RW.pure rfl rfl (fun _ => rfl) (fun V hV => det_not rfl) (fun _ _ _ => rfl) ?_
      dsimp only [put, List.set, ev, nth, List.nil_append, List.cons_append, md, Nat.reducePow, Nat.reduceAdd, Nat.reduceMul]
      refine RW.done (fun V => _ ++ flat [] V) rfl rfl (fun _ => rfl) (fun V hV => ?_)
      try dsimp only [put, blk, flat_nil, List.append_nil, List.append, List.eraseIdx, List.set, ev, nth, List.nil_append, List.cons_append, md, Nat.reducePow, Nat.reduceAdd, Nat.reduceMul]
      refine WC_cond_false rfl ?_
      refine WC_skip ?_
      refine WC_seq ?_
      refine WC_draw [[], [], [], [], [2, 3], [0, 1, 2, 3, 4], [0, 1, 2, 3, 4, 5], [0, 1, 2, 3, 4, 5], [0, 1, 2, 3, 4, 5, 6, 7], [0, 1, 2, 3, 4, 5, 6, 7, 8]] [] 48 [] (List.nil_sublist _) mixed rfl (by decide) ?_
      refine RW.det [] rfl rfl rfl rfl (fun _ => rfl) (fun V hV => Det.rel (det_loadWA 0 Try.underlying22 rfl i22 rfl rfl)) (fun _ _ _ => rfl) ?_
      dsimp only [put, List.set, ev, nth, List.nil_append, List.cons_append, md, Nat.reducePow, Nat.reduceAdd, Nat.reduceMul]
      refine RW.det [] rfl rfl rfl rfl (fun _ => rfl) (fun V hV => Det.rel (det_loadWA 1 Try.underlying23 rfl i23 rfl rfl)) (fun _ _ _ => rfl) ?_
      dsimp only [put, List.set, ev, nth, List.nil_append, List.cons_append, md, Nat.reducePow, Nat.reduceAdd, Nat.reduceMul]
      refine RW.pure rfl rfl (fun _ => rfl) (fun V hV => det_move) (fun _ _ _ => rfl) ?_
      dsimp only [put, List.set, ev, nth, List.nil_append, List.cons_append, md, Nat.reducePow, Nat.reduceAdd, Nat.reduceMul]
      refine RW.pure rfl rfl (fun _ => rfl) (fun V hV => det_move) (fun _ _ _ => rfl) ?_
      dsimp only [put, List.set, ev, nth, List.nil_append, List.cons_append, md, Nat.reducePow, Nat.reduceAdd, Nat.reduceMul]
      refine RW.pure rfl rfl (fun _ => rfl) (fun V hV => det_cutTo Try.underlying35 Try.sizeOf5 rfl rfl (by omega)) (fun _ _ _ => rfl) ?_
      dsimp only [put, List.set, ev, nth, List.nil_append, List.cons_append, md, Nat.reducePow, Nat.reduceAdd, Nat.reduceMul]
      refine RW.rel' (R0 := fun _ v m => ∃ v1 e, v = .tuple #[v1, vn .i64 0] ∧ RowN .u8 5 (ns - 16) (hidb K N 1 fs) v1 e ∧ m = [e]) [] rfl rfl rfl rfl (fun _ => rfl) rfl (fun V hV => Rel_call rfl Try.call42 (fun w hw => hide_ok K N 1 (by decide) (ns - 16) fs (fun i hi => hfs i (by omega)) (by omega) (by omega) _ w ((hb0.far hw).take (by omega)))) (fun _ _ _ _ _ h => h) ?_
      dsimp only [put, List.set, ev, nth, List.nil_append, List.cons_append, md, Nat.reducePow, Nat.reduceAdd, Nat.reduceMul]
      refine RW.pure rfl rfl (fun _ => rfl) (fun V hV => det_extractV (by obtain ⟨v1, e1, h1, _⟩ := hV 5 (by decide) _ rfl; exact ⟨_, h1, by simp⟩)) (fun V V' hV => by first | rfl | (dsimp only [ev, nth]; simp only [hV 5 (by decide)])) ?_
      dsimp only [put, List.set, ev, nth, List.nil_append, List.cons_append, md, Nat.reducePow, Nat.reduceAdd, Nat.reduceMul]
      refine RW.pure rfl rfl (fun _ => rfl) (fun V hV => det_extractV (by obtain ⟨v1, e1, h1, _⟩ := hV 5 (by decide) _ rfl; exact ⟨_, h1, by simp⟩)) (fun V V' hV => by first | rfl | (dsimp only [ev, nth]; simp only [hV 5 (by decide)])) ?_
      dsimp only [put, List.set, ev, nth, List.nil_append, List.cons_append, md, Nat.reducePow, Nat.reduceAdd, Nat.reduceMul]
      refine RW.pure rfl rfl (fun _ => rfl) (fun V hV => det_assign) (fun V V' hV => by first | rfl | (dsimp only [ev, nth]; simp only [hV 5 (by decide)])) ?_
      dsimp only [put, List.set, ev, nth, List.nil_append, List.cons_append, md, Nat.reducePow, Nat.reduceAdd, Nat.reduceMul]
      refine RW.pure rfl rfl (fun _ => rfl) (fun V hV => det_assign) (fun V V' hV => by first | rfl | (dsimp only [ev, nth]; simp only [hV 5 (by decide)])) ?_
      dsimp only [put, List.set, ev, nth, List.nil_append, List.cons_append, md, Nat.reducePow, Nat.reduceAdd, Nat.reduceMul]
      refine RW.done (fun V => _ ++ flat [5] V) rfl rfl (fun _ => rfl) (fun V hV => ?_)
      obtain ⟨v45, e45, hv45, hr45, hq45⟩ : ∃ v1 e, (V 5).1 = .tuple #[v1, vn .i64 0] ∧ RowN .u8 5 (ns - 16) (hidb K N 1 fs) v1 e ∧ (V 5).2 = [e] := hV 5 _ rfl
      simp only [hq45, hv45, tg2_0, tg2_1, flat_cons, flat_nil]
      try dsimp only [put, blk, flat_nil, List.append_nil, List.append, List.eraseIdx, List.set, ev, nth, List.nil_append, List.cons_append, md, Nat.reducePow, Nat.reduceAdd, Nat.reduceMul]
      clear hV
      refine WC_ret ?_
      refine fin_tmp2 Try.results32 rfl rfl ([e45]) (.cons _ (.cons _ (.cons _ (.cons_cons _ .slnil)))) ?_
      exact .inr (.inr ⟨by omega, hok, _, _, rfl, hr45, rfl⟩)
    · have hok : okB K N na fa ns fs = false := by simpa using hok
      refine WC_draw [[], [], [], [1, 2], [0, 1, 2, 3], [0, 1, 2, 3, 4]] [] 48 [] (List.nil_sublist _) mixed rfl (by decide) ?_
      refine RW.pure rfl rfl (fun _ => rfl) (fun V hV => det_sliceA Try.underlying71 Try.sizeOf5 rfl) (fun _ _ _ => rfl) ?_
      dsimp only [put, List.set, ev, nth, List.nil_append, List.cons_append, md, Nat.reducePow, Nat.reduceAdd, Nat.reduceMul]
      refine RW.pure rfl rfl (fun _ => rfl) (fun V hV => det_move) (fun _ _ _ => rfl) ?_
      dsimp only [put, List.set, ev, nth, List.nil_append, List.cons_append, md, Nat.reducePow, Nat.reduceAdd, Nat.reduceMul]
      refine RW.pure rfl rfl (fun _ => rfl) (fun V hV => det_move) (fun _ _ _ => rfl) ?_
      dsimp only [put, List.set, ev, nth, List.nil_append, List.cons_append, md, Nat.reducePow, Nat.reduceAdd, Nat.reduceMul]
      refine RW.pure rfl rfl (fun _ => rfl) (fun V hV => det_cutFrom Try.underlying35 Try.sizeOf5 rfl rfl (by omega)) (fun _ _ _ => rfl) ?_
      dsimp only [put, List.set, ev, nth, List.nil_append, List.cons_append, md, Nat.reducePow, Nat.reduceAdd, Nat.reduceMul]
      refine RW.det [] rfl rfl rfl rfl (fun _ => rfl) (fun V hV => Rel_call rfl Try.call41 (fun w hw => equal_is false 16 (ns - (ns - 16)) (tagB K N na fa (ns - 16) fs) (fun i => fs (ns - 16 + i)) hok (fun i _ => byt_lt _ _) (fun i hi => hfs _ (by omega)) _ _ w (Rd.arr hw 2 rfl (Nat.le_refl _)) ((hb0.far hw).drop (by omega) hcap) (by decide))) (fun _ _ _ => rfl) ?_
      dsimp only [put, List.set, ev, nth, List.nil_append, List.cons_append, md, Nat.reducePow, Nat.reduceAdd, Nat.reduceMul]
      refine RW.pure rfl rfl (fun _ => rfl) (fun V hV => det_not rfl) (fun _ _ _ => rfl) ?_
      dsimp only [put, List.set, ev, nth, List.nil_append, List.cons_append, md, Nat.reducePow, Nat.reduceAdd, Nat.reduceMul]
      refine RW.done (fun V => _ ++ flat [] V) rfl rfl (fun _ => rfl) (fun V hV => ?_)
      try dsimp only [put, blk, flat_nil, List.append_nil, List.append, List.eraseIdx, List.set, ev, nth, List.nil_append, List.cons_append, md, Nat.reducePow, Nat.reduceAdd, Nat.reduceMul]
      refine WC_cond_true rfl ?_
      refine WC_seq ?_
      refine WC_region ?_
      refine WL_det rfl (det_assign) ?_
      dsimp only [put, List.set, ev, nth, List.nil_append, List.cons_append, md, Nat.reducePow, Nat.reduceAdd, Nat.reduceMul]
      refine WL_det rfl (det_assign) ?_
      dsimp only [put, List.set, ev, nth, List.nil_append, List.cons_append, md, Nat.reducePow, Nat.reduceAdd, Nat.reduceMul]
      refine WL_nil ?_
      refine WC_ret ?_
      refine fin_tmp2 Try.results32 rfl rfl ([]) (List.nil_sublist _) ?_
      exact .inr (.inl ⟨by omega, hok, rfl, rfl⟩)

theorem open_short (K N na ns c2 : Nat) (fa fs : Nat → Nat) (hfa : ∀ i, i < na → fa i < 256) (hfs : ∀ i, i < ns → fs i < 256) (hna : na ≤ 400000) (hns : ns ≤ 400000) (va : Value) (p2 : Option Addr) (hcap : ns ≤ c2) (h : ns < 16) (w : World) (ha : Rd w .u8 na fa va) (hb : Rd w .u8 ns fs (.slice p2 ns c2)) : Calls Try.prog 32 [.agg (arr .u8 32 (byt K)), .agg (arr .u8 12 (byt N)), va, .slice p2 ns c2].toArray w (PostV w (.tuple #[.slice none 0 0, vn .i64 10])) := by
  refine (open_spec K N na ns c2 fa fs hfa hfs hna hns va p2 hcap w ha hb).mono ?_
  rintro e w' hp
  refine hp.mono ?_
  rintro v m (⟨_, h1⟩ | ⟨h1, _⟩ | ⟨h1, _⟩)
  · exact h1
  · omega
  · omega
theorem open_bad (K N na ns c2 : Nat) (fa fs : Nat → Nat) (hfa : ∀ i, i < na → fa i < 256) (hfs : ∀ i, i < ns → fs i < 256) (hna : na ≤ 400000) (hns : ns ≤ 400000) (va : Value) (p2 : Option Addr) (hcap : ns ≤ c2) (h : 16 ≤ ns) (ho : okB K N na fa ns fs = false) (w : World) (ha : Rd w .u8 na fa va) (hb : Rd w .u8 ns fs (.slice p2 ns c2)) : Calls Try.prog 32 [.agg (arr .u8 32 (byt K)), .agg (arr .u8 12 (byt N)), va, .slice p2 ns c2].toArray w (PostV w (.tuple #[.slice none 0 0, vn .i64 20])) := by
  refine (open_spec K N na ns c2 fa fs hfa hfs hna hns va p2 hcap w ha hb).mono ?_
  rintro e w' hp
  refine hp.mono ?_
  rintro v m (⟨h1, _⟩ | ⟨_, _, h1⟩ | ⟨_, h1, _⟩)
  · omega
  · exact h1
  · rw [ho] at h1; cases h1
theorem open_good (K N na ns c2 : Nat) (fa fs : Nat → Nat) (hfa : ∀ i, i < na → fa i < 256) (hfs : ∀ i, i < ns → fs i < 256) (hna : na ≤ 400000) (hns : ns ≤ 400000) (va : Value) (p2 : Option Addr) (hcap : ns ≤ c2) (h : 16 ≤ ns) (ho : okB K N na fa ns fs = true) (w : World) (ha : Rd w .u8 na fa va) (hb : Rd w .u8 ns fs (.slice p2 ns c2)) : Calls Try.prog 32 [.agg (arr .u8 32 (byt K)), .agg (arr .u8 12 (byt N)), va, .slice p2 ns c2].toArray w (Post w (fun v m => ∃ v1 e, v = .tuple #[v1, vn .i64 0] ∧ RowN .u8 5 (ns - 16) (hidb K N 1 fs) v1 e ∧ m = [e])) := by
  refine (open_spec K N na ns c2 fa fs hfa hfs hna hns va p2 hcap w ha hb).mono ?_
  rintro e w' hp
  refine hp.mono ?_
  rintro v m (⟨h1, _⟩ | ⟨_, h1, _⟩ | ⟨_, _, h1⟩)
  · omega
  · rw [ho] at h1; cases h1
  · exact h1

set_option maxRecDepth 100000 in
set_option maxHeartbeats 400000 in
theorem eawake_spec  (w : World) :
    Calls Try.prog 31 [].toArray w (PostV w (.bool true)) := by
  refine calls_of_WC Try.func31 rfl ?_
  simp only [Try.ntmps31, List.length_nil, Nat.reduceSub, List.replicate, List.nil_append]
  refine WC_seq ?_
  refine WC_region ?_
  refine WL_det rfl (det_assign) ?_
  dsimp only [put, List.set, ev, nth, List.nil_append, List.cons_append, md, Nat.reducePow, Nat.reduceAdd, Nat.reduceMul]
  refine WL_nil ?_
  refine WC_seq ?_
  refine WC_region ?_
  refine WL_det (v := .agg (arr .u8 32 (byt 1))) rfl (fun w _ => by kernel_rfl) ?_
  dsimp only [put, List.set, ev, nth, List.nil_append, List.cons_append, md, Nat.reducePow, Nat.reduceAdd, Nat.reduceMul]
  refine WL_det (v := .agg (arr .u8 12 (byt 2))) rfl (fun w _ => by kernel_rfl) ?_
  dsimp only [put, List.set, ev, nth, List.nil_append, List.cons_append, md, Nat.reducePow, Nat.reduceAdd, Nat.reduceMul]
  refine WL_rel rfl (rel_make Try.underlying35 ei5 rfl rfl (by decide) (by decide)) ?_
  rintro _ _ ⟨b0, rfl, rfl⟩
  dsimp only [put, List.set, ev, nth, List.nil_append, List.cons_append, md, Nat.reducePow, Nat.reduceAdd, Nat.reduceMul]
  refine WL_rel rfl (Rel_call rfl Try.call40 (fun w hw => seal_spec 1 2 0 5 (fun _ => 0) (fun _ => 0) (fun _ _ => by decide) (fun _ _ => by decide) (by decide) (by decide) _ _ w (Rd.nil _ _ _) (Rd.arr hw 0 rfl (Nat.le_refl _)))) ?_
  rintro _ _ ⟨v7, e7, rfl, hr7, rfl⟩
  obtain ⟨ps7, cs7, rfl, hcs7⟩ := hr7.slice
  dsimp only [put, List.append_nil, List.set, ev, nth, List.nil_append, List.cons_append, md, Nat.reducePow, Nat.reduceAdd, Nat.reduceMul]
  refine WL_det rfl (det_move) ?_
  dsimp only [put, List.set, ev, nth, List.nil_append, List.cons_append, md, Nat.reducePow, Nat.reduceAdd, Nat.reduceMul]
  refine WL_det rfl (det_extract rfl rfl) ?_
  dsimp only [put, List.set, ev, nth, List.nil_append, List.cons_append, md, Nat.reducePow, Nat.reduceAdd, Nat.reduceMul]
  refine WL_det rfl (det_extract rfl rfl) ?_
  dsimp only [put, List.set, ev, nth, List.nil_append, List.cons_append, md, Nat.reducePow, Nat.reduceAdd, Nat.reduceMul]
  refine WL_det rfl (det_assign) ?_
  dsimp only [put, List.set, ev, nth, List.nil_append, List.cons_append, md, Nat.reducePow, Nat.reduceAdd, Nat.reduceMul]
  refine WL_det rfl (det_assign) ?_
  dsimp only [put, List.set, ev, nth, List.nil_append, List.cons_append, md, Nat.reducePow, Nat.reduceAdd, Nat.reduceMul]
  refine WL_nil ?_
  refine WC_seq ?_
  refine WC_region ?_
  refine WL_det rfl (det_move) ?_
  dsimp only [put, List.set, ev, nth, List.nil_append, List.cons_append, md, Nat.reducePow, Nat.reduceAdd, Nat.reduceMul]
  refine WL_det rfl (Det.bv true (det_eql (q := 0) rfl rfl) (rfl)) ?_
  dsimp only [put, List.set, ev, nth, List.nil_append, List.cons_append, md, Nat.reducePow, Nat.reduceAdd, Nat.reduceMul]
  refine WL_det rfl (det_move) ?_
  dsimp only [put, List.set, ev, nth, List.nil_append, List.cons_append, md, Nat.reducePow, Nat.reduceAdd, Nat.reduceMul]
  refine WL_detG rfl (det_move) ?_
  dsimp only [put, List.set, ev, nth, List.nil_append, List.cons_append, md, Nat.reducePow, Nat.reduceAdd, Nat.reduceMul]
  refine WL_detG rfl (det_len Try.underlying35 rfl) ?_
  dsimp only [put, List.set, ev, nth, List.nil_append, List.cons_append, md, Nat.reducePow, Nat.reduceAdd, Nat.reduceMul]
  refine WL_detG rfl (Det.bv true (det_eql (q := 21) rfl rfl) (rfl)) ?_
  dsimp only [put, List.set, ev, nth, List.nil_append, List.cons_append, md, Nat.reducePow, Nat.reduceAdd, Nat.reduceMul]
  refine WL_det rfl (det_pick_true rfl) ?_
  dsimp only [put, List.set, ev, nth, List.nil_append, List.cons_append, md, Nat.reducePow, Nat.reduceAdd, Nat.reduceMul]
  refine WL_det rfl (det_move) ?_
  dsimp only [put, List.set, ev, nth, List.nil_append, List.cons_append, md, Nat.reducePow, Nat.reduceAdd, Nat.reduceMul]
  refine WL_relG rfl (Rel_call rfl Try.call61 (fun w hw => asize_nat 5 (by decide) w)) ?_
  rintro _ _ ⟨rfl, rfl⟩
  dsimp only [put, List.append_nil, List.set, ev, nth, List.nil_append, List.cons_append, md, Nat.reducePow, Nat.reduceAdd, Nat.reduceMul]
  refine WL_detG rfl (Det.bv true (det_eql (q := 21) rfl rfl) (rfl)) ?_
  dsimp only [put, List.set, ev, nth, List.nil_append, List.cons_append, md, Nat.reducePow, Nat.reduceAdd, Nat.reduceMul]
  refine WL_det rfl (det_pick_true rfl) ?_
  dsimp only [put, List.set, ev, nth, List.nil_append, List.cons_append, md, Nat.reducePow, Nat.reduceAdd, Nat.reduceMul]
  refine WL_det rfl (det_assign) ?_
  dsimp only [put, List.set, ev, nth, List.nil_append, List.cons_append, md, Nat.reducePow, Nat.reduceAdd, Nat.reduceMul]
  refine WL_nil ?_
  refine WC_ret ?_
  refine fin_tmp Try.results31 rfl ([]) (List.nil_sublist _) ?_
  exact ⟨rfl, rfl⟩

end Go.Proofs.Ytpmldkhgdpchjaa
