/- What the claim of this folder needs of its texts, put together by a program of this claim. Conditions: none. -/
import Derived.Test.YtpmldkhgdpchjaaBAS3
set_option linter.unusedVariables false
namespace Go.Proofs.Ytpmldkhgdpchjaa
open Go.MW
theorem once_modQ {A Q : Nat} (h : Q ≤ A) (h2 : A < 2 * Q) : A % Q = A - Q := by
  rw [Nat.mod_eq_sub_mod h, Nat.mod_eq_of_lt (by omega)]
theorem P10 : Pp < 65536 ^ 10 := by decide
theorem P10' {N : Nat} (h : N < Pp) : N < 65536 ^ 10 := Nat.lt_trans h P10
theorem clf_a (f : Nat → Nat) (k : Nat) (h : k = 3 ∨ k = 7 ∨ k = 11 ∨ k = 15) : clf f k = f k % 16 := by
  unfold clf; rw [if_pos (by omega)]; exact Nat.and_two_pow_sub_one_eq_mod (f k) 4
set_option maxRecDepth 100000 in
theorem and252 : ∀ x, x < 256 → x &&& 252 = x / 4 * 4 := by decide
theorem clf_b (f : Nat → Nat) (k : Nat) (hf : f k < 256) (h : k = 4 ∨ k = 8 ∨ k = 12) : clf f k = f k / 4 * 4 := by
  unfold clf; rw [if_neg (by omega), if_pos (by omega)]; exact and252 _ hf
theorem clf_c (f : Nat → Nat) (k : Nat) (hk : k < 16) (h : ¬ (k = 3 ∨ k = 7 ∨ k = 11 ∨ k = 15)) (h2 : ¬ (k = 4 ∨ k = 8 ∨ k = 12)) : clf f k = f k := by
  unfold clf; rw [if_neg (by omega), if_neg (by omega)]

set_option maxRecDepth 100000 in
set_option maxHeartbeats 400000 in
theorem p_spec  (w : World) :
    Calls Try.prog 80 [].toArray w (Post w (IsSl 10 (arr .i64 10 (dig Pp)) 3)) := by
  refine calls_of_WC Try.func80 rfl ?_
  simp only [Try.ntmps80, List.length_nil, Nat.reduceSub, List.replicate, List.nil_append]
  refine WC_seq ?_
  refine WC_region ?_
  refine WL_det rfl (det_assign) ?_
  dsimp only [put, List.set, ev, nth, List.nil_append, List.cons_append, md, Nat.reducePow, Nat.reduceAdd, Nat.reduceMul]
  refine WL_nil ?_
  refine WC_seq ?_
  refine WC_region ?_
  refine WL_rel rfl (rel_lit (c := arr .i64 10 (dig Pp)) Try.underlying47 Try.zeroValue3 Try.sizeOf3 (by decide) (by decide) (by kernel_rfl)) ?_
  rintro _ _ ⟨b0, rfl, rfl⟩
  dsimp only [put, List.set, ev, nth, List.nil_append, List.cons_append, md, Nat.reducePow, Nat.reduceAdd, Nat.reduceMul]
  refine WL_det rfl (det_assign) ?_
  dsimp only [put, List.set, ev, nth, List.nil_append, List.cons_append, md, Nat.reducePow, Nat.reduceAdd, Nat.reduceMul]
  refine WL_nil ?_
  refine WC_ret ?_
  refine fin_tmp Try.results80 rfl ([_]) (List.Sublist.refl _) ?_
  exact ⟨_, rfl, rfl⟩

set_option maxRecDepth 100000 in
set_option maxHeartbeats 1000000 in
theorem pmod_spec (n : Nat) (f : Nat → Nat) (hf : ∀ i, i < n → f i < 65536) (hn : n ≤ 1000) (va : Value) (w : World) (ha : Rd w .i64 n f va) :
    Calls Try.prog 47 [va].toArray w (Post w (fun v m => ∃ e, RowN .i64 3 10 (dig (psum f n % Pp)) v e ∧ m = [e])) := by
  obtain ⟨p1, c1, b1, o1, rfl, hp1, hx1⟩ := ha
  have hQ17 : 2 * Pp ≤ 65536 ^ 10 := by decide
  refine calls_of_WC Try.func47 rfl ?_
  simp only [Try.ntmps47, List.length_cons, List.length_nil, Nat.reduceAdd, Nat.reduceSub, List.replicate, List.cons_append, List.nil_append]
  refine WC_seq ?_
  refine WC_region ?_
  refine WL_det rfl (det_assign) ?_
  dsimp only [put, List.set, ev, nth, List.nil_append, List.cons_append, md, Nat.reducePow, Nat.reduceAdd, Nat.reduceMul]
  refine WL_nil ?_
  refine WC_seq ?_
  refine WC_region ?_
  refine WL_rel rfl (rel_make Try.underlying47 ei3 rfl rfl (by decide) (by decide)) ?_
  rintro _ _ ⟨b0, rfl, rfl⟩
  dsimp only [put, List.set, ev, nth, List.nil_append, List.cons_append, md, Nat.reducePow, Nat.reduceAdd, Nat.reduceMul]
  refine WL_det rfl (det_assign) ?_
  dsimp only [put, List.set, ev, nth, List.nil_append, List.cons_append, md, Nat.reducePow, Nat.reduceAdd, Nat.reduceMul]
  refine WL_nil ?_
  refine WC_seq ?_
  refine WC_seq ?_
  refine WC_region ?_
  refine WL_det rfl (det_move) ?_
  dsimp only [put, List.set, ev, nth, List.nil_append, List.cons_append, md, Nat.reducePow, Nat.reduceAdd, Nat.reduceMul]
  refine WL_det rfl (det_len Try.underlying47 rfl) ?_
  dsimp only [put, List.set, ev, nth, List.nil_append, List.cons_append, md, Nat.reducePow, Nat.reduceAdd, Nat.reduceMul]
  refine WL_det rfl (det_subz rfl rfl rfl (by omega) (by omega)) ?_
  dsimp only [put, List.set, ev, nth, List.nil_append, List.cons_append, md, Nat.reducePow, Nat.reduceAdd, Nat.reduceMul]
  refine WL_det rfl (det_assign) ?_
  dsimp only [put, List.set, ev, nth, List.nil_append, List.cons_append, md, Nat.reducePow, Nat.reduceAdd, Nat.reduceMul]
  refine WL_nil ?_
  refine WC_block ?_
  refine WC_loopS (ι := Nat × Value × (Option Nat × Obj)) [13, 14, 5, 17, 18, 21, 22, 23, 24, 25, 26, 27, 6, 7, 28, 29, 32, 33, 34, 35, 36, 37, 38, 8, 39, 40, 41, 42, 43, 44, 45, 30, 31, 46, 47, 48, 49, 50, 51, 19, 20, 15, 16] (fun x => [(4, .int .i64 ((x.1 : Int) - 1)), (3, x.2.1)]) (fun x => [(0, x.2.2)]) (fun x => x.1 ≤ n ∧ RowN .i64 3 10 (dig (psum f n / 2 ^ (16 * x.1) % Pp)) x.2.1 x.2.2) (fun x => x.1) (n, .slice (some ⟨b0, 0, none⟩) 10 10, (some b0, .cells (arr .i64 10 fun _ => 0) 3 (0, 0))) ?_ ?_ ?_ ?_
  · rfl
  · rfl
  · exact ⟨Nat.le_refl _, by rw [psum_small f n hf, Nat.zero_mod]; exact RowN.congr (RowN.ofArr (by decide)) fun i _ => (dig_zero i).symm⟩
  · rintro ⟨j, v4, e4⟩ g ⟨hj, hr4⟩
    dsimp only [setAll, setG, setM, List.set]
    refine WC_seq ?_
    refine WC_seq ?_
    refine WC_region ?_
    refine WL_det rfl (det_move) ?_
    dsimp only [put, List.set, ev, nth, List.nil_append, List.cons_append, md, Nat.reducePow, Nat.reduceAdd, Nat.reduceMul]
    refine WL_det rfl (det_geqz rfl rfl) ?_
    dsimp only [put, List.set, ev, nth, List.nil_append, List.cons_append, md, Nat.reducePow, Nat.reduceAdd, Nat.reduceMul]
    refine WL_nil ?_
    refine WC_cond rfl (fun hc0 => ?_) (fun hc0 => ?_)
    · have hc0 := of_decide_eq_true hc0
      obtain ⟨j, rfl⟩ : ∃ j', j = j' + 1 := ⟨j - 1, by omega⟩
      rw [show ((j + 1 : Nat) : Int) - 1 = (j : Int) from by omega]
      have hfj := hf j (by omega)
      refine WC_skip ?_
      refine WC_seq ?_
      refine WC_block ?_
      refine WC_seq ?_
      refine WC_region ?_
      refine WL_det rfl (det_assign) ?_
      dsimp only [put, List.set, ev, nth, List.nil_append, List.cons_append, md, Nat.reducePow, Nat.reduceAdd, Nat.reduceMul]
      refine WL_nil ?_
      refine WC_block ?_
      refine WC_loopS (ι := Nat × Value × (Option Nat × Obj)) [17, 18, 21, 22, 23, 24, 25, 26, 27, 6, 7, 28, 29, 32, 33, 34, 35, 36, 37, 38, 8, 39, 40, 41, 42, 43, 44, 45, 30, 31, 46, 47, 48, 49, 50, 51, 19, 20] (fun x => [(5, vn .i64 (bt x.1)), (3, x.2.1)]) (fun x => [(0, x.2.2)]) (fun x => x.1 ≤ 16 ∧ RowN .i64 3 10 (dig (psum f n / 2 ^ (16 * j + x.1) % Pp)) x.2.1 x.2.2) (fun x => x.1) (16, v4, e4) ?_ ?_ ?_ ?_
      · dsimp only
        rw [show bt 16 = 32768 from rfl]
        try rfl
      · rfl
      · exact ⟨Nat.le_refl _, hr4⟩
      · rintro ⟨t, v4, e4⟩ g ⟨ht, hr4⟩
        dsimp only [setAll, setG, setM, List.set]
        refine WC_seq ?_
        refine WC_seq ?_
        refine WC_region ?_
        refine WL_det rfl (det_move) ?_
        dsimp only [put, List.set, ev, nth, List.nil_append, List.cons_append, md, Nat.reducePow, Nat.reduceAdd, Nat.reduceMul]
        refine WL_det rfl (det_gtr (q := 0) rfl rfl) ?_
        dsimp only [put, List.set, ev, nth, List.nil_append, List.cons_append, md, Nat.reducePow, Nat.reduceAdd, Nat.reduceMul]
        refine WL_nil ?_
        refine WC_cond rfl (fun hc1 => ?_) (fun hc1 => ?_)
        · have hc1 := of_decide_eq_true hc1
          obtain ⟨t, rfl⟩ := bt_pos hc1
          rw [bt_succ]
          refine WC_skip ?_
          refine WC_seq ?_
          refine WC_block ?_
          refine WC_seq ?_
          refine WC_region ?_
          have hp2 := Nat.two_pow_pos t
          have hp3 : 2 ^ t ≤ 2 ^ 15 := Nat.pow_le_pow_right (by decide) (by omega)
          have hfj2 : f j / 2 ^ t ≤ f j := Nat.div_le_self _ _
          refine WL_det rfl (det_move) ?_
          dsimp only [put, List.set, ev, nth, List.nil_append, List.cons_append, md, Nat.reducePow, Nat.reduceAdd, Nat.reduceMul]
          refine WL_det rfl (det_move) ?_
          dsimp only [put, List.set, ev, nth, List.nil_append, List.cons_append, md, Nat.reducePow, Nat.reduceAdd, Nat.reduceMul]
          refine WL_det rfl (det_idxS Try.underlying47 Try.sizeOf3 rfl rfl (rfl) (by omega) (hp1 (by omega))) ?_
          dsimp only [put, List.set, ev, nth, List.nil_append, List.cons_append, md, Nat.reducePow, Nat.reduceAdd, Nat.reduceMul]
          refine WL_det rfl (det_loadF Try.isAgg3 rfl (hx1 _ (by omega))) ?_
          dsimp only [put, List.set, ev, nth, List.nil_append, List.cons_append, md, Nat.reducePow, Nat.reduceAdd, Nat.reduceMul]
          refine WL_det rfl (det_move) ?_
          dsimp only [put, List.set, ev, nth, List.nil_append, List.cons_append, md, Nat.reducePow, Nat.reduceAdd, Nat.reduceMul]
          refine WL_det rfl (det_quoi rfl rfl (by omega) (.inr ⟨rfl, by omega⟩) (.inl rfl)) ?_
          dsimp only [put, List.set, ev, nth, List.nil_append, List.cons_append, md, Nat.reducePow, Nat.reduceAdd, Nat.reduceMul]
          refine WL_det rfl (det_remi (q := 2) rfl rfl (by omega)) ?_
          dsimp only [put, List.set, ev, nth, List.nil_append, List.cons_append, md, Nat.reducePow, Nat.reduceAdd, Nat.reduceMul]
          refine WL_det rfl (det_assign) ?_
          dsimp only [put, List.set, ev, nth, List.nil_append, List.cons_append, md, Nat.reducePow, Nat.reduceAdd, Nat.reduceMul]
          refine WL_nil ?_
          refine WC_seq ?_
          refine WC_seq ?_
          refine WC_region ?_
          refine WL_det rfl (det_assign) ?_
          dsimp only [put, List.set, ev, nth, List.nil_append, List.cons_append, md, Nat.reducePow, Nat.reduceAdd, Nat.reduceMul]
          refine WL_nil ?_
          refine WC_block ?_
          obtain ⟨b4, c4, cur4, rfl, rfl, hle4, hmx4, hsz4, hcur4⟩ := RowV.pos hr4 (by decide)
          obtain ⟨X, hX⟩ : ∃ X, X = psum f n / 2 ^ (16 * j + t + 1) % Pp := ⟨_, rfl⟩
          obtain ⟨bit, hbit⟩ : ∃ bit, bit = f j / 2 ^ t % 2 := ⟨_, rfl⟩
          rw [← hbit]
          have hcurX : ∀ i, i < 10 → cur4[i]? = some (vn .i64 (dig X i)) := fun i hi => by rw [hX]; exact hcur4 i hi
          have hXQ : X < Pp := by rw [hX]; exact Nat.mod_lt _ Pp_pos
          have hbit2 : bit < 2 := by rw [hbit]; exact Nat.mod_lt _ (by decide)
          have hlt : 2 * X + bit < 2 * Pp := by omega
          refine WC_loopS (ι := Nat × Array Value) [28, 29, 32, 33, 34, 35, 36, 37, 38, 8, 39, 40, 41, 42, 43, 44, 45, 30, 31] (fun x => [(7, vn .i64 (x.1)), (6, vn .i64 (mcc 2 X bit x.1))]) (fun x => [(0, (some b4, .cells x.2 3 (0, 0)))]) (fun x => x.1 ≤ 10 ∧ x.2.size = c4 ∧ ∀ i, i < 10 → x.2[i]? = some (vn .i64 (mcf 2 X bit x.1 i))) (fun x => 10 - x.1) (0, cur4) ?_ ?_ ?_ ?_
          · rw [mcc_zero]
            try rfl
          · rfl
          · exact ⟨Nat.zero_le _, hsz4, fun i hi => by rw [mcf_zero]; exact hcurX i hi⟩
          · rintro ⟨k, cur⟩ g ⟨hk, hsz, hcur⟩
            dsimp only [setAll, setG, setM, List.set]
            dsimp only at hk hsz hcur
            have hd := dig_lt X k
            have hcc := mcc_lt 2 X bit k hbit2
            refine WC_seq ?_
            refine WC_seq ?_
            refine WC_region ?_
            refine WL_det rfl (det_move) ?_
            dsimp only [put, List.set, ev, nth, List.nil_append, List.cons_append, md, Nat.reducePow, Nat.reduceAdd, Nat.reduceMul]
            refine WL_det rfl (det_lss (q := 10) rfl rfl) ?_
            dsimp only [put, List.set, ev, nth, List.nil_append, List.cons_append, md, Nat.reducePow, Nat.reduceAdd, Nat.reduceMul]
            refine WL_nil ?_
            refine WC_cond rfl (fun hc2 => ?_) (fun hc2 => ?_)
            · have hc2 := of_decide_eq_true hc2
              refine WC_skip ?_
              refine WC_seq ?_
              refine WC_block ?_
              refine WC_seq ?_
              refine WC_region ?_
              refine WL_det rfl (det_move) ?_
              dsimp only [put, List.set, ev, nth, List.nil_append, List.cons_append, md, Nat.reducePow, Nat.reduceAdd, Nat.reduceMul]
              refine WL_det rfl (det_move) ?_
              dsimp only [put, List.set, ev, nth, List.nil_append, List.cons_append, md, Nat.reducePow, Nat.reduceAdd, Nat.reduceMul]
              refine WL_det rfl (det_idxS0 Try.underlying47 Try.sizeOf3 rfl rfl (rfl) (by omega)) ?_
              dsimp only [put, List.set, ev, nth, List.nil_append, List.cons_append, md, Nat.reducePow, Nat.reduceAdd, Nat.reduceMul]
              refine WL_det rfl (det_load 0 Try.isAgg3 rfl rfl (hcur _ (by omega))) ?_
              dsimp only [put, List.set, ev, nth, List.nil_append, List.cons_append, md, Nat.reducePow, Nat.reduceAdd, Nat.reduceMul]
              rw [mcf_at]
              refine WL_det rfl (det_muli (p := 2) rfl rfl (by omega)) ?_
              dsimp only [put, List.set, ev, nth, List.nil_append, List.cons_append, md, Nat.reducePow, Nat.reduceAdd, Nat.reduceMul]
              refine WL_det rfl (det_move) ?_
              dsimp only [put, List.set, ev, nth, List.nil_append, List.cons_append, md, Nat.reducePow, Nat.reduceAdd, Nat.reduceMul]
              refine WL_det rfl (det_addi rfl rfl (by omega)) ?_
              dsimp only [put, List.set, ev, nth, List.nil_append, List.cons_append, md, Nat.reducePow, Nat.reduceAdd, Nat.reduceMul]
              refine WL_det rfl (det_assign) ?_
              dsimp only [put, List.set, ev, nth, List.nil_append, List.cons_append, md, Nat.reducePow, Nat.reduceAdd, Nat.reduceMul]
              refine WL_nil ?_
              refine WC_seq ?_
              refine WC_region ?_
              refine WL_det rfl (det_move) ?_
              dsimp only [put, List.set, ev, nth, List.nil_append, List.cons_append, md, Nat.reducePow, Nat.reduceAdd, Nat.reduceMul]
              refine WL_det rfl (det_move) ?_
              dsimp only [put, List.set, ev, nth, List.nil_append, List.cons_append, md, Nat.reducePow, Nat.reduceAdd, Nat.reduceMul]
              refine WL_det rfl (det_move) ?_
              dsimp only [put, List.set, ev, nth, List.nil_append, List.cons_append, md, Nat.reducePow, Nat.reduceAdd, Nat.reduceMul]
              refine WL_det rfl (det_remi (q := 65536) rfl rfl (by omega)) ?_
              dsimp only [put, List.set, ev, nth, List.nil_append, List.cons_append, md, Nat.reducePow, Nat.reduceAdd, Nat.reduceMul]
              refine WL_det rfl (det_idxS0 Try.underlying47 Try.sizeOf3 rfl rfl (rfl) (by omega)) ?_
              dsimp only [put, List.set, ev, nth, List.nil_append, List.cons_append, md, Nat.reducePow, Nat.reduceAdd, Nat.reduceMul]
              refine WL_chg rfl (chg_store 0 Try.sizeOf3 rfl rfl (by omega) rfl rfl) ?_
              rintro _ _ rfl
              dsimp only [put, List.set, ev, nth, List.nil_append, List.cons_append, md, Nat.reducePow, Nat.reduceAdd, Nat.reduceMul]
              refine WL_nil ?_
              refine WC_region ?_
              refine WL_det rfl (det_move) ?_
              dsimp only [put, List.set, ev, nth, List.nil_append, List.cons_append, md, Nat.reducePow, Nat.reduceAdd, Nat.reduceMul]
              refine WL_det rfl (det_quoi (q := 65536) rfl rfl (by omega) (.inr ⟨rfl, by omega⟩) (.inl rfl)) ?_
              dsimp only [put, List.set, ev, nth, List.nil_append, List.cons_append, md, Nat.reducePow, Nat.reduceAdd, Nat.reduceMul]
              refine WL_det rfl (det_assign) ?_
              dsimp only [put, List.set, ev, nth, List.nil_append, List.cons_append, md, Nat.reducePow, Nat.reduceAdd, Nat.reduceMul]
              refine WL_nil ?_
              refine WC_region ?_
              refine WL_det rfl (det_move) ?_
              dsimp only [put, List.set, ev, nth, List.nil_append, List.cons_append, md, Nat.reducePow, Nat.reduceAdd, Nat.reduceMul]
              refine WL_det rfl (det_addi (q := 1) rfl rfl (by omega)) ?_
              dsimp only [put, List.set, ev, nth, List.nil_append, List.cons_append, md, Nat.reducePow, Nat.reduceAdd, Nat.reduceMul]
              refine WL_det rfl (det_assign) ?_
              dsimp only [put, List.set, ev, nth, List.nil_append, List.cons_append, md, Nat.reducePow, Nat.reduceAdd, Nat.reduceMul]
              refine WL_nil ?_
              refine ⟨(k + 1, cur.setIfInBounds k (vn .i64 ((2 * dig X k + mcc 2 X bit k) % 65536))), ?_, ?_, ?_, ?_⟩
              · rw [mc_carry]
                try rfl
              · rfl
              · exact ⟨by omega, by simp only [Array.size_setIfInBounds]; exact hsz, by have h := cur_set (p := (2 * dig X k + mcc 2 X bit k) % 65536) hle4 hsz (show k < 10 by omega) hcur; rw [mc_dig, mcf_succ] at h; rw [mc_dig]; exact h⟩
              · omega
            · have hc2 := of_decide_eq_false hc2
              obtain rfl : k = 10 := by omega
              have hrow : RowN .i64 3 10 (dig (2 * X + bit)) (.slice (some ⟨b4, 0, none⟩) 10 c4) (some b4, .cells cur 3 (0, 0)) := RowN.mk hle4 hmx4 hsz fun i hi => by rw [hcur i hi]; unfold mcf; rw [if_pos hi]
              refine WC_exit ?_
              refine inB_same ?_
              refine WC_seq ?_
              refine WC_region ?_
              refine WL_det rfl (det_move) ?_
              dsimp only [put, List.set, ev, nth, List.nil_append, List.cons_append, md, Nat.reducePow, Nat.reduceAdd, Nat.reduceMul]
              refine WL_rel rfl (Rel_call rfl Try.call80 (fun w hw => p_spec w)) ?_
              rintro _ _ ⟨bP, rfl, rfl⟩
              dsimp only [put, List.append_nil, List.set, ev, nth, List.nil_append, List.cons_append, md, Nat.reducePow, Nat.reduceAdd, Nat.reduceMul]
              refine WL_rel rfl (Rel_call rfl Try.call28 (fun w hw => atleast_spec (2 * X + bit) Pp 10 (by omega) P10 (by decide) _ _ w (Rd.row hw 0 rfl hrow) (Rd.arr hw 1 rfl (Nat.le_refl _)))) ?_
              rintro _ _ ⟨rfl, rfl⟩
              dsimp only [put, List.append_nil, List.set, ev, nth, List.nil_append, List.cons_append, md, Nat.reducePow, Nat.reduceAdd, Nat.reduceMul]
              refine WL.forget (.cons_cons _ (.cons _ .slnil)) ?_
              refine WL_nil ?_
              refine WC_cond rfl (fun hc3 => ?_) (fun hc3 => ?_)
              · have hc3 := of_decide_eq_true hc3
                refine WC_region ?_
                refine WL_det rfl (det_move) ?_
                dsimp only [put, List.set, ev, nth, List.nil_append, List.cons_append, md, Nat.reducePow, Nat.reduceAdd, Nat.reduceMul]
                refine WL_rel rfl (Rel_call rfl Try.call80 (fun w hw => p_spec w)) ?_
                rintro _ _ ⟨bP, rfl, rfl⟩
                dsimp only [put, List.append_nil, List.set, ev, nth, List.nil_append, List.cons_append, md, Nat.reducePow, Nat.reduceAdd, Nat.reduceMul]
                refine WL_rel rfl (Rel_call rfl Try.call81 (fun w hw => rless_spec (2 * X + bit) Pp 10 hc3 (by decide) _ _ w (Rd.row hw 0 rfl hrow) (Rd.arr hw 1 rfl (Nat.le_refl _)))) ?_
                rintro v56 _ ⟨e56, hr56, rfl⟩
                have hr56 : RowN .i64 3 10 (dig ((2 * X + bit) % Pp)) v56 e56 := by rw [once_modQ hc3 hlt]; exact hr56
                dsimp only [put, List.append_nil, List.set, ev, nth, List.nil_append, List.cons_append, md, Nat.reducePow, Nat.reduceAdd, Nat.reduceMul]
                refine WL.forget (.cons _ (.cons _ (.cons_cons _ .slnil))) ?_
                refine WL_det rfl (det_assign) ?_
                dsimp only [put, List.set, ev, nth, List.nil_append, List.cons_append, md, Nat.reducePow, Nat.reduceAdd, Nat.reduceMul]
                refine WL_nil ?_
                refine WC_region ?_
                refine WL_det rfl (det_move) ?_
                dsimp only [put, List.set, ev, nth, List.nil_append, List.cons_append, md, Nat.reducePow, Nat.reduceAdd, Nat.reduceMul]
                refine WL_det rfl (det_quoi (q := 2) rfl rfl (by omega) (.inr ⟨rfl, by omega⟩) (.inl rfl)) ?_
                dsimp only [put, List.set, ev, nth, List.nil_append, List.cons_append, md, Nat.reducePow, Nat.reduceAdd, Nat.reduceMul]
                refine WL_det rfl (det_assign) ?_
                dsimp only [put, List.set, ev, nth, List.nil_append, List.cons_append, md, Nat.reducePow, Nat.reduceAdd, Nat.reduceMul]
                refine WL_nil ?_
                refine ⟨(t, v56, e56), ?_, ?_, ?_, ?_⟩
                · rfl
                · rfl
                · exact ⟨by omega, by rw [hX, hbit, tk_step _ _ _ _ (bit_psum f n j t hf (by omega) (by omega))] at hr56; exact hr56⟩
                · omega
              · have hc3 := of_decide_eq_false hc3
                obtain ⟨v56, hv56⟩ : ∃ v, v = Value.slice (some ⟨b4, 0, none⟩) 10 c4 := ⟨_, rfl⟩
                obtain ⟨e56, he56⟩ : ∃ e : Option Nat × Obj, e = (some b4, Obj.cells cur 3 (0, 0)) := ⟨_, rfl⟩
                have hr56 : RowN .i64 3 10 (dig ((2 * X + bit) % Pp)) v56 e56 := by subst hv56 he56; rw [Nat.mod_eq_of_lt (by omega)]; exact hrow
                rw [← hv56, ← he56]
                refine WC_skip ?_
                refine WC_region ?_
                refine WL_det rfl (det_move) ?_
                dsimp only [put, List.set, ev, nth, List.nil_append, List.cons_append, md, Nat.reducePow, Nat.reduceAdd, Nat.reduceMul]
                refine WL_det rfl (det_quoi (q := 2) rfl rfl (by omega) (.inr ⟨rfl, by omega⟩) (.inl rfl)) ?_
                dsimp only [put, List.set, ev, nth, List.nil_append, List.cons_append, md, Nat.reducePow, Nat.reduceAdd, Nat.reduceMul]
                refine WL_det rfl (det_assign) ?_
                dsimp only [put, List.set, ev, nth, List.nil_append, List.cons_append, md, Nat.reducePow, Nat.reduceAdd, Nat.reduceMul]
                refine WL_nil ?_
                refine ⟨(t, v56, e56), ?_, ?_, ?_, ?_⟩
                · rfl
                · rfl
                · exact ⟨by omega, by rw [hX, hbit, tk_step _ _ _ _ (bit_psum f n j t hf (by omega) (by omega))] at hr56; exact hr56⟩
                · omega
        · have hc1 := of_decide_eq_false hc1
          obtain rfl := bt_none hc1
          refine WC_exit ?_
          refine inB_same ?_
          refine WC_region ?_
          refine WL_det rfl (det_move) ?_
          dsimp only [put, List.set, ev, nth, List.nil_append, List.cons_append, md, Nat.reducePow, Nat.reduceAdd, Nat.reduceMul]
          refine WL_det rfl (det_subz rfl rfl rfl (by omega) (by omega)) ?_
          dsimp only [put, List.set, ev, nth, List.nil_append, List.cons_append, md, Nat.reducePow, Nat.reduceAdd, Nat.reduceMul]
          refine WL_det rfl (det_assign) ?_
          dsimp only [put, List.set, ev, nth, List.nil_append, List.cons_append, md, Nat.reducePow, Nat.reduceAdd, Nat.reduceMul]
          refine WL_nil ?_
          refine ⟨(j, v4, e4), ?_, ?_, ?_, ?_⟩
          · rfl
          · rfl
          · exact ⟨by omega, hr4⟩
          · omega
    · have hc0 := of_decide_eq_false hc0
      obtain rfl : j = 0 := by omega
      rw [Nat.mul_zero, Nat.pow_zero, Nat.div_one] at hr4
      refine WC_exit ?_
      refine inB_same ?_
      refine WC_seq ?_
      refine WC_region ?_
      refine WL_det rfl (det_move) ?_
      dsimp only [put, List.set, ev, nth, List.nil_append, List.cons_append, md, Nat.reducePow, Nat.reduceAdd, Nat.reduceMul]
      refine WL_det rfl (det_assign) ?_
      dsimp only [put, List.set, ev, nth, List.nil_append, List.cons_append, md, Nat.reducePow, Nat.reduceAdd, Nat.reduceMul]
      refine WL_nil ?_
      refine WC_ret ?_
      refine fin_tmp Try.results47 rfl ([e4]) (List.Sublist.refl _) ?_
      exact ⟨_, hr4, rfl⟩

set_option maxRecDepth 100000 in
set_option maxHeartbeats 400000 in
theorem pdigits_spec (n : Nat) (f : Nat → Nat) (hf : ∀ i, i < n → f i < 256) (hn : n ≤ 1000) (va : Value) (w : World) (ha : Rd w .u8 n f va) :
    Calls Try.prog 48 [va].toArray w (Post w (fun v m => ∃ e, RowN .i64 3 ((n + 1) / 2) (dig (lev f n)) v e ∧ m = [e])) := by
  obtain ⟨p1, c1, b1, o1, rfl, hp1, hx1⟩ := ha
  refine calls_of_WC Try.func48 rfl ?_
  simp only [Try.ntmps48, List.length_cons, List.length_nil, Nat.reduceAdd, Nat.reduceSub, List.replicate, List.cons_append, List.nil_append]
  refine WC_seq ?_
  refine WC_region ?_
  refine WL_det rfl (det_assign) ?_
  dsimp only [put, List.set, ev, nth, List.nil_append, List.cons_append, md, Nat.reducePow, Nat.reduceAdd, Nat.reduceMul]
  refine WL_nil ?_
  refine WC_seq ?_
  refine WC_region ?_
  refine WL_det rfl (det_assign) ?_
  dsimp only [put, List.set, ev, nth, List.nil_append, List.cons_append, md, Nat.reducePow, Nat.reduceAdd, Nat.reduceMul]
  refine WL_nil ?_
  refine WC_seq ?_
  refine WC_seq ?_
  refine WC_region ?_
  refine WL_det rfl (det_assign) ?_
  dsimp only [put, List.set, ev, nth, List.nil_append, List.cons_append, md, Nat.reducePow, Nat.reduceAdd, Nat.reduceMul]
  refine WL_nil ?_
  refine WC_block ?_
  refine WC.addNone (.cells #[] 3 (0, 0)) ?_
  dsimp only [List.cons_append, List.nil_append]
  refine WC_loopS (ι := Nat × Value × (Option Nat × Obj)) [6, 7, 8, 9, 12, 13, 14, 15, 16, 5, 17, 18, 19, 20, 21, 22, 23, 24, 25, 26, 27, 28, 29, 30, 31, 32, 33, 34, 10, 11] (fun x => [(4, vn .i64 (2 * x.1)), (3, x.2.1)]) (fun x => [(0, x.2.2)]) (fun x => 2 * x.1 ≤ n + 1 ∧ RowN .i64 3 x.1 (dig (lev f n)) x.2.1 x.2.2) (fun x => n + 1 - 2 * x.1) (0, .slice none 0 0, (none, .cells #[] 3 (0, 0))) ?_ ?_ ?_ ?_
  · rfl
  · rfl
  · exact ⟨Nat.zero_le _, RowV.nil _ _ _⟩
  · rintro ⟨k, v3, e3⟩ g ⟨hk, hr3⟩
    dsimp only [setAll, setG, setM, List.set]
    dsimp only at hk hr3
    refine WC_seq ?_
    refine WC_seq ?_
    refine WC_region ?_
    refine WL_det rfl (det_move) ?_
    dsimp only [put, List.set, ev, nth, List.nil_append, List.cons_append, md, Nat.reducePow, Nat.reduceAdd, Nat.reduceMul]
    refine WL_det rfl (det_move) ?_
    dsimp only [put, List.set, ev, nth, List.nil_append, List.cons_append, md, Nat.reducePow, Nat.reduceAdd, Nat.reduceMul]
    refine WL_det rfl (det_len Try.underlying35 rfl) ?_
    dsimp only [put, List.set, ev, nth, List.nil_append, List.cons_append, md, Nat.reducePow, Nat.reduceAdd, Nat.reduceMul]
    refine WL_det rfl (det_lss rfl rfl) ?_
    dsimp only [put, List.set, ev, nth, List.nil_append, List.cons_append, md, Nat.reducePow, Nat.reduceAdd, Nat.reduceMul]
    refine WL_nil ?_
    refine WC_cond rfl (fun hc0 => ?_) (fun hc0 => ?_)
    · have hc0 := of_decide_eq_true hc0
      have h1 := hf (2 * k) (by omega)
      refine WC_skip ?_
      refine WC_seq ?_
      refine WC_block ?_
      refine WC_seq ?_
      refine WC_region ?_
      refine WL_det rfl (det_move) ?_
      dsimp only [put, List.set, ev, nth, List.nil_append, List.cons_append, md, Nat.reducePow, Nat.reduceAdd, Nat.reduceMul]
      refine WL_det rfl (det_move) ?_
      dsimp only [put, List.set, ev, nth, List.nil_append, List.cons_append, md, Nat.reducePow, Nat.reduceAdd, Nat.reduceMul]
      refine WL_det rfl (det_idxS Try.underlying35 Try.sizeOf5 rfl rfl (rfl) (by omega) (hp1 (by omega))) ?_
      dsimp only [put, List.set, ev, nth, List.nil_append, List.cons_append, md, Nat.reducePow, Nat.reduceAdd, Nat.reduceMul]
      refine WL_det rfl (det_loadF Try.isAgg5 rfl (hx1 _ (by omega))) ?_
      dsimp only [put, List.set, ev, nth, List.nil_append, List.cons_append, md, Nat.reducePow, Nat.reduceAdd, Nat.reduceMul]
      refine WL_det rfl (det_convi Try.underlying3 Try.underlying5 rfl (by omega)) ?_
      dsimp only [put, List.set, ev, nth, List.nil_append, List.cons_append, md, Nat.reducePow, Nat.reduceAdd, Nat.reduceMul]
      refine WL_det rfl (det_assign) ?_
      dsimp only [put, List.set, ev, nth, List.nil_append, List.cons_append, md, Nat.reducePow, Nat.reduceAdd, Nat.reduceMul]
      refine WL_nil ?_
      refine WC_seq ?_
      refine WC_seq ?_
      refine WC_region ?_
      refine WL_det rfl (det_move) ?_
      dsimp only [put, List.set, ev, nth, List.nil_append, List.cons_append, md, Nat.reducePow, Nat.reduceAdd, Nat.reduceMul]
      refine WL_det rfl (det_addi (q := 1) rfl rfl (by omega)) ?_
      dsimp only [put, List.set, ev, nth, List.nil_append, List.cons_append, md, Nat.reducePow, Nat.reduceAdd, Nat.reduceMul]
      refine WL_det rfl (det_move) ?_
      dsimp only [put, List.set, ev, nth, List.nil_append, List.cons_append, md, Nat.reducePow, Nat.reduceAdd, Nat.reduceMul]
      refine WL_det rfl (det_len Try.underlying35 rfl) ?_
      dsimp only [put, List.set, ev, nth, List.nil_append, List.cons_append, md, Nat.reducePow, Nat.reduceAdd, Nat.reduceMul]
      refine WL_det rfl (det_lss rfl rfl) ?_
      dsimp only [put, List.set, ev, nth, List.nil_append, List.cons_append, md, Nat.reducePow, Nat.reduceAdd, Nat.reduceMul]
      refine WL_nil ?_
      refine WC_cond rfl (fun hc1 => ?_) (fun hc1 => ?_)
      · have hc1 := of_decide_eq_true hc1
        have h2 := hf (2 * k + 1) (by omega)
        refine WC_region ?_
        refine WL_det rfl (det_move) ?_
        dsimp only [put, List.set, ev, nth, List.nil_append, List.cons_append, md, Nat.reducePow, Nat.reduceAdd, Nat.reduceMul]
        refine WL_det rfl (det_move) ?_
        dsimp only [put, List.set, ev, nth, List.nil_append, List.cons_append, md, Nat.reducePow, Nat.reduceAdd, Nat.reduceMul]
        refine WL_det rfl (det_move) ?_
        dsimp only [put, List.set, ev, nth, List.nil_append, List.cons_append, md, Nat.reducePow, Nat.reduceAdd, Nat.reduceMul]
        refine WL_det rfl (det_addi (q := 1) rfl rfl (by omega)) ?_
        dsimp only [put, List.set, ev, nth, List.nil_append, List.cons_append, md, Nat.reducePow, Nat.reduceAdd, Nat.reduceMul]
        refine WL_det rfl (det_idxS Try.underlying35 Try.sizeOf5 rfl rfl (rfl) (by omega) (hp1 (by omega))) ?_
        dsimp only [put, List.set, ev, nth, List.nil_append, List.cons_append, md, Nat.reducePow, Nat.reduceAdd, Nat.reduceMul]
        refine WL_det rfl (det_loadF Try.isAgg5 rfl (hx1 _ (by omega))) ?_
        dsimp only [put, List.set, ev, nth, List.nil_append, List.cons_append, md, Nat.reducePow, Nat.reduceAdd, Nat.reduceMul]
        refine WL_det rfl (det_convi Try.underlying3 Try.underlying5 rfl (by omega)) ?_
        dsimp only [put, List.set, ev, nth, List.nil_append, List.cons_append, md, Nat.reducePow, Nat.reduceAdd, Nat.reduceMul]
        refine WL_det rfl (det_muli (p := 256) rfl rfl (by omega)) ?_
        dsimp only [put, List.set, ev, nth, List.nil_append, List.cons_append, md, Nat.reducePow, Nat.reduceAdd, Nat.reduceMul]
        refine WL_det rfl (det_addi rfl rfl (by omega)) ?_
        dsimp only [put, List.set, ev, nth, List.nil_append, List.cons_append, md, Nat.reducePow, Nat.reduceAdd, Nat.reduceMul]
        refine WL_det rfl (det_assign) ?_
        dsimp only [put, List.set, ev, nth, List.nil_append, List.cons_append, md, Nat.reducePow, Nat.reduceAdd, Nat.reduceMul]
        refine WL_nil ?_
        refine WC_region ?_
        refine WL_det rfl (det_move) ?_
        dsimp only [put, List.set, ev, nth, List.nil_append, List.cons_append, md, Nat.reducePow, Nat.reduceAdd, Nat.reduceMul]
        refine WL_det rfl (det_move) ?_
        dsimp only [put, List.set, ev, nth, List.nil_append, List.cons_append, md, Nat.reducePow, Nat.reduceAdd, Nat.reduceMul]
        refine WL_rel rfl (rel_lit1 Try.underlying47 Try.zeroValue3 Try.sizeOf3 rfl rfl) ?_
        rintro _ _ ⟨bl, rfl, rfl⟩
        dsimp only [put, List.set, ev, nth, List.nil_append, List.cons_append, md, Nat.reducePow, Nat.reduceAdd, Nat.reduceMul]
        refine WL_chg rfl (chg_append1 0 1 rfl (hr3) rfl rfl rfl rfl Try.underlying47 ei3 rfl (by omega) (by decide)) ?_
        rintro v34 _ ⟨e34, hr34, rfl⟩
        dsimp only [put, List.eraseIdx, List.set, ev, nth, List.nil_append, List.cons_append, md, Nat.reducePow, Nat.reduceAdd, Nat.reduceMul]
        have hr34 : RowN .i64 3 (k + 1) (dig (lev f n)) v34 e34 := RowN.snoc hr34 (by rw [dig_lev f n hf k hc0]; split <;> omega)
        refine WL_det rfl (det_assign) ?_
        dsimp only [put, List.set, ev, nth, List.nil_append, List.cons_append, md, Nat.reducePow, Nat.reduceAdd, Nat.reduceMul]
        refine WL_nil ?_
        refine WC_region ?_
        refine WL_det rfl (det_move) ?_
        dsimp only [put, List.set, ev, nth, List.nil_append, List.cons_append, md, Nat.reducePow, Nat.reduceAdd, Nat.reduceMul]
        refine WL_det rfl (det_addi (q := 2) rfl rfl (by omega)) ?_
        dsimp only [put, List.set, ev, nth, List.nil_append, List.cons_append, md, Nat.reducePow, Nat.reduceAdd, Nat.reduceMul]
        refine WL_det rfl (det_assign) ?_
        dsimp only [put, List.set, ev, nth, List.nil_append, List.cons_append, md, Nat.reducePow, Nat.reduceAdd, Nat.reduceMul]
        refine WL_nil ?_
        refine ⟨(k + 1, v34, e34), ?_, ?_, ?_, ?_⟩
        · rfl
        · rfl
        · exact ⟨by dsimp only; omega, hr34⟩
        · dsimp only; omega
      · have hc1 := of_decide_eq_false hc1
        refine WC_skip ?_
        refine WC_region ?_
        refine WL_det rfl (det_move) ?_
        dsimp only [put, List.set, ev, nth, List.nil_append, List.cons_append, md, Nat.reducePow, Nat.reduceAdd, Nat.reduceMul]
        refine WL_det rfl (det_move) ?_
        dsimp only [put, List.set, ev, nth, List.nil_append, List.cons_append, md, Nat.reducePow, Nat.reduceAdd, Nat.reduceMul]
        refine WL_rel rfl (rel_lit1 Try.underlying47 Try.zeroValue3 Try.sizeOf3 rfl rfl) ?_
        rintro _ _ ⟨bl, rfl, rfl⟩
        dsimp only [put, List.set, ev, nth, List.nil_append, List.cons_append, md, Nat.reducePow, Nat.reduceAdd, Nat.reduceMul]
        refine WL_chg rfl (chg_append1 0 1 rfl (hr3) rfl rfl rfl rfl Try.underlying47 ei3 rfl (by omega) (by decide)) ?_
        rintro v34 _ ⟨e34, hr34, rfl⟩
        dsimp only [put, List.eraseIdx, List.set, ev, nth, List.nil_append, List.cons_append, md, Nat.reducePow, Nat.reduceAdd, Nat.reduceMul]
        have hr34 : RowN .i64 3 (k + 1) (dig (lev f n)) v34 e34 := RowN.snoc hr34 (by rw [dig_lev f n hf k hc0]; split <;> omega)
        refine WL_det rfl (det_assign) ?_
        dsimp only [put, List.set, ev, nth, List.nil_append, List.cons_append, md, Nat.reducePow, Nat.reduceAdd, Nat.reduceMul]
        refine WL_nil ?_
        refine WC_region ?_
        refine WL_det rfl (det_move) ?_
        dsimp only [put, List.set, ev, nth, List.nil_append, List.cons_append, md, Nat.reducePow, Nat.reduceAdd, Nat.reduceMul]
        refine WL_det rfl (det_addi (q := 2) rfl rfl (by omega)) ?_
        dsimp only [put, List.set, ev, nth, List.nil_append, List.cons_append, md, Nat.reducePow, Nat.reduceAdd, Nat.reduceMul]
        refine WL_det rfl (det_assign) ?_
        dsimp only [put, List.set, ev, nth, List.nil_append, List.cons_append, md, Nat.reducePow, Nat.reduceAdd, Nat.reduceMul]
        refine WL_nil ?_
        refine ⟨(k + 1, v34, e34), ?_, ?_, ?_, ?_⟩
        · rfl
        · rfl
        · exact ⟨by dsimp only; omega, hr34⟩
        · dsimp only; omega
    · have hc0 := of_decide_eq_false hc0
      obtain rfl : (n + 1) / 2 = k := by omega
      refine WC_exit ?_
      refine inB_same ?_
      refine WC_seq ?_
      refine WC_region ?_
      refine WL_det rfl (det_move) ?_
      dsimp only [put, List.set, ev, nth, List.nil_append, List.cons_append, md, Nat.reducePow, Nat.reduceAdd, Nat.reduceMul]
      refine WL_det rfl (det_assign) ?_
      dsimp only [put, List.set, ev, nth, List.nil_append, List.cons_append, md, Nat.reducePow, Nat.reduceAdd, Nat.reduceMul]
      refine WL_nil ?_
      refine WC_ret ?_
      refine fin_tmp Try.results48 rfl ([e3]) (List.Sublist.refl _) ?_
      exact ⟨_, hr3, rfl⟩

set_option maxRecDepth 100000 in
set_option maxHeartbeats 400000 in
theorem padd_spec (A N : Nat) (hA : A < Pp) (hN : N < Pp) (va vb : Value) (w : World) (ha : Rd w .i64 10 (dig A) va) (hb : Rd w .i64 10 (dig N) vb) :
    Calls Try.prog 52 [va, vb].toArray w (Post w (fun v m => ∃ e, RowN .i64 3 10 (dig ((A + N) % Pp)) v e ∧ m = [e])) := by
  obtain ⟨p1, c1, b1, o1, rfl, hp1, hx1⟩ := ha
  obtain ⟨p2, c2, b2, o2, rfl, hp2, hx2⟩ := hb
  refine calls_of_WC Try.func52 rfl ?_
  simp only [Try.ntmps52, List.length_cons, List.length_nil, Nat.reduceAdd, Nat.reduceSub, List.replicate, List.cons_append, List.nil_append]
  refine WC_seq ?_
  refine WC_region ?_
  refine WL_det rfl (det_assign) ?_
  dsimp only [put, List.set, ev, nth, List.nil_append, List.cons_append, md, Nat.reducePow, Nat.reduceAdd, Nat.reduceMul]
  refine WL_nil ?_
  refine WC_seq ?_
  refine WC_region ?_
  refine WL_det rfl (det_assign) ?_
  dsimp only [put, List.set, ev, nth, List.nil_append, List.cons_append, md, Nat.reducePow, Nat.reduceAdd, Nat.reduceMul]
  refine WL_nil ?_
  refine WC_seq ?_
  refine WC_region ?_
  refine WL_det rfl (det_assign) ?_
  dsimp only [put, List.set, ev, nth, List.nil_append, List.cons_append, md, Nat.reducePow, Nat.reduceAdd, Nat.reduceMul]
  refine WL_nil ?_
  refine WC_seq ?_
  refine WC_seq ?_
  refine WC_region ?_
  refine WL_det rfl (det_assign) ?_
  dsimp only [put, List.set, ev, nth, List.nil_append, List.cons_append, md, Nat.reducePow, Nat.reduceAdd, Nat.reduceMul]
  refine WL_nil ?_
  refine WC_block ?_
  refine WC.addNone (.cells #[] 3 (0, 0)) ?_
  dsimp only [List.cons_append, List.nil_append]
  refine WC_loopS (ι := Nat × Value × (Option Nat × Obj)) [9, 10, 13, 14, 15, 16, 17, 18, 19, 20, 21, 22, 23, 8, 24, 25, 26, 27, 28, 29, 30, 11, 12] (fun x => [(7, vn .i64 (x.1)), (6, vn .i64 (adc A N x.1)), (5, x.2.1)]) (fun x => [(0, x.2.2)]) (fun x => x.1 ≤ 10 ∧ RowN .i64 3 x.1 (dig (A + N)) x.2.1 x.2.2) (fun x => 10 - x.1) (0, .slice none 0 0, (none, .cells #[] 3 (0, 0))) ?_ ?_ ?_ ?_
  · rw [adc_zero]
    try rfl
  · rfl
  · exact ⟨Nat.zero_le _, RowV.nil _ _ _⟩
  · rintro ⟨k, v5, e5⟩ g ⟨hk, hr5⟩
    dsimp only [setAll, setG, setM, List.set]
    dsimp only at hk hr5
    have hd1 := dig_lt A k
    have hd2 := dig_lt N k
    have hd3 := adc_lt A N k
    refine WC_seq ?_
    refine WC_seq ?_
    refine WC_region ?_
    refine WL_det rfl (det_move) ?_
    dsimp only [put, List.set, ev, nth, List.nil_append, List.cons_append, md, Nat.reducePow, Nat.reduceAdd, Nat.reduceMul]
    refine WL_det rfl (det_lss (q := 10) rfl rfl) ?_
    dsimp only [put, List.set, ev, nth, List.nil_append, List.cons_append, md, Nat.reducePow, Nat.reduceAdd, Nat.reduceMul]
    refine WL_nil ?_
    refine WC_cond rfl (fun hc0 => ?_) (fun hc0 => ?_)
    · have hc0 := of_decide_eq_true hc0
      refine WC_skip ?_
      refine WC_seq ?_
      refine WC_block ?_
      refine WC_seq ?_
      refine WC_draw [[], [], [0, 1], [0, 1, 2], [], [], [4, 5], [4, 5, 6], [0, 1, 2, 3, 4, 5, 6, 7], [], [0, 1, 2, 3, 4, 5, 6, 7, 8, 9], [0, 1, 2, 3, 4, 5, 6, 7, 8, 9, 10]] [] 33 [] (List.nil_sublist _) mixed rfl (by decide) ?_
      refine RW.pure rfl rfl (fun _ => rfl) (fun V hV => det_move) (fun _ _ _ => rfl) ?_
      dsimp only [put, List.set, ev, nth, List.nil_append, List.cons_append, md, Nat.reducePow, Nat.reduceAdd, Nat.reduceMul]
      refine RW.pure rfl rfl (fun _ => rfl) (fun V hV => det_move) (fun _ _ _ => rfl) ?_
      dsimp only [put, List.set, ev, nth, List.nil_append, List.cons_append, md, Nat.reducePow, Nat.reduceAdd, Nat.reduceMul]
      refine RW.pure rfl rfl (fun _ => rfl) (fun V hV => det_idxS Try.underlying47 Try.sizeOf3 rfl rfl (rfl) (by omega) (hp1 (by omega))) (fun _ _ _ => rfl) ?_
      dsimp only [put, List.set, ev, nth, List.nil_append, List.cons_append, md, Nat.reducePow, Nat.reduceAdd, Nat.reduceMul]
      refine RW.det [] rfl rfl rfl rfl (fun _ => rfl) (fun V hV => Det.rel (det_loadF Try.isAgg3 rfl (hx1 _ (by omega)))) (fun _ _ _ => rfl) ?_
      dsimp only [put, List.set, ev, nth, List.nil_append, List.cons_append, md, Nat.reducePow, Nat.reduceAdd, Nat.reduceMul]
      refine RW.pure rfl rfl (fun _ => rfl) (fun V hV => det_move) (fun _ _ _ => rfl) ?_
      dsimp only [put, List.set, ev, nth, List.nil_append, List.cons_append, md, Nat.reducePow, Nat.reduceAdd, Nat.reduceMul]
      refine RW.pure rfl rfl (fun _ => rfl) (fun V hV => det_move) (fun _ _ _ => rfl) ?_
      dsimp only [put, List.set, ev, nth, List.nil_append, List.cons_append, md, Nat.reducePow, Nat.reduceAdd, Nat.reduceMul]
      refine RW.pure rfl rfl (fun _ => rfl) (fun V hV => det_idxS Try.underlying47 Try.sizeOf3 rfl rfl (rfl) (by omega) (hp2 (by omega))) (fun _ _ _ => rfl) ?_
      dsimp only [put, List.set, ev, nth, List.nil_append, List.cons_append, md, Nat.reducePow, Nat.reduceAdd, Nat.reduceMul]
      refine RW.det [] rfl rfl rfl rfl (fun _ => rfl) (fun V hV => Det.rel (det_loadF Try.isAgg3 rfl (hx2 _ (by omega)))) (fun _ _ _ => rfl) ?_
      dsimp only [put, List.set, ev, nth, List.nil_append, List.cons_append, md, Nat.reducePow, Nat.reduceAdd, Nat.reduceMul]
      refine RW.pure rfl rfl (fun _ => rfl) (fun V hV => det_addi rfl rfl (by omega)) (fun _ _ _ => rfl) ?_
      dsimp only [put, List.set, ev, nth, List.nil_append, List.cons_append, md, Nat.reducePow, Nat.reduceAdd, Nat.reduceMul]
      refine RW.pure rfl rfl (fun _ => rfl) (fun V hV => det_move) (fun _ _ _ => rfl) ?_
      dsimp only [put, List.set, ev, nth, List.nil_append, List.cons_append, md, Nat.reducePow, Nat.reduceAdd, Nat.reduceMul]
      refine RW.pure rfl rfl (fun _ => rfl) (fun V hV => det_addi rfl rfl (by omega)) (fun _ _ _ => rfl) ?_
      dsimp only [put, List.set, ev, nth, List.nil_append, List.cons_append, md, Nat.reducePow, Nat.reduceAdd, Nat.reduceMul]
      refine RW.pure rfl rfl (fun _ => rfl) (fun V hV => det_assign) (fun _ _ _ => rfl) ?_
      dsimp only [put, List.set, ev, nth, List.nil_append, List.cons_append, md, Nat.reducePow, Nat.reduceAdd, Nat.reduceMul]
      refine RW.done (fun V => _ ++ flat [] V) rfl rfl (fun _ => rfl) (fun V hV => ?_)
      try dsimp only [put, blk, flat_nil, List.append_nil, List.append, List.eraseIdx, List.set, ev, nth, List.nil_append, List.cons_append, md, Nat.reducePow, Nat.reduceAdd, Nat.reduceMul]
      refine WC_seq ?_
      refine WC_region ?_
      refine WL_det rfl (det_move) ?_
      dsimp only [put, List.set, ev, nth, List.nil_append, List.cons_append, md, Nat.reducePow, Nat.reduceAdd, Nat.reduceMul]
      refine WL_det rfl (det_move) ?_
      dsimp only [put, List.set, ev, nth, List.nil_append, List.cons_append, md, Nat.reducePow, Nat.reduceAdd, Nat.reduceMul]
      refine WL_det rfl (det_remi (q := 65536) rfl rfl (by omega)) ?_
      dsimp only [put, List.set, ev, nth, List.nil_append, List.cons_append, md, Nat.reducePow, Nat.reduceAdd, Nat.reduceMul]
      refine WL_rel rfl (rel_lit1 Try.underlying47 Try.zeroValue3 Try.sizeOf3 rfl rfl) ?_
      rintro _ _ ⟨bl, rfl, rfl⟩
      dsimp only [put, List.set, ev, nth, List.nil_append, List.cons_append, md, Nat.reducePow, Nat.reduceAdd, Nat.reduceMul]
      refine WL_chg rfl (chg_append1 0 1 rfl (hr5) rfl rfl rfl rfl Try.underlying47 ei3 rfl (by omega) (by decide)) ?_
      rintro v28 _ ⟨e28, hr28, rfl⟩
      dsimp only [put, List.eraseIdx, List.set, ev, nth, List.nil_append, List.cons_append, md, Nat.reducePow, Nat.reduceAdd, Nat.reduceMul]
      have hr28 : RowN .i64 3 (k + 1) (dig (A + N)) v28 e28 := RowN.snoc hr28 (by rw [← and_ffff, ad_dig])
      refine WL_det rfl (det_assign) ?_
      dsimp only [put, List.set, ev, nth, List.nil_append, List.cons_append, md, Nat.reducePow, Nat.reduceAdd, Nat.reduceMul]
      refine WL_nil ?_
      refine WC_region ?_
      refine WL_det rfl (det_move) ?_
      dsimp only [put, List.set, ev, nth, List.nil_append, List.cons_append, md, Nat.reducePow, Nat.reduceAdd, Nat.reduceMul]
      refine WL_det rfl (det_quoi (q := 65536) rfl rfl (by omega) (.inr ⟨rfl, by omega⟩) (.inl rfl)) ?_
      dsimp only [put, List.set, ev, nth, List.nil_append, List.cons_append, md, Nat.reducePow, Nat.reduceAdd, Nat.reduceMul]
      refine WL_det rfl (det_assign) ?_
      dsimp only [put, List.set, ev, nth, List.nil_append, List.cons_append, md, Nat.reducePow, Nat.reduceAdd, Nat.reduceMul]
      refine WL_nil ?_
      refine WC_region ?_
      refine WL_det rfl (det_move) ?_
      dsimp only [put, List.set, ev, nth, List.nil_append, List.cons_append, md, Nat.reducePow, Nat.reduceAdd, Nat.reduceMul]
      refine WL_det rfl (det_addi (q := 1) rfl rfl (by omega)) ?_
      dsimp only [put, List.set, ev, nth, List.nil_append, List.cons_append, md, Nat.reducePow, Nat.reduceAdd, Nat.reduceMul]
      refine WL_det rfl (det_assign) ?_
      dsimp only [put, List.set, ev, nth, List.nil_append, List.cons_append, md, Nat.reducePow, Nat.reduceAdd, Nat.reduceMul]
      refine WL_nil ?_
      refine ⟨(k + 1, v28, e28), ?_, ?_, ?_, ?_⟩
      · rw [ad_carry]
        try rfl
      · rfl
      · exact ⟨by dsimp only; omega, hr28⟩
      · dsimp only; omega
    · have hc0 := of_decide_eq_false hc0
      obtain rfl : k = 10 := by omega
      refine WC_exit ?_
      refine inB_same ?_
      refine WC_seq ?_
      refine WC_region ?_
      refine WL_det rfl (det_move) ?_
      dsimp only [put, List.set, ev, nth, List.nil_append, List.cons_append, md, Nat.reducePow, Nat.reduceAdd, Nat.reduceMul]
      refine WL_rel rfl (Rel_call rfl Try.call47 (fun w hw => pmod_spec 10 (dig (A + N)) (fun i _ => dig_lt _ i) (by decide) _ w (Rd.row hw 0 rfl hr5))) ?_
      rintro vm _ ⟨em, hrm, rfl⟩
      rw [psum_digA _ _ (by have h1 : 2 * Pp ≤ 65536 ^ 10 := (by decide); omega)] at hrm
      dsimp only [put, List.append_nil, List.set, ev, nth, List.nil_append, List.cons_append, md, Nat.reducePow, Nat.reduceAdd, Nat.reduceMul]
      refine WL_det rfl (det_assign) ?_
      dsimp only [put, List.set, ev, nth, List.nil_append, List.cons_append, md, Nat.reducePow, Nat.reduceAdd, Nat.reduceMul]
      refine WL_nil ?_
      refine WC_ret ?_
      refine fin_tmp Try.results52 rfl ([em]) (.cons _ (List.Sublist.refl _)) ?_
      exact ⟨_, hrm, rfl⟩

set_option maxRecDepth 100000 in
set_option maxHeartbeats 400000 in
theorem pmul_spec (A N : Nat) (hA : A < Pp) (hN : N < Pp) (va vb : Value) (w : World) (ha : Rd w .i64 10 (dig A) va) (hb : Rd w .i64 10 (dig N) vb) :
    Calls Try.prog 54 [va, vb].toArray w (Post w (fun v m => ∃ e, RowN .i64 3 10 (dig (A * N % Pp)) v e ∧ m = [e])) := by
  obtain ⟨p1, c1, b1, o1, rfl, hp1, hx1⟩ := ha
  obtain ⟨p2, c2, b2, o2, rfl, hp2, hx2⟩ := hb
  refine calls_of_WC Try.func54 rfl ?_
  simp only [Try.ntmps54, List.length_cons, List.length_nil, Nat.reduceAdd, Nat.reduceSub, List.replicate, List.cons_append, List.nil_append]
  refine WC_seq ?_
  refine WC_region ?_
  refine WL_det rfl (det_assign) ?_
  dsimp only [put, List.set, ev, nth, List.nil_append, List.cons_append, md, Nat.reducePow, Nat.reduceAdd, Nat.reduceMul]
  refine WL_nil ?_
  refine WC_seq ?_
  refine WC_region ?_
  refine WL_rel rfl (rel_make Try.underlying47 ei3 rfl rfl (by decide) (by decide)) ?_
  rintro _ _ ⟨b0, rfl, rfl⟩
  dsimp only [put, List.set, ev, nth, List.nil_append, List.cons_append, md, Nat.reducePow, Nat.reduceAdd, Nat.reduceMul]
  refine WL_det rfl (det_assign) ?_
  dsimp only [put, List.set, ev, nth, List.nil_append, List.cons_append, md, Nat.reducePow, Nat.reduceAdd, Nat.reduceMul]
  refine WL_nil ?_
  refine WC_seq ?_
  refine WC_seq ?_
  refine WC_region ?_
  refine WL_det rfl (det_assign) ?_
  dsimp only [put, List.set, ev, nth, List.nil_append, List.cons_append, md, Nat.reducePow, Nat.reduceAdd, Nat.reduceMul]
  refine WL_nil ?_
  refine WC_block ?_
  refine WC_loopS (ι := Nat) [11, 12, 7, 8, 15, 16, 19, 20, 21, 22, 23, 24, 25, 26, 27, 28, 29, 30, 31, 32, 33, 34, 35, 36, 9, 37, 38, 39, 40, 41, 42, 43, 44, 45, 17, 18, 46, 47, 48, 49, 50, 51, 52, 53, 54, 55, 56, 13, 14] (fun i => [(6, vn .i64 (i))]) (fun i => [(0, (some b0, .cells (arr .i64 20 (dig (prw A N i))) 3 (0, 0)))]) (fun i => i ≤ 10) (fun i => 10 - i) 0 ?_ ?_ ?_ ?_
  · rfl
  · rw [prw_zero, arr_congr (f := dig 0) (g := fun _ => 0) (fun i _ => dig_zero i)]
    try rfl
  · exact (by omega)
  · intro i g hI
    dsimp only [setAll, setG, setM, List.set]
    have hdi := dig_lt A i
    refine WC_seq ?_
    refine WC_seq ?_
    refine WC_region ?_
    refine WL_det rfl (det_move) ?_
    dsimp only [put, List.set, ev, nth, List.nil_append, List.cons_append, md, Nat.reducePow, Nat.reduceAdd, Nat.reduceMul]
    refine WL_det rfl (det_lss (q := 10) rfl rfl) ?_
    dsimp only [put, List.set, ev, nth, List.nil_append, List.cons_append, md, Nat.reducePow, Nat.reduceAdd, Nat.reduceMul]
    refine WL_nil ?_
    refine WC_cond rfl (fun hc0 => ?_) (fun hc0 => ?_)
    · have hc0 := of_decide_eq_true hc0
      refine WC_skip ?_
      refine WC_seq ?_
      refine WC_block ?_
      refine WC_seq ?_
      refine WC_region ?_
      refine WL_det rfl (det_assign) ?_
      dsimp only [put, List.set, ev, nth, List.nil_append, List.cons_append, md, Nat.reducePow, Nat.reduceAdd, Nat.reduceMul]
      refine WL_nil ?_
      refine WC_seq ?_
      refine WC_seq ?_
      refine WC_region ?_
      refine WL_det rfl (det_assign) ?_
      dsimp only [put, List.set, ev, nth, List.nil_append, List.cons_append, md, Nat.reducePow, Nat.reduceAdd, Nat.reduceMul]
      refine WL_nil ?_
      refine WC_block ?_
      refine WC_loopS (ι := Nat) [15, 16, 19, 20, 21, 22, 23, 24, 25, 26, 27, 28, 29, 30, 31, 32, 33, 34, 35, 36, 9, 37, 38, 39, 40, 41, 42, 43, 44, 45, 17, 18] (fun j => [(8, vn .i64 (j)), (7, vn .i64 (prc A N i j))]) (fun j => [(0, (some b0, .cells (arr .i64 20 (prf A N i j)) 3 (0, 0)))]) (fun j => j ≤ 10) (fun j => 10 - j) 0 ?_ ?_ ?_ ?_
      · rw [show prc A N i 0 = 0 from mac_zero _ _ _]
        try rfl
      · rw [prf_zero]
        try rfl
      · exact (by omega)
      · intro j g hI
        dsimp only [setAll, setG, setM, List.set]
        have hdj := dig_lt N j
        have hpf : prf A N i j (i + j) < 65536 := by rw [prf_at]; exact dig_lt _ _
        have hcc : prc A N i j < 65536 := mac_lt _ _ _ _ hdi
        have hpr : dig A i * dig N j ≤ 4294836225 := (by have := Nat.mul_le_mul (show dig A i ≤ 65535 by omega) (show dig N j ≤ 65535 by omega); omega)
        refine WC_seq ?_
        refine WC_seq ?_
        refine WC_region ?_
        refine WL_det rfl (det_move) ?_
        dsimp only [put, List.set, ev, nth, List.nil_append, List.cons_append, md, Nat.reducePow, Nat.reduceAdd, Nat.reduceMul]
        refine WL_det rfl (det_lss (q := 10) rfl rfl) ?_
        dsimp only [put, List.set, ev, nth, List.nil_append, List.cons_append, md, Nat.reducePow, Nat.reduceAdd, Nat.reduceMul]
        refine WL_nil ?_
        refine WC_cond rfl (fun hc1 => ?_) (fun hc1 => ?_)
        · have hc1 := of_decide_eq_true hc1
          refine WC_skip ?_
          refine WC_seq ?_
          refine WC_block ?_
          refine WC_seq ?_
          refine WC_draw [[], [], [], [1, 2], [0, 1, 2, 3], [0, 1, 2, 3, 4], [], [], [6, 7], [6, 7, 8], [], [], [10, 11], [10, 11, 12], [6, 7, 8, 9, 10, 11, 12, 13], [0, 1, 2, 3, 4, 5, 6, 7, 8, 9, 10, 11, 12, 13, 14], [], [0, 1, 2, 3, 4, 5, 6, 7, 8, 9, 10, 11, 12, 13, 14, 15, 16], [0, 1, 2, 3, 4, 5, 6, 7, 8, 9, 10, 11, 12, 13, 14, 15, 16, 17]] [] 59 [] (List.nil_sublist _) mixed rfl (by decide) ?_
          refine RW.pure rfl rfl (fun _ => rfl) (fun V hV => det_move) (fun _ _ _ => rfl) ?_
          dsimp only [put, List.set, ev, nth, List.nil_append, List.cons_append, md, Nat.reducePow, Nat.reduceAdd, Nat.reduceMul]
          refine RW.pure rfl rfl (fun _ => rfl) (fun V hV => det_move) (fun _ _ _ => rfl) ?_
          dsimp only [put, List.set, ev, nth, List.nil_append, List.cons_append, md, Nat.reducePow, Nat.reduceAdd, Nat.reduceMul]
          refine RW.pure rfl rfl (fun _ => rfl) (fun V hV => det_move) (fun _ _ _ => rfl) ?_
          dsimp only [put, List.set, ev, nth, List.nil_append, List.cons_append, md, Nat.reducePow, Nat.reduceAdd, Nat.reduceMul]
          refine RW.pure rfl rfl (fun _ => rfl) (fun V hV => det_addi rfl rfl (by omega)) (fun _ _ _ => rfl) ?_
          dsimp only [put, List.set, ev, nth, List.nil_append, List.cons_append, md, Nat.reducePow, Nat.reduceAdd, Nat.reduceMul]
          refine RW.pure rfl rfl (fun _ => rfl) (fun V hV => det_idxS0 Try.underlying47 Try.sizeOf3 rfl rfl (rfl) (by omega)) (fun _ _ _ => rfl) ?_
          dsimp only [put, List.set, ev, nth, List.nil_append, List.cons_append, md, Nat.reducePow, Nat.reduceAdd, Nat.reduceMul]
          refine RW.det [] rfl rfl rfl rfl (fun _ => rfl) (fun V hV => Det.rel (det_loadA 0 Try.isAgg3 rfl rfl (by omega))) (fun _ _ _ => rfl) ?_
          dsimp only [put, List.set, ev, nth, List.nil_append, List.cons_append, md, Nat.reducePow, Nat.reduceAdd, Nat.reduceMul]
          refine RW.pure rfl rfl (fun _ => rfl) (fun V hV => det_move) (fun _ _ _ => rfl) ?_
          dsimp only [put, List.set, ev, nth, List.nil_append, List.cons_append, md, Nat.reducePow, Nat.reduceAdd, Nat.reduceMul]
          refine RW.pure rfl rfl (fun _ => rfl) (fun V hV => det_move) (fun _ _ _ => rfl) ?_
          dsimp only [put, List.set, ev, nth, List.nil_append, List.cons_append, md, Nat.reducePow, Nat.reduceAdd, Nat.reduceMul]
          refine RW.pure rfl rfl (fun _ => rfl) (fun V hV => det_idxS Try.underlying47 Try.sizeOf3 rfl rfl (rfl) (by omega) (hp1 (by omega))) (fun _ _ _ => rfl) ?_
          dsimp only [put, List.set, ev, nth, List.nil_append, List.cons_append, md, Nat.reducePow, Nat.reduceAdd, Nat.reduceMul]
          refine RW.det [] rfl rfl rfl rfl (fun _ => rfl) (fun V hV => Det.rel (det_loadF Try.isAgg3 rfl (hx1 _ (by omega)))) (fun _ _ _ => rfl) ?_
          dsimp only [put, List.set, ev, nth, List.nil_append, List.cons_append, md, Nat.reducePow, Nat.reduceAdd, Nat.reduceMul]
          refine RW.pure rfl rfl (fun _ => rfl) (fun V hV => det_move) (fun _ _ _ => rfl) ?_
          dsimp only [put, List.set, ev, nth, List.nil_append, List.cons_append, md, Nat.reducePow, Nat.reduceAdd, Nat.reduceMul]
          refine RW.pure rfl rfl (fun _ => rfl) (fun V hV => det_move) (fun _ _ _ => rfl) ?_
          dsimp only [put, List.set, ev, nth, List.nil_append, List.cons_append, md, Nat.reducePow, Nat.reduceAdd, Nat.reduceMul]
          refine RW.pure rfl rfl (fun _ => rfl) (fun V hV => det_idxS Try.underlying47 Try.sizeOf3 rfl rfl (rfl) (by omega) (hp2 (by omega))) (fun _ _ _ => rfl) ?_
          dsimp only [put, List.set, ev, nth, List.nil_append, List.cons_append, md, Nat.reducePow, Nat.reduceAdd, Nat.reduceMul]
          refine RW.det [] rfl rfl rfl rfl (fun _ => rfl) (fun V hV => Det.rel (det_loadF Try.isAgg3 rfl (hx2 _ (by omega)))) (fun _ _ _ => rfl) ?_
          dsimp only [put, List.set, ev, nth, List.nil_append, List.cons_append, md, Nat.reducePow, Nat.reduceAdd, Nat.reduceMul]
          refine RW.pure rfl rfl (fun _ => rfl) (fun V hV => det_muli rfl rfl (by omega)) (fun _ _ _ => rfl) ?_
          dsimp only [put, List.set, ev, nth, List.nil_append, List.cons_append, md, Nat.reducePow, Nat.reduceAdd, Nat.reduceMul]
          refine RW.pure rfl rfl (fun _ => rfl) (fun V hV => det_addi rfl rfl (by omega)) (fun _ _ _ => rfl) ?_
          dsimp only [put, List.set, ev, nth, List.nil_append, List.cons_append, md, Nat.reducePow, Nat.reduceAdd, Nat.reduceMul]
          refine RW.pure rfl rfl (fun _ => rfl) (fun V hV => det_move) (fun _ _ _ => rfl) ?_
          dsimp only [put, List.set, ev, nth, List.nil_append, List.cons_append, md, Nat.reducePow, Nat.reduceAdd, Nat.reduceMul]
          refine RW.pure rfl rfl (fun _ => rfl) (fun V hV => det_addi rfl rfl (by omega)) (fun _ _ _ => rfl) ?_
          dsimp only [put, List.set, ev, nth, List.nil_append, List.cons_append, md, Nat.reducePow, Nat.reduceAdd, Nat.reduceMul]
          refine RW.pure rfl rfl (fun _ => rfl) (fun V hV => det_assign) (fun _ _ _ => rfl) ?_
          dsimp only [put, List.set, ev, nth, List.nil_append, List.cons_append, md, Nat.reducePow, Nat.reduceAdd, Nat.reduceMul]
          refine RW.done (fun V => _ ++ flat [] V) rfl rfl (fun _ => rfl) (fun V hV => ?_)
          try dsimp only [put, blk, flat_nil, List.append_nil, List.append, List.eraseIdx, List.set, ev, nth, List.nil_append, List.cons_append, md, Nat.reducePow, Nat.reduceAdd, Nat.reduceMul]
          refine WC_seq ?_
          refine WC_region ?_
          refine WL_det rfl (det_move) ?_
          dsimp only [put, List.set, ev, nth, List.nil_append, List.cons_append, md, Nat.reducePow, Nat.reduceAdd, Nat.reduceMul]
          refine WL_det rfl (det_move) ?_
          dsimp only [put, List.set, ev, nth, List.nil_append, List.cons_append, md, Nat.reducePow, Nat.reduceAdd, Nat.reduceMul]
          refine WL_det rfl (det_move) ?_
          dsimp only [put, List.set, ev, nth, List.nil_append, List.cons_append, md, Nat.reducePow, Nat.reduceAdd, Nat.reduceMul]
          refine WL_det rfl (det_addi rfl rfl (by omega)) ?_
          dsimp only [put, List.set, ev, nth, List.nil_append, List.cons_append, md, Nat.reducePow, Nat.reduceAdd, Nat.reduceMul]
          refine WL_det rfl (det_move) ?_
          dsimp only [put, List.set, ev, nth, List.nil_append, List.cons_append, md, Nat.reducePow, Nat.reduceAdd, Nat.reduceMul]
          refine WL_det rfl (det_remi (q := 65536) rfl rfl (by omega)) ?_
          dsimp only [put, List.set, ev, nth, List.nil_append, List.cons_append, md, Nat.reducePow, Nat.reduceAdd, Nat.reduceMul]
          refine WL_det rfl (det_idxS0 Try.underlying47 Try.sizeOf3 rfl rfl (rfl) (by omega)) ?_
          dsimp only [put, List.set, ev, nth, List.nil_append, List.cons_append, md, Nat.reducePow, Nat.reduceAdd, Nat.reduceMul]
          refine WL_chg rfl (chg_storeA 0 Try.sizeOf3 rfl rfl (by omega) rfl) ?_
          rintro _ _ rfl
          dsimp only [put, List.set, ev, nth, List.nil_append, List.cons_append, md, Nat.reducePow, Nat.reduceAdd, Nat.reduceMul]
          refine WL_nil ?_
          refine WC_region ?_
          refine WL_det rfl (det_move) ?_
          dsimp only [put, List.set, ev, nth, List.nil_append, List.cons_append, md, Nat.reducePow, Nat.reduceAdd, Nat.reduceMul]
          refine WL_det rfl (det_quoi (q := 65536) rfl rfl (by omega) (.inr ⟨rfl, by omega⟩) (.inl rfl)) ?_
          dsimp only [put, List.set, ev, nth, List.nil_append, List.cons_append, md, Nat.reducePow, Nat.reduceAdd, Nat.reduceMul]
          refine WL_det rfl (det_assign) ?_
          dsimp only [put, List.set, ev, nth, List.nil_append, List.cons_append, md, Nat.reducePow, Nat.reduceAdd, Nat.reduceMul]
          refine WL_nil ?_
          refine WC_region ?_
          refine WL_det rfl (det_move) ?_
          dsimp only [put, List.set, ev, nth, List.nil_append, List.cons_append, md, Nat.reducePow, Nat.reduceAdd, Nat.reduceMul]
          refine WL_det rfl (det_addi (q := 1) rfl rfl (by omega)) ?_
          dsimp only [put, List.set, ev, nth, List.nil_append, List.cons_append, md, Nat.reducePow, Nat.reduceAdd, Nat.reduceMul]
          refine WL_det rfl (det_assign) ?_
          dsimp only [put, List.set, ev, nth, List.nil_append, List.cons_append, md, Nat.reducePow, Nat.reduceAdd, Nat.reduceMul]
          refine WL_nil ?_
          refine ⟨j + 1, ?_, ?_, ?_, ?_⟩
          · rw [pr_carry]
            try rfl
          · rw [pr_dig, prf_succ]
            try rfl
          · omega
          · omega
        · have hc1 := of_decide_eq_false hc1
          obtain rfl : j = 10 := by omega
          have hpf16 : prf A N i 10 (i + 10) < 65536 := by rw [prf_at]; exact dig_lt _ _
          refine WC_exit ?_
          refine inB_same ?_
          refine WC_region ?_
          refine WL_det rfl (det_move) ?_
          dsimp only [put, List.set, ev, nth, List.nil_append, List.cons_append, md, Nat.reducePow, Nat.reduceAdd, Nat.reduceMul]
          refine WL_det rfl (det_move) ?_
          dsimp only [put, List.set, ev, nth, List.nil_append, List.cons_append, md, Nat.reducePow, Nat.reduceAdd, Nat.reduceMul]
          refine WL_det rfl (det_addi (q := 10) rfl rfl (by omega)) ?_
          dsimp only [put, List.set, ev, nth, List.nil_append, List.cons_append, md, Nat.reducePow, Nat.reduceAdd, Nat.reduceMul]
          refine WL_det rfl (det_move) ?_
          dsimp only [put, List.set, ev, nth, List.nil_append, List.cons_append, md, Nat.reducePow, Nat.reduceAdd, Nat.reduceMul]
          refine WL_det rfl (det_move) ?_
          dsimp only [put, List.set, ev, nth, List.nil_append, List.cons_append, md, Nat.reducePow, Nat.reduceAdd, Nat.reduceMul]
          refine WL_det rfl (det_addi (q := 10) rfl rfl (by omega)) ?_
          dsimp only [put, List.set, ev, nth, List.nil_append, List.cons_append, md, Nat.reducePow, Nat.reduceAdd, Nat.reduceMul]
          refine WL_det rfl (det_idxS0 Try.underlying47 Try.sizeOf3 rfl rfl (rfl) (by omega)) ?_
          dsimp only [put, List.set, ev, nth, List.nil_append, List.cons_append, md, Nat.reducePow, Nat.reduceAdd, Nat.reduceMul]
          refine WL_det rfl (det_loadA 0 Try.isAgg3 rfl rfl (by omega)) ?_
          dsimp only [put, List.set, ev, nth, List.nil_append, List.cons_append, md, Nat.reducePow, Nat.reduceAdd, Nat.reduceMul]
          refine WL_det rfl (det_move) ?_
          dsimp only [put, List.set, ev, nth, List.nil_append, List.cons_append, md, Nat.reducePow, Nat.reduceAdd, Nat.reduceMul]
          refine WL_det rfl (det_addi rfl rfl (by omega)) ?_
          dsimp only [put, List.set, ev, nth, List.nil_append, List.cons_append, md, Nat.reducePow, Nat.reduceAdd, Nat.reduceMul]
          refine WL_det rfl (det_idxS0 Try.underlying47 Try.sizeOf3 rfl rfl (rfl) (by omega)) ?_
          dsimp only [put, List.set, ev, nth, List.nil_append, List.cons_append, md, Nat.reducePow, Nat.reduceAdd, Nat.reduceMul]
          refine WL_chg rfl (chg_storeA 0 Try.sizeOf3 rfl rfl (by omega) rfl) ?_
          rintro _ _ rfl
          dsimp only [put, List.set, ev, nth, List.nil_append, List.cons_append, md, Nat.reducePow, Nat.reduceAdd, Nat.reduceMul]
          refine WL_nil ?_
          refine WC_region ?_
          refine WL_det rfl (det_move) ?_
          dsimp only [put, List.set, ev, nth, List.nil_append, List.cons_append, md, Nat.reducePow, Nat.reduceAdd, Nat.reduceMul]
          refine WL_det rfl (det_addi (q := 1) rfl rfl (by omega)) ?_
          dsimp only [put, List.set, ev, nth, List.nil_append, List.cons_append, md, Nat.reducePow, Nat.reduceAdd, Nat.reduceMul]
          refine WL_det rfl (det_assign) ?_
          dsimp only [put, List.set, ev, nth, List.nil_append, List.cons_append, md, Nat.reducePow, Nat.reduceAdd, Nat.reduceMul]
          refine WL_nil ?_
          refine ⟨i + 1, ?_, ?_, ?_, ?_⟩
          · rfl
          · rw [pr_last A N i (P10' hN)]
            try rfl
          · omega
          · omega
    · have hc0 := of_decide_eq_false hc0
      obtain rfl : i = 10 := by omega
      rw [prw_full A N (P10' hA)]
      refine WC_exit ?_
      refine inB_same ?_
      refine WC_seq ?_
      refine WC_region ?_
      refine WL_det rfl (det_move) ?_
      dsimp only [put, List.set, ev, nth, List.nil_append, List.cons_append, md, Nat.reducePow, Nat.reduceAdd, Nat.reduceMul]
      refine WL_rel rfl (Rel_call rfl Try.call47 (fun w hw => pmod_spec 20 (dig (A * N)) (fun i _ => dig_lt _ i) (by decide) _ w (Rd.arr hw 0 rfl (Nat.le_refl _)))) ?_
      rintro vm _ ⟨em, hrm, rfl⟩
      rw [psum_digA _ _ (Nat.mul_lt_mul_of_lt_of_le (P10' hA) (Nat.le_of_lt (P10' hN)) (by decide))] at hrm
      dsimp only [put, List.append_nil, List.set, ev, nth, List.nil_append, List.cons_append, md, Nat.reducePow, Nat.reduceAdd, Nat.reduceMul]
      refine WL_det rfl (det_assign) ?_
      dsimp only [put, List.set, ev, nth, List.nil_append, List.cons_append, md, Nat.reducePow, Nat.reduceAdd, Nat.reduceMul]
      refine WL_nil ?_
      refine WC_ret ?_
      refine fin_tmp Try.results54 rfl ([em]) (.cons _ (List.Sublist.refl _)) ?_
      exact ⟨_, hrm, rfl⟩

end Go.Proofs.Ytpmldkhgdpchjaa

set_option linter.unusedVariables false
namespace Go.Proofs.Ytpmldkhgdpchjaa
open Go.MW
def sameB (n : Nat) (f : Nat → Nat) (n2 : Nat) (g : Nat → Nat) : Bool := decide (n = n2) && eqA n f g
theorem sameB_len {n n2 : Nat} {f g : Nat → Nat} (h : ¬ n = n2) : sameB n f n2 g = false := by simp [sameB, h]
theorem sameB_ne {n i : Nat} {f g : Nat → Nat} (hi : i < n) (h : ¬ f i = g i) : sameB n f n g = false := by
  unfold sameB
  have : eqA n f g = false := by
    cases hh : eqA n f g with
    | false => rfl
    | true => exact absurd (eqA_iff.1 hh i hi) h
  rw [this, Bool.and_false]
theorem sameB_eq {n : Nat} {f g : Nat → Nat} (h : ∀ i, i < n → f i = g i) : sameB n f n g = true := by
  unfold sameB; rw [eqA_iff.2 h]; simp
def accN (F : Nat → Nat) (N R : Nat) : Nat → Nat
  | 0 => 0
  | k + 1 => (accN F N R k + pieceN F N k % Pp) % Pp * R % Pp
theorem accN_lt (F : Nat → Nat) (N R k : Nat) : accN F N R k < Pp := by
  cases k with
  | zero => exact Pp_pos
  | succ k => exact Nat.mod_lt _ Pp_pos
theorem accN_tagX (F : Nat → Nat) (N R k : Nat) (hF : ∀ i, i < N → F i < 256) (hR : R < Pp) : tagX F N R k % Pp = accN F N R k := by
  induction k with
  | zero => rfl
  | succ k ih =>
    rw [tagX_mod F N R k hF hR, accN, ← ih]
    simp only [Nat.mod_mul_mod, Nat.mod_add_mod, Nat.add_mod_mod]
theorem lev_pg (G : Nat → Nat) (m : Nat) : lev (fun j => if j < m then G j else 1) (m + 1) = lev G m + 256 ^ m := by
  have h1 : lev (fun j => if j < m then G j else 1) m = lev G m := lev_ext m fun j hj => by simp [hj]
  simp only [lev]; rw [h1]; simp
theorem half_lt {V m : Nat} (h : V < 256 ^ m) : V < 65536 ^ ((m + 1) / 2) := by
  rw [pow2]; exact Nat.lt_of_lt_of_le h (Nat.pow_le_pow_right (by decide) (by omega))
theorem pieceN_le (F : Nat → Nat) (N k : Nat) (hF : ∀ i, i < N → F i < 256) : pieceN F N k < 256 ^ (min (N - 16 * k) 16 + 1) := by
  unfold pieceN
  have h1 := lev_lt (fun i => F (16 * k + i)) (min (N - 16 * k) 16) fun i hi => hF _ (by omega)
  rw [Nat.pow_succ]; omega
theorem tagS_eq (K : Nat) : tagS K = lev (fun j => byt K (16 + j)) 16 := by
  unfold tagS
  exact Nat.mod_eq_of_lt (Nat.lt_trans (lev_lt _ 16 fun i _ => byt_lt K _) (by decide))
theorem ad_step (A N k : Nat) : upd (upd (fun i => if i < 2 * k then byt (A + N) i else 0) (2 * k) ((dig A k + dig N k + adc A N k) % 256)) (2 * k + 1) ((dig A k + dig N k + adc A N k) / 256 % 256) = fun j => if j < 2 * (k + 1) then byt (A + N) j else 0 := by
  have h := ad_dig A N k
  rw [and_ffff] at h
  have e1 : (dig A k + dig N k + adc A N k) % 256 = (dig A k + dig N k + adc A N k) % 65536 % 256 := by omega
  have e2 : (dig A k + dig N k + adc A N k) / 256 % 256 = (dig A k + dig N k + adc A N k) % 65536 / 256 % 256 := by omega
  rw [← bytes_step, ← h, e1, e2]
theorem accZ (F : Nat → Nat) (N K : Nat) (hF : ∀ i, i < N → F i < 256) : accN F N (tagR K) ((N + 15) / 16) + lev (fun j => byt K (16 + j)) 16 = tagZ F N K := by
  unfold tagZ; rw [accN_tagX F N _ _ hF (tagR_lt K), tagS_eq]

set_option maxRecDepth 100000 in
set_option maxHeartbeats 400000 in
theorem same_spec (n n2 : Nat) (f g : Nat → Nat) (va vb : Value) (w : World) (ha : Rd w .u8 n f va) (hb : Rd w .u8 n2 g vb) (hn : n ≤ maxLen) :
    Calls Try.prog 20 [va, vb].toArray w (PostV w (.bool (sameB n f n2 g))) := by
  obtain ⟨p1, c1, b1, o1, rfl, hp1, hx1⟩ := ha
  obtain ⟨p2, c2, b2, o2, rfl, hp2, hx2⟩ := hb
  simp only [maxLen] at hn
  refine calls_of_WC Try.func20 rfl ?_
  simp only [Try.ntmps20, List.length_cons, List.length_nil, Nat.reduceAdd, Nat.reduceSub, List.replicate, List.cons_append, List.nil_append]
  refine WC_seq ?_
  refine WC_region ?_
  refine WL_det rfl (det_assign) ?_
  dsimp only [put, List.set, ev, nth, List.nil_append, List.cons_append, md, Nat.reducePow, Nat.reduceAdd, Nat.reduceMul]
  refine WL_nil ?_
  refine WC_seq ?_
  refine WC_seq ?_
  refine WC_region ?_
  refine WL_det rfl (det_move) ?_
  dsimp only [put, List.set, ev, nth, List.nil_append, List.cons_append, md, Nat.reducePow, Nat.reduceAdd, Nat.reduceMul]
  refine WL_det rfl (det_len Try.underlying35 rfl) ?_
  dsimp only [put, List.set, ev, nth, List.nil_append, List.cons_append, md, Nat.reducePow, Nat.reduceAdd, Nat.reduceMul]
  refine WL_det rfl (det_move) ?_
  dsimp only [put, List.set, ev, nth, List.nil_append, List.cons_append, md, Nat.reducePow, Nat.reduceAdd, Nat.reduceMul]
  refine WL_det rfl (det_len Try.underlying35 rfl) ?_
  dsimp only [put, List.set, ev, nth, List.nil_append, List.cons_append, md, Nat.reducePow, Nat.reduceAdd, Nat.reduceMul]
  refine WL_det rfl (det_neq rfl rfl) ?_
  dsimp only [put, List.set, ev, nth, List.nil_append, List.cons_append, md, Nat.reducePow, Nat.reduceAdd, Nat.reduceMul]
  refine WL_nil ?_
  refine WC_cond rfl (fun hc0 => ?_) (fun hc0 => ?_)
  · have hc0 : ¬ n = n2 := by simpa using hc0
    refine WC_seq ?_
    refine WC_region ?_
    refine WL_det rfl (det_assign) ?_
    dsimp only [put, List.set, ev, nth, List.nil_append, List.cons_append, md, Nat.reducePow, Nat.reduceAdd, Nat.reduceMul]
    refine WL_nil ?_
    refine WC_ret ?_
    refine fin_tmp Try.results20 rfl ([]) (List.nil_sublist _) ?_
    exact ⟨by first | (rw [sameB_len hc0]; rfl) | (rw [sameB_ne hc1 hc2]; rfl) | (rw [sameB_eq (fun j hj => hall j (by omega))]; rfl), rfl⟩
  · have hc0 : n = n2 := by simpa using hc0
    subst hc0
    refine WC_skip ?_
    refine WC_seq ?_
    refine WC_seq ?_
    refine WC_region ?_
    refine WL_det rfl (det_assign) ?_
    dsimp only [put, List.set, ev, nth, List.nil_append, List.cons_append, md, Nat.reducePow, Nat.reduceAdd, Nat.reduceMul]
    refine WL_nil ?_
    refine WC_block ?_
    refine WC_loopS (ι := Nat) [11, 12, 13, 14, 17, 18, 19, 20, 21, 22, 23, 24, 25, 4, 15, 16] (fun i => [(5, vn .i64 (i))]) (fun i => []) (fun i => i ≤ n ∧ ∀ j, j < i → f j = g j) (fun i => n - i) 0 ?_ ?_ ?_ ?_
    · rfl
    · rfl
    · exact ⟨Nat.zero_le _, fun j hj => by omega⟩
    · rintro i g' ⟨hi, hall⟩
      dsimp only [setAll, setG, setM, List.set]
      refine WC_seq ?_
      refine WC_seq ?_
      refine WC_region ?_
      refine WL_det rfl (det_move) ?_
      dsimp only [put, List.set, ev, nth, List.nil_append, List.cons_append, md, Nat.reducePow, Nat.reduceAdd, Nat.reduceMul]
      refine WL_det rfl (det_move) ?_
      dsimp only [put, List.set, ev, nth, List.nil_append, List.cons_append, md, Nat.reducePow, Nat.reduceAdd, Nat.reduceMul]
      refine WL_det rfl (det_len Try.underlying35 rfl) ?_
      dsimp only [put, List.set, ev, nth, List.nil_append, List.cons_append, md, Nat.reducePow, Nat.reduceAdd, Nat.reduceMul]
      refine WL_det rfl (det_lss rfl rfl) ?_
      dsimp only [put, List.set, ev, nth, List.nil_append, List.cons_append, md, Nat.reducePow, Nat.reduceAdd, Nat.reduceMul]
      refine WL_nil ?_
      refine WC_cond rfl (fun hc1 => ?_) (fun hc1 => ?_)
      · have hc1 := of_decide_eq_true hc1
        refine WC_skip ?_
        refine WC_seq ?_
        refine WC_block ?_
        refine WC_seq ?_
        refine WC_draw [[], [], [0, 1], [0, 1, 2], [], [], [4, 5], [4, 5, 6], [0, 1, 2, 3, 4, 5, 6, 7]] [] 26 [] (List.nil_sublist _) mixed rfl (by decide) ?_
        refine RW.pure rfl rfl (fun _ => rfl) (fun V hV => det_move) (fun _ _ _ => rfl) ?_
        dsimp only [put, List.set, ev, nth, List.nil_append, List.cons_append, md, Nat.reducePow, Nat.reduceAdd, Nat.reduceMul]
        refine RW.pure rfl rfl (fun _ => rfl) (fun V hV => det_move) (fun _ _ _ => rfl) ?_
        dsimp only [put, List.set, ev, nth, List.nil_append, List.cons_append, md, Nat.reducePow, Nat.reduceAdd, Nat.reduceMul]
        refine RW.pure rfl rfl (fun _ => rfl) (fun V hV => det_idxS Try.underlying35 Try.sizeOf5 rfl rfl (rfl) (by omega) (hp1 (by omega))) (fun _ _ _ => rfl) ?_
        dsimp only [put, List.set, ev, nth, List.nil_append, List.cons_append, md, Nat.reducePow, Nat.reduceAdd, Nat.reduceMul]
        refine RW.det [] rfl rfl rfl rfl (fun _ => rfl) (fun V hV => Det.rel (det_loadF Try.isAgg5 rfl (hx1 _ (by omega)))) (fun _ _ _ => rfl) ?_
        dsimp only [put, List.set, ev, nth, List.nil_append, List.cons_append, md, Nat.reducePow, Nat.reduceAdd, Nat.reduceMul]
        refine RW.pure rfl rfl (fun _ => rfl) (fun V hV => det_move) (fun _ _ _ => rfl) ?_
        dsimp only [put, List.set, ev, nth, List.nil_append, List.cons_append, md, Nat.reducePow, Nat.reduceAdd, Nat.reduceMul]
        refine RW.pure rfl rfl (fun _ => rfl) (fun V hV => det_move) (fun _ _ _ => rfl) ?_
        dsimp only [put, List.set, ev, nth, List.nil_append, List.cons_append, md, Nat.reducePow, Nat.reduceAdd, Nat.reduceMul]
        refine RW.pure rfl rfl (fun _ => rfl) (fun V hV => det_idxS Try.underlying35 Try.sizeOf5 rfl rfl (rfl) (by omega) (hp2 (by omega))) (fun _ _ _ => rfl) ?_
        dsimp only [put, List.set, ev, nth, List.nil_append, List.cons_append, md, Nat.reducePow, Nat.reduceAdd, Nat.reduceMul]
        refine RW.det [] rfl rfl rfl rfl (fun _ => rfl) (fun V hV => Det.rel (det_loadF Try.isAgg5 rfl (hx2 _ (by omega)))) (fun _ _ _ => rfl) ?_
        dsimp only [put, List.set, ev, nth, List.nil_append, List.cons_append, md, Nat.reducePow, Nat.reduceAdd, Nat.reduceMul]
        refine RW.pure rfl rfl (fun _ => rfl) (fun V hV => det_neq rfl rfl) (fun _ _ _ => rfl) ?_
        dsimp only [put, List.set, ev, nth, List.nil_append, List.cons_append, md, Nat.reducePow, Nat.reduceAdd, Nat.reduceMul]
        refine RW.done (fun V => _ ++ flat [] V) rfl rfl (fun _ => rfl) (fun V hV => ?_)
        try dsimp only [put, blk, flat_nil, List.append_nil, List.append, List.eraseIdx, List.set, ev, nth, List.nil_append, List.cons_append, md, Nat.reducePow, Nat.reduceAdd, Nat.reduceMul]
        refine WC_cond rfl (fun hc2 => ?_) (fun hc2 => ?_)
        · have hc2 : ¬ f i = g i := by simpa using hc2
          refine WC_seq ?_
          refine WC_region ?_
          refine WL_det rfl (det_assign) ?_
          dsimp only [put, List.set, ev, nth, List.nil_append, List.cons_append, md, Nat.reducePow, Nat.reduceAdd, Nat.reduceMul]
          refine WL_nil ?_
          refine WC_ret ?_
          refine inB_ret ?_
          refine inB_ret ?_
          refine fin_tmp Try.results20 rfl ([]) (List.nil_sublist _) ?_
          exact ⟨by first | (rw [sameB_len hc0]; rfl) | (rw [sameB_ne hc1 hc2]; rfl) | (rw [sameB_eq (fun j hj => hall j (by omega))]; rfl), rfl⟩
        · have hc2 : f i = g i := by simpa using hc2
          refine WC_skip ?_
          refine WC_region ?_
          refine WL_det rfl (det_move) ?_
          dsimp only [put, List.set, ev, nth, List.nil_append, List.cons_append, md, Nat.reducePow, Nat.reduceAdd, Nat.reduceMul]
          refine WL_det rfl (det_addi (q := 1) rfl rfl (by omega)) ?_
          dsimp only [put, List.set, ev, nth, List.nil_append, List.cons_append, md, Nat.reducePow, Nat.reduceAdd, Nat.reduceMul]
          refine WL_det rfl (det_assign) ?_
          dsimp only [put, List.set, ev, nth, List.nil_append, List.cons_append, md, Nat.reducePow, Nat.reduceAdd, Nat.reduceMul]
          refine WL_nil ?_
          refine ⟨i + 1, ?_, ?_, ?_, ?_⟩
          · rfl
          · rfl
          · exact ⟨by omega, fun j hj => by rcases Nat.lt_succ_iff_lt_or_eq.1 hj with h | h; exact hall j h; rw [h]; exact hc2⟩
          · omega
      · have hc1 := of_decide_eq_false hc1
        refine WC_exit ?_
        refine inB_same ?_
        refine WC_seq ?_
        refine WC_region ?_
        refine WL_det rfl (det_assign) ?_
        dsimp only [put, List.set, ev, nth, List.nil_append, List.cons_append, md, Nat.reducePow, Nat.reduceAdd, Nat.reduceMul]
        refine WL_nil ?_
        refine WC_ret ?_
        refine fin_tmp Try.results20 rfl ([]) (List.nil_sublist _) ?_
        exact ⟨by first | (rw [sameB_len hc0]; rfl) | (rw [sameB_ne hc1 hc2]; rfl) | (rw [sameB_eq (fun j hj => hall j (by omega))]; rfl), rfl⟩

set_option maxRecDepth 100000 in
set_option maxHeartbeats 1000000 in
theorem rclamp_spec (f : Nat → Nat) (hf : ∀ i, i < 16 → f i < 256) (va : Value) (w : World) (ha : Rd w .u8 16 f va) :
    Calls Try.prog 56 [va].toArray w (Post w (fun v m => ∃ e, RowN .u8 5 16 (clf f) v e ∧ m = [e])) := by
  obtain ⟨p1, c1, b1, o1, rfl, hp1, hx1⟩ := ha
  refine calls_of_WC Try.func56 rfl ?_
  simp only [Try.ntmps56, List.length_cons, List.length_nil, Nat.reduceAdd, Nat.reduceSub, List.replicate, List.cons_append, List.nil_append]
  refine WC_seq ?_
  refine WC_region ?_
  refine WL_det rfl (det_assign) ?_
  dsimp only [put, List.set, ev, nth, List.nil_append, List.cons_append, md, Nat.reducePow, Nat.reduceAdd, Nat.reduceMul]
  refine WL_nil ?_
  refine WC_seq ?_
  refine WC_region ?_
  refine WL_det rfl (det_assign) ?_
  dsimp only [put, List.set, ev, nth, List.nil_append, List.cons_append, md, Nat.reducePow, Nat.reduceAdd, Nat.reduceMul]
  refine WL_nil ?_
  refine WC_seq ?_
  refine WC_seq ?_
  refine WC_region ?_
  refine WL_det rfl (det_assign) ?_
  dsimp only [put, List.set, ev, nth, List.nil_append, List.cons_append, md, Nat.reducePow, Nat.reduceAdd, Nat.reduceMul]
  refine WL_nil ?_
  refine WC_block ?_
  refine WC.addNone (.cells #[] 5 (0, 0)) ?_
  dsimp only [List.cons_append, List.nil_append]
  refine WC_loopS (ι := Nat × Value × (Option Nat × Obj)) [6, 7, 10, 11, 12, 13, 5, 14, 15, 16, 17, 18, 19, 20, 21, 22, 23, 24, 25, 26, 27, 28, 29, 30, 31, 32, 33, 34, 35, 36, 37, 38, 39, 40, 41, 42, 43, 44, 45, 46, 8, 9] (fun x => [(4, vn .i64 (x.1)), (3, x.2.1)]) (fun x => [(0, x.2.2)]) (fun x => x.1 ≤ 16 ∧ RowN .u8 5 x.1 (clf f) x.2.1 x.2.2) (fun x => 16 - x.1) (0, .slice none 0 0, (none, .cells #[] 5 (0, 0))) ?_ ?_ ?_ ?_
  · rfl
  · rfl
  · exact ⟨Nat.zero_le _, RowV.nil _ _ _⟩
  · rintro ⟨k, v3, e3⟩ g ⟨hk, hr3⟩
    dsimp only [setAll, setG, setM, List.set]
    dsimp only at hk hr3
    refine WC_seq ?_
    refine WC_seq ?_
    refine WC_region ?_
    refine WL_det rfl (det_move) ?_
    dsimp only [put, List.set, ev, nth, List.nil_append, List.cons_append, md, Nat.reducePow, Nat.reduceAdd, Nat.reduceMul]
    refine WL_det rfl (det_lss (q := 16) rfl rfl) ?_
    dsimp only [put, List.set, ev, nth, List.nil_append, List.cons_append, md, Nat.reducePow, Nat.reduceAdd, Nat.reduceMul]
    refine WL_nil ?_
    refine WC_cond rfl (fun hc0 => ?_) (fun hc0 => ?_)
    · have hc0 := of_decide_eq_true hc0
      have hfk := hf k hc0
      refine WC_skip ?_
      refine WC_seq ?_
      refine WC_block ?_
      refine WC_seq ?_
      refine WC_region ?_
      refine WL_det rfl (det_move) ?_
      dsimp only [put, List.set, ev, nth, List.nil_append, List.cons_append, md, Nat.reducePow, Nat.reduceAdd, Nat.reduceMul]
      refine WL_det rfl (det_move) ?_
      dsimp only [put, List.set, ev, nth, List.nil_append, List.cons_append, md, Nat.reducePow, Nat.reduceAdd, Nat.reduceMul]
      refine WL_det rfl (det_idxS Try.underlying35 Try.sizeOf5 rfl rfl (rfl) (by omega) (hp1 (by omega))) ?_
      dsimp only [put, List.set, ev, nth, List.nil_append, List.cons_append, md, Nat.reducePow, Nat.reduceAdd, Nat.reduceMul]
      refine WL_det rfl (det_loadF Try.isAgg5 rfl (hx1 _ (by omega))) ?_
      dsimp only [put, List.set, ev, nth, List.nil_append, List.cons_append, md, Nat.reducePow, Nat.reduceAdd, Nat.reduceMul]
      refine WL_det rfl (det_assign) ?_
      dsimp only [put, List.set, ev, nth, List.nil_append, List.cons_append, md, Nat.reducePow, Nat.reduceAdd, Nat.reduceMul]
      refine WL_nil ?_
      refine WC_seq ?_
      refine WC_seq ?_
      by_cases h3 : k = 3
      · refine WC_region ?_
        refine WL_det rfl (det_move) ?_
        dsimp only [put, List.set, ev, nth, List.nil_append, List.cons_append, md, Nat.reducePow, Nat.reduceAdd, Nat.reduceMul]
        refine WL_det rfl (Det.bv true (det_eql (q := 3) rfl rfl) (decide_eq_true h3)) ?_
        dsimp only [put, List.set, ev, nth, List.nil_append, List.cons_append, md, Nat.reducePow, Nat.reduceAdd, Nat.reduceMul]
        refine WL_det rfl (det_move) ?_
        dsimp only [put, List.set, ev, nth, List.nil_append, List.cons_append, md, Nat.reducePow, Nat.reduceAdd, Nat.reduceMul]
        refine WL_skipG rfl ?_
        dsimp only [put, List.set, ev, nth, List.nil_append, List.cons_append, md, Nat.reducePow, Nat.reduceAdd, Nat.reduceMul]
        refine WL_skipG rfl ?_
        dsimp only [put, List.set, ev, nth, List.nil_append, List.cons_append, md, Nat.reducePow, Nat.reduceAdd, Nat.reduceMul]
        refine WL_det rfl (det_pick_true rfl) ?_
        dsimp only [put, List.set, ev, nth, List.nil_append, List.cons_append, md, Nat.reducePow, Nat.reduceAdd, Nat.reduceMul]
        refine WL_det rfl (det_move) ?_
        dsimp only [put, List.set, ev, nth, List.nil_append, List.cons_append, md, Nat.reducePow, Nat.reduceAdd, Nat.reduceMul]
        refine WL_skipG rfl ?_
        dsimp only [put, List.set, ev, nth, List.nil_append, List.cons_append, md, Nat.reducePow, Nat.reduceAdd, Nat.reduceMul]
        refine WL_skipG rfl ?_
        dsimp only [put, List.set, ev, nth, List.nil_append, List.cons_append, md, Nat.reducePow, Nat.reduceAdd, Nat.reduceMul]
        refine WL_det rfl (det_pick_true rfl) ?_
        dsimp only [put, List.set, ev, nth, List.nil_append, List.cons_append, md, Nat.reducePow, Nat.reduceAdd, Nat.reduceMul]
        refine WL_det rfl (det_move) ?_
        dsimp only [put, List.set, ev, nth, List.nil_append, List.cons_append, md, Nat.reducePow, Nat.reduceAdd, Nat.reduceMul]
        refine WL_skipG rfl ?_
        dsimp only [put, List.set, ev, nth, List.nil_append, List.cons_append, md, Nat.reducePow, Nat.reduceAdd, Nat.reduceMul]
        refine WL_skipG rfl ?_
        dsimp only [put, List.set, ev, nth, List.nil_append, List.cons_append, md, Nat.reducePow, Nat.reduceAdd, Nat.reduceMul]
        refine WL_det rfl (det_pick_true rfl) ?_
        dsimp only [put, List.set, ev, nth, List.nil_append, List.cons_append, md, Nat.reducePow, Nat.reduceAdd, Nat.reduceMul]
        refine WL_nil ?_
        refine WC_cond_true rfl ?_
        refine WC_region ?_
        refine WL_det rfl (det_move) ?_
        dsimp only [put, List.set, ev, nth, List.nil_append, List.cons_append, md, Nat.reducePow, Nat.reduceAdd, Nat.reduceMul]
        refine WL_det rfl (det_remi (q := 16) rfl rfl (by omega)) ?_
        dsimp only [put, List.set, ev, nth, List.nil_append, List.cons_append, md, Nat.reducePow, Nat.reduceAdd, Nat.reduceMul]
        refine WL_det rfl (det_assign) ?_
        dsimp only [put, List.set, ev, nth, List.nil_append, List.cons_append, md, Nat.reducePow, Nat.reduceAdd, Nat.reduceMul]
        refine WL_nil ?_
        refine WC_seq ?_
        refine WC_seq ?_
        by_cases h4 : k = 4
        · refine WC_region ?_
          refine WL_det rfl (det_move) ?_
          dsimp only [put, List.set, ev, nth, List.nil_append, List.cons_append, md, Nat.reducePow, Nat.reduceAdd, Nat.reduceMul]
          refine WL_det rfl (Det.bv true (det_eql (q := 4) rfl rfl) (decide_eq_true h4)) ?_
          dsimp only [put, List.set, ev, nth, List.nil_append, List.cons_append, md, Nat.reducePow, Nat.reduceAdd, Nat.reduceMul]
          refine WL_det rfl (det_move) ?_
          dsimp only [put, List.set, ev, nth, List.nil_append, List.cons_append, md, Nat.reducePow, Nat.reduceAdd, Nat.reduceMul]
          refine WL_skipG rfl ?_
          dsimp only [put, List.set, ev, nth, List.nil_append, List.cons_append, md, Nat.reducePow, Nat.reduceAdd, Nat.reduceMul]
          refine WL_skipG rfl ?_
          dsimp only [put, List.set, ev, nth, List.nil_append, List.cons_append, md, Nat.reducePow, Nat.reduceAdd, Nat.reduceMul]
          refine WL_det rfl (det_pick_true rfl) ?_
          dsimp only [put, List.set, ev, nth, List.nil_append, List.cons_append, md, Nat.reducePow, Nat.reduceAdd, Nat.reduceMul]
          refine WL_det rfl (det_move) ?_
          dsimp only [put, List.set, ev, nth, List.nil_append, List.cons_append, md, Nat.reducePow, Nat.reduceAdd, Nat.reduceMul]
          refine WL_skipG rfl ?_
          dsimp only [put, List.set, ev, nth, List.nil_append, List.cons_append, md, Nat.reducePow, Nat.reduceAdd, Nat.reduceMul]
          refine WL_skipG rfl ?_
          dsimp only [put, List.set, ev, nth, List.nil_append, List.cons_append, md, Nat.reducePow, Nat.reduceAdd, Nat.reduceMul]
          refine WL_det rfl (det_pick_true rfl) ?_
          dsimp only [put, List.set, ev, nth, List.nil_append, List.cons_append, md, Nat.reducePow, Nat.reduceAdd, Nat.reduceMul]
          refine WL_nil ?_
          refine WC_cond_true rfl ?_
          refine WC_region ?_
          refine WL_det rfl (det_move) ?_
          dsimp only [put, List.set, ev, nth, List.nil_append, List.cons_append, md, Nat.reducePow, Nat.reduceAdd, Nat.reduceMul]
          refine WL_det rfl (det_quoi (q := 4) rfl rfl (by omega) (.inl rfl) (.inr (by simp only [md]; first | omega | exact Nat.or_lt_two_pow (n := 32) (by omega) (by omega) | exact Nat.lt_of_le_of_lt Nat.and_le_left (by omega) | exact Nat.lt_of_le_of_lt Nat.and_le_right (by omega) | exact Nat.xor_lt_two_pow (n := 32) (by omega) (by omega)))) ?_
          dsimp only [put, List.set, ev, nth, List.nil_append, List.cons_append, md, Nat.reducePow, Nat.reduceAdd, Nat.reduceMul]
          refine WL_det rfl (det_mul' (q := 4) rfl rfl rfl (by simp only [md]; omega)) ?_
          dsimp only [put, List.set, ev, nth, List.nil_append, List.cons_append, md, Nat.reducePow, Nat.reduceAdd, Nat.reduceMul]
          refine WL_det rfl (det_assign) ?_
          dsimp only [put, List.set, ev, nth, List.nil_append, List.cons_append, md, Nat.reducePow, Nat.reduceAdd, Nat.reduceMul]
          refine WL_nil ?_
          refine WC_region ?_
          refine WL_det rfl (det_move) ?_
          dsimp only [put, List.set, ev, nth, List.nil_append, List.cons_append, md, Nat.reducePow, Nat.reduceAdd, Nat.reduceMul]
          refine WL_det rfl (det_move) ?_
          dsimp only [put, List.set, ev, nth, List.nil_append, List.cons_append, md, Nat.reducePow, Nat.reduceAdd, Nat.reduceMul]
          refine WL_rel rfl (rel_lit1 Try.underlying35 Try.zeroValue5 Try.sizeOf5 rfl rfl) ?_
          rintro _ _ ⟨bl, rfl, rfl⟩
          dsimp only [put, List.set, ev, nth, List.nil_append, List.cons_append, md, Nat.reducePow, Nat.reduceAdd, Nat.reduceMul]
          refine WL_chg rfl (chg_append1 0 1 rfl (hr3) rfl rfl rfl rfl Try.underlying35 ei5 rfl (by omega) (by decide)) ?_
          rintro v46 _ ⟨e46, hr46, rfl⟩
          dsimp only [put, List.eraseIdx, List.set, ev, nth, List.nil_append, List.cons_append, md, Nat.reducePow, Nat.reduceAdd, Nat.reduceMul]
          have hr46 : RowN .u8 5 (k + 1) (clf f) v46 e46 := RowN.snoc hr46 (by first | exact (clf_c f k hc0 (by omega) (by omega)).symm | exact (clf_a f k (by omega)).symm | exact (clf_b f k hfk (by omega)).symm | (exfalso; omega))
          refine WL_det rfl (det_assign) ?_
          dsimp only [put, List.set, ev, nth, List.nil_append, List.cons_append, md, Nat.reducePow, Nat.reduceAdd, Nat.reduceMul]
          refine WL_nil ?_
          refine WC_region ?_
          refine WL_det rfl (det_move) ?_
          dsimp only [put, List.set, ev, nth, List.nil_append, List.cons_append, md, Nat.reducePow, Nat.reduceAdd, Nat.reduceMul]
          refine WL_det rfl (det_addi (q := 1) rfl rfl (by omega)) ?_
          dsimp only [put, List.set, ev, nth, List.nil_append, List.cons_append, md, Nat.reducePow, Nat.reduceAdd, Nat.reduceMul]
          refine WL_det rfl (det_assign) ?_
          dsimp only [put, List.set, ev, nth, List.nil_append, List.cons_append, md, Nat.reducePow, Nat.reduceAdd, Nat.reduceMul]
          refine WL_nil ?_
          refine ⟨(k + 1, v46, e46), ?_, ?_, ?_, ?_⟩
          · rfl
          · rfl
          · exact ⟨by dsimp only; omega, hr46⟩
          · dsimp only; omega
        · by_cases h8 : k = 8
          · refine WC_region ?_
            refine WL_det rfl (det_move) ?_
            dsimp only [put, List.set, ev, nth, List.nil_append, List.cons_append, md, Nat.reducePow, Nat.reduceAdd, Nat.reduceMul]
            refine WL_det rfl (Det.bv false (det_eql (q := 4) rfl rfl) (decide_eq_false h4)) ?_
            dsimp only [put, List.set, ev, nth, List.nil_append, List.cons_append, md, Nat.reducePow, Nat.reduceAdd, Nat.reduceMul]
            refine WL_det rfl (det_move) ?_
            dsimp only [put, List.set, ev, nth, List.nil_append, List.cons_append, md, Nat.reducePow, Nat.reduceAdd, Nat.reduceMul]
            refine WL_detG rfl (det_move) ?_
            dsimp only [put, List.set, ev, nth, List.nil_append, List.cons_append, md, Nat.reducePow, Nat.reduceAdd, Nat.reduceMul]
            refine WL_detG rfl (Det.bv true (det_eql (q := 8) rfl rfl) (decide_eq_true h8)) ?_
            dsimp only [put, List.set, ev, nth, List.nil_append, List.cons_append, md, Nat.reducePow, Nat.reduceAdd, Nat.reduceMul]
            refine WL_det rfl (det_pick_false rfl) ?_
            dsimp only [put, List.set, ev, nth, List.nil_append, List.cons_append, md, Nat.reducePow, Nat.reduceAdd, Nat.reduceMul]
            refine WL_det rfl (det_move) ?_
            dsimp only [put, List.set, ev, nth, List.nil_append, List.cons_append, md, Nat.reducePow, Nat.reduceAdd, Nat.reduceMul]
            refine WL_skipG rfl ?_
            dsimp only [put, List.set, ev, nth, List.nil_append, List.cons_append, md, Nat.reducePow, Nat.reduceAdd, Nat.reduceMul]
            refine WL_skipG rfl ?_
            dsimp only [put, List.set, ev, nth, List.nil_append, List.cons_append, md, Nat.reducePow, Nat.reduceAdd, Nat.reduceMul]
            refine WL_det rfl (det_pick_true rfl) ?_
            dsimp only [put, List.set, ev, nth, List.nil_append, List.cons_append, md, Nat.reducePow, Nat.reduceAdd, Nat.reduceMul]
            refine WL_nil ?_
            refine WC_cond_true rfl ?_
            refine WC_region ?_
            refine WL_det rfl (det_move) ?_
            dsimp only [put, List.set, ev, nth, List.nil_append, List.cons_append, md, Nat.reducePow, Nat.reduceAdd, Nat.reduceMul]
            refine WL_det rfl (det_quoi (q := 4) rfl rfl (by omega) (.inl rfl) (.inr (by simp only [md]; first | omega | exact Nat.or_lt_two_pow (n := 32) (by omega) (by omega) | exact Nat.lt_of_le_of_lt Nat.and_le_left (by omega) | exact Nat.lt_of_le_of_lt Nat.and_le_right (by omega) | exact Nat.xor_lt_two_pow (n := 32) (by omega) (by omega)))) ?_
            dsimp only [put, List.set, ev, nth, List.nil_append, List.cons_append, md, Nat.reducePow, Nat.reduceAdd, Nat.reduceMul]
            refine WL_det rfl (det_mul' (q := 4) rfl rfl rfl (by simp only [md]; omega)) ?_
            dsimp only [put, List.set, ev, nth, List.nil_append, List.cons_append, md, Nat.reducePow, Nat.reduceAdd, Nat.reduceMul]
            refine WL_det rfl (det_assign) ?_
            dsimp only [put, List.set, ev, nth, List.nil_append, List.cons_append, md, Nat.reducePow, Nat.reduceAdd, Nat.reduceMul]
            refine WL_nil ?_
            refine WC_region ?_
            refine WL_det rfl (det_move) ?_
            dsimp only [put, List.set, ev, nth, List.nil_append, List.cons_append, md, Nat.reducePow, Nat.reduceAdd, Nat.reduceMul]
            refine WL_det rfl (det_move) ?_
            dsimp only [put, List.set, ev, nth, List.nil_append, List.cons_append, md, Nat.reducePow, Nat.reduceAdd, Nat.reduceMul]
            refine WL_rel rfl (rel_lit1 Try.underlying35 Try.zeroValue5 Try.sizeOf5 rfl rfl) ?_
            rintro _ _ ⟨bl, rfl, rfl⟩
            dsimp only [put, List.set, ev, nth, List.nil_append, List.cons_append, md, Nat.reducePow, Nat.reduceAdd, Nat.reduceMul]
            refine WL_chg rfl (chg_append1 0 1 rfl (hr3) rfl rfl rfl rfl Try.underlying35 ei5 rfl (by omega) (by decide)) ?_
            rintro v46 _ ⟨e46, hr46, rfl⟩
            dsimp only [put, List.eraseIdx, List.set, ev, nth, List.nil_append, List.cons_append, md, Nat.reducePow, Nat.reduceAdd, Nat.reduceMul]
            have hr46 : RowN .u8 5 (k + 1) (clf f) v46 e46 := RowN.snoc hr46 (by first | exact (clf_c f k hc0 (by omega) (by omega)).symm | exact (clf_a f k (by omega)).symm | exact (clf_b f k hfk (by omega)).symm | (exfalso; omega))
            refine WL_det rfl (det_assign) ?_
            dsimp only [put, List.set, ev, nth, List.nil_append, List.cons_append, md, Nat.reducePow, Nat.reduceAdd, Nat.reduceMul]
            refine WL_nil ?_
            refine WC_region ?_
            refine WL_det rfl (det_move) ?_
            dsimp only [put, List.set, ev, nth, List.nil_append, List.cons_append, md, Nat.reducePow, Nat.reduceAdd, Nat.reduceMul]
            refine WL_det rfl (det_addi (q := 1) rfl rfl (by omega)) ?_
            dsimp only [put, List.set, ev, nth, List.nil_append, List.cons_append, md, Nat.reducePow, Nat.reduceAdd, Nat.reduceMul]
            refine WL_det rfl (det_assign) ?_
            dsimp only [put, List.set, ev, nth, List.nil_append, List.cons_append, md, Nat.reducePow, Nat.reduceAdd, Nat.reduceMul]
            refine WL_nil ?_
            refine ⟨(k + 1, v46, e46), ?_, ?_, ?_, ?_⟩
            · rfl
            · rfl
            · exact ⟨by dsimp only; omega, hr46⟩
            · dsimp only; omega
          · by_cases h12 : k = 12
            · refine WC_region ?_
              refine WL_det rfl (det_move) ?_
              dsimp only [put, List.set, ev, nth, List.nil_append, List.cons_append, md, Nat.reducePow, Nat.reduceAdd, Nat.reduceMul]
              refine WL_det rfl (Det.bv false (det_eql (q := 4) rfl rfl) (decide_eq_false h4)) ?_
              dsimp only [put, List.set, ev, nth, List.nil_append, List.cons_append, md, Nat.reducePow, Nat.reduceAdd, Nat.reduceMul]
              refine WL_det rfl (det_move) ?_
              dsimp only [put, List.set, ev, nth, List.nil_append, List.cons_append, md, Nat.reducePow, Nat.reduceAdd, Nat.reduceMul]
              refine WL_detG rfl (det_move) ?_
              dsimp only [put, List.set, ev, nth, List.nil_append, List.cons_append, md, Nat.reducePow, Nat.reduceAdd, Nat.reduceMul]
              refine WL_detG rfl (Det.bv false (det_eql (q := 8) rfl rfl) (decide_eq_false h8)) ?_
              dsimp only [put, List.set, ev, nth, List.nil_append, List.cons_append, md, Nat.reducePow, Nat.reduceAdd, Nat.reduceMul]
              refine WL_det rfl (det_pick_false rfl) ?_
              dsimp only [put, List.set, ev, nth, List.nil_append, List.cons_append, md, Nat.reducePow, Nat.reduceAdd, Nat.reduceMul]
              refine WL_det rfl (det_move) ?_
              dsimp only [put, List.set, ev, nth, List.nil_append, List.cons_append, md, Nat.reducePow, Nat.reduceAdd, Nat.reduceMul]
              refine WL_detG rfl (det_move) ?_
              dsimp only [put, List.set, ev, nth, List.nil_append, List.cons_append, md, Nat.reducePow, Nat.reduceAdd, Nat.reduceMul]
              refine WL_detG rfl (Det.bv true (det_eql (q := 12) rfl rfl) (decide_eq_true h12)) ?_
              dsimp only [put, List.set, ev, nth, List.nil_append, List.cons_append, md, Nat.reducePow, Nat.reduceAdd, Nat.reduceMul]
              refine WL_det rfl (det_pick_false rfl) ?_
              dsimp only [put, List.set, ev, nth, List.nil_append, List.cons_append, md, Nat.reducePow, Nat.reduceAdd, Nat.reduceMul]
              refine WL_nil ?_
              refine WC_cond_true rfl ?_
              refine WC_region ?_
              refine WL_det rfl (det_move) ?_
              dsimp only [put, List.set, ev, nth, List.nil_append, List.cons_append, md, Nat.reducePow, Nat.reduceAdd, Nat.reduceMul]
              refine WL_det rfl (det_quoi (q := 4) rfl rfl (by omega) (.inl rfl) (.inr (by simp only [md]; first | omega | exact Nat.or_lt_two_pow (n := 32) (by omega) (by omega) | exact Nat.lt_of_le_of_lt Nat.and_le_left (by omega) | exact Nat.lt_of_le_of_lt Nat.and_le_right (by omega) | exact Nat.xor_lt_two_pow (n := 32) (by omega) (by omega)))) ?_
              dsimp only [put, List.set, ev, nth, List.nil_append, List.cons_append, md, Nat.reducePow, Nat.reduceAdd, Nat.reduceMul]
              refine WL_det rfl (det_mul' (q := 4) rfl rfl rfl (by simp only [md]; omega)) ?_
              dsimp only [put, List.set, ev, nth, List.nil_append, List.cons_append, md, Nat.reducePow, Nat.reduceAdd, Nat.reduceMul]
              refine WL_det rfl (det_assign) ?_
              dsimp only [put, List.set, ev, nth, List.nil_append, List.cons_append, md, Nat.reducePow, Nat.reduceAdd, Nat.reduceMul]
              refine WL_nil ?_
              refine WC_region ?_
              refine WL_det rfl (det_move) ?_
              dsimp only [put, List.set, ev, nth, List.nil_append, List.cons_append, md, Nat.reducePow, Nat.reduceAdd, Nat.reduceMul]
              refine WL_det rfl (det_move) ?_
              dsimp only [put, List.set, ev, nth, List.nil_append, List.cons_append, md, Nat.reducePow, Nat.reduceAdd, Nat.reduceMul]
              refine WL_rel rfl (rel_lit1 Try.underlying35 Try.zeroValue5 Try.sizeOf5 rfl rfl) ?_
              rintro _ _ ⟨bl, rfl, rfl⟩
              dsimp only [put, List.set, ev, nth, List.nil_append, List.cons_append, md, Nat.reducePow, Nat.reduceAdd, Nat.reduceMul]
              refine WL_chg rfl (chg_append1 0 1 rfl (hr3) rfl rfl rfl rfl Try.underlying35 ei5 rfl (by omega) (by decide)) ?_
              rintro v46 _ ⟨e46, hr46, rfl⟩
              dsimp only [put, List.eraseIdx, List.set, ev, nth, List.nil_append, List.cons_append, md, Nat.reducePow, Nat.reduceAdd, Nat.reduceMul]
              have hr46 : RowN .u8 5 (k + 1) (clf f) v46 e46 := RowN.snoc hr46 (by first | exact (clf_c f k hc0 (by omega) (by omega)).symm | exact (clf_a f k (by omega)).symm | exact (clf_b f k hfk (by omega)).symm | (exfalso; omega))
              refine WL_det rfl (det_assign) ?_
              dsimp only [put, List.set, ev, nth, List.nil_append, List.cons_append, md, Nat.reducePow, Nat.reduceAdd, Nat.reduceMul]
              refine WL_nil ?_
              refine WC_region ?_
              refine WL_det rfl (det_move) ?_
              dsimp only [put, List.set, ev, nth, List.nil_append, List.cons_append, md, Nat.reducePow, Nat.reduceAdd, Nat.reduceMul]
              refine WL_det rfl (det_addi (q := 1) rfl rfl (by omega)) ?_
              dsimp only [put, List.set, ev, nth, List.nil_append, List.cons_append, md, Nat.reducePow, Nat.reduceAdd, Nat.reduceMul]
              refine WL_det rfl (det_assign) ?_
              dsimp only [put, List.set, ev, nth, List.nil_append, List.cons_append, md, Nat.reducePow, Nat.reduceAdd, Nat.reduceMul]
              refine WL_nil ?_
              refine ⟨(k + 1, v46, e46), ?_, ?_, ?_, ?_⟩
              · rfl
              · rfl
              · exact ⟨by dsimp only; omega, hr46⟩
              · dsimp only; omega
            · refine WC_region ?_
              refine WL_det rfl (det_move) ?_
              dsimp only [put, List.set, ev, nth, List.nil_append, List.cons_append, md, Nat.reducePow, Nat.reduceAdd, Nat.reduceMul]
              refine WL_det rfl (Det.bv false (det_eql (q := 4) rfl rfl) (decide_eq_false h4)) ?_
              dsimp only [put, List.set, ev, nth, List.nil_append, List.cons_append, md, Nat.reducePow, Nat.reduceAdd, Nat.reduceMul]
              refine WL_det rfl (det_move) ?_
              dsimp only [put, List.set, ev, nth, List.nil_append, List.cons_append, md, Nat.reducePow, Nat.reduceAdd, Nat.reduceMul]
              refine WL_detG rfl (det_move) ?_
              dsimp only [put, List.set, ev, nth, List.nil_append, List.cons_append, md, Nat.reducePow, Nat.reduceAdd, Nat.reduceMul]
              refine WL_detG rfl (Det.bv false (det_eql (q := 8) rfl rfl) (decide_eq_false h8)) ?_
              dsimp only [put, List.set, ev, nth, List.nil_append, List.cons_append, md, Nat.reducePow, Nat.reduceAdd, Nat.reduceMul]
              refine WL_det rfl (det_pick_false rfl) ?_
              dsimp only [put, List.set, ev, nth, List.nil_append, List.cons_append, md, Nat.reducePow, Nat.reduceAdd, Nat.reduceMul]
              refine WL_det rfl (det_move) ?_
              dsimp only [put, List.set, ev, nth, List.nil_append, List.cons_append, md, Nat.reducePow, Nat.reduceAdd, Nat.reduceMul]
              refine WL_detG rfl (det_move) ?_
              dsimp only [put, List.set, ev, nth, List.nil_append, List.cons_append, md, Nat.reducePow, Nat.reduceAdd, Nat.reduceMul]
              refine WL_detG rfl (Det.bv false (det_eql (q := 12) rfl rfl) (decide_eq_false h12)) ?_
              dsimp only [put, List.set, ev, nth, List.nil_append, List.cons_append, md, Nat.reducePow, Nat.reduceAdd, Nat.reduceMul]
              refine WL_det rfl (det_pick_false rfl) ?_
              dsimp only [put, List.set, ev, nth, List.nil_append, List.cons_append, md, Nat.reducePow, Nat.reduceAdd, Nat.reduceMul]
              refine WL_nil ?_
              refine WC_cond_false rfl ?_
              refine WC_skip ?_
              refine WC_region ?_
              refine WL_det rfl (det_move) ?_
              dsimp only [put, List.set, ev, nth, List.nil_append, List.cons_append, md, Nat.reducePow, Nat.reduceAdd, Nat.reduceMul]
              refine WL_det rfl (det_move) ?_
              dsimp only [put, List.set, ev, nth, List.nil_append, List.cons_append, md, Nat.reducePow, Nat.reduceAdd, Nat.reduceMul]
              refine WL_rel rfl (rel_lit1 Try.underlying35 Try.zeroValue5 Try.sizeOf5 rfl rfl) ?_
              rintro _ _ ⟨bl, rfl, rfl⟩
              dsimp only [put, List.set, ev, nth, List.nil_append, List.cons_append, md, Nat.reducePow, Nat.reduceAdd, Nat.reduceMul]
              refine WL_chg rfl (chg_append1 0 1 rfl (hr3) rfl rfl rfl rfl Try.underlying35 ei5 rfl (by omega) (by decide)) ?_
              rintro v46 _ ⟨e46, hr46, rfl⟩
              dsimp only [put, List.eraseIdx, List.set, ev, nth, List.nil_append, List.cons_append, md, Nat.reducePow, Nat.reduceAdd, Nat.reduceMul]
              have hr46 : RowN .u8 5 (k + 1) (clf f) v46 e46 := RowN.snoc hr46 (by first | exact (clf_c f k hc0 (by omega) (by omega)).symm | exact (clf_a f k (by omega)).symm | exact (clf_b f k hfk (by omega)).symm | (exfalso; omega))
              refine WL_det rfl (det_assign) ?_
              dsimp only [put, List.set, ev, nth, List.nil_append, List.cons_append, md, Nat.reducePow, Nat.reduceAdd, Nat.reduceMul]
              refine WL_nil ?_
              refine WC_region ?_
              refine WL_det rfl (det_move) ?_
              dsimp only [put, List.set, ev, nth, List.nil_append, List.cons_append, md, Nat.reducePow, Nat.reduceAdd, Nat.reduceMul]
              refine WL_det rfl (det_addi (q := 1) rfl rfl (by omega)) ?_
              dsimp only [put, List.set, ev, nth, List.nil_append, List.cons_append, md, Nat.reducePow, Nat.reduceAdd, Nat.reduceMul]
              refine WL_det rfl (det_assign) ?_
              dsimp only [put, List.set, ev, nth, List.nil_append, List.cons_append, md, Nat.reducePow, Nat.reduceAdd, Nat.reduceMul]
              refine WL_nil ?_
              refine ⟨(k + 1, v46, e46), ?_, ?_, ?_, ?_⟩
              · rfl
              · rfl
              · exact ⟨by dsimp only; omega, hr46⟩
              · dsimp only; omega
      · by_cases h7 : k = 7
        · refine WC_region ?_
          refine WL_det rfl (det_move) ?_
          dsimp only [put, List.set, ev, nth, List.nil_append, List.cons_append, md, Nat.reducePow, Nat.reduceAdd, Nat.reduceMul]
          refine WL_det rfl (Det.bv false (det_eql (q := 3) rfl rfl) (decide_eq_false h3)) ?_
          dsimp only [put, List.set, ev, nth, List.nil_append, List.cons_append, md, Nat.reducePow, Nat.reduceAdd, Nat.reduceMul]
          refine WL_det rfl (det_move) ?_
          dsimp only [put, List.set, ev, nth, List.nil_append, List.cons_append, md, Nat.reducePow, Nat.reduceAdd, Nat.reduceMul]
          refine WL_detG rfl (det_move) ?_
          dsimp only [put, List.set, ev, nth, List.nil_append, List.cons_append, md, Nat.reducePow, Nat.reduceAdd, Nat.reduceMul]
          refine WL_detG rfl (Det.bv true (det_eql (q := 7) rfl rfl) (decide_eq_true h7)) ?_
          dsimp only [put, List.set, ev, nth, List.nil_append, List.cons_append, md, Nat.reducePow, Nat.reduceAdd, Nat.reduceMul]
          refine WL_det rfl (det_pick_false rfl) ?_
          dsimp only [put, List.set, ev, nth, List.nil_append, List.cons_append, md, Nat.reducePow, Nat.reduceAdd, Nat.reduceMul]
          refine WL_det rfl (det_move) ?_
          dsimp only [put, List.set, ev, nth, List.nil_append, List.cons_append, md, Nat.reducePow, Nat.reduceAdd, Nat.reduceMul]
          refine WL_skipG rfl ?_
          dsimp only [put, List.set, ev, nth, List.nil_append, List.cons_append, md, Nat.reducePow, Nat.reduceAdd, Nat.reduceMul]
          refine WL_skipG rfl ?_
          dsimp only [put, List.set, ev, nth, List.nil_append, List.cons_append, md, Nat.reducePow, Nat.reduceAdd, Nat.reduceMul]
          refine WL_det rfl (det_pick_true rfl) ?_
          dsimp only [put, List.set, ev, nth, List.nil_append, List.cons_append, md, Nat.reducePow, Nat.reduceAdd, Nat.reduceMul]
          refine WL_det rfl (det_move) ?_
          dsimp only [put, List.set, ev, nth, List.nil_append, List.cons_append, md, Nat.reducePow, Nat.reduceAdd, Nat.reduceMul]
          refine WL_skipG rfl ?_
          dsimp only [put, List.set, ev, nth, List.nil_append, List.cons_append, md, Nat.reducePow, Nat.reduceAdd, Nat.reduceMul]
          refine WL_skipG rfl ?_
          dsimp only [put, List.set, ev, nth, List.nil_append, List.cons_append, md, Nat.reducePow, Nat.reduceAdd, Nat.reduceMul]
          refine WL_det rfl (det_pick_true rfl) ?_
          dsimp only [put, List.set, ev, nth, List.nil_append, List.cons_append, md, Nat.reducePow, Nat.reduceAdd, Nat.reduceMul]
          refine WL_nil ?_
          refine WC_cond_true rfl ?_
          refine WC_region ?_
          refine WL_det rfl (det_move) ?_
          dsimp only [put, List.set, ev, nth, List.nil_append, List.cons_append, md, Nat.reducePow, Nat.reduceAdd, Nat.reduceMul]
          refine WL_det rfl (det_remi (q := 16) rfl rfl (by omega)) ?_
          dsimp only [put, List.set, ev, nth, List.nil_append, List.cons_append, md, Nat.reducePow, Nat.reduceAdd, Nat.reduceMul]
          refine WL_det rfl (det_assign) ?_
          dsimp only [put, List.set, ev, nth, List.nil_append, List.cons_append, md, Nat.reducePow, Nat.reduceAdd, Nat.reduceMul]
          refine WL_nil ?_
          refine WC_seq ?_
          refine WC_seq ?_
          by_cases h4 : k = 4
          · refine WC_region ?_
            refine WL_det rfl (det_move) ?_
            dsimp only [put, List.set, ev, nth, List.nil_append, List.cons_append, md, Nat.reducePow, Nat.reduceAdd, Nat.reduceMul]
            refine WL_det rfl (Det.bv true (det_eql (q := 4) rfl rfl) (decide_eq_true h4)) ?_
            dsimp only [put, List.set, ev, nth, List.nil_append, List.cons_append, md, Nat.reducePow, Nat.reduceAdd, Nat.reduceMul]
            refine WL_det rfl (det_move) ?_
            dsimp only [put, List.set, ev, nth, List.nil_append, List.cons_append, md, Nat.reducePow, Nat.reduceAdd, Nat.reduceMul]
            refine WL_skipG rfl ?_
            dsimp only [put, List.set, ev, nth, List.nil_append, List.cons_append, md, Nat.reducePow, Nat.reduceAdd, Nat.reduceMul]
            refine WL_skipG rfl ?_
            dsimp only [put, List.set, ev, nth, List.nil_append, List.cons_append, md, Nat.reducePow, Nat.reduceAdd, Nat.reduceMul]
            refine WL_det rfl (det_pick_true rfl) ?_
            dsimp only [put, List.set, ev, nth, List.nil_append, List.cons_append, md, Nat.reducePow, Nat.reduceAdd, Nat.reduceMul]
            refine WL_det rfl (det_move) ?_
            dsimp only [put, List.set, ev, nth, List.nil_append, List.cons_append, md, Nat.reducePow, Nat.reduceAdd, Nat.reduceMul]
            refine WL_skipG rfl ?_
            dsimp only [put, List.set, ev, nth, List.nil_append, List.cons_append, md, Nat.reducePow, Nat.reduceAdd, Nat.reduceMul]
            refine WL_skipG rfl ?_
            dsimp only [put, List.set, ev, nth, List.nil_append, List.cons_append, md, Nat.reducePow, Nat.reduceAdd, Nat.reduceMul]
            refine WL_det rfl (det_pick_true rfl) ?_
            dsimp only [put, List.set, ev, nth, List.nil_append, List.cons_append, md, Nat.reducePow, Nat.reduceAdd, Nat.reduceMul]
            refine WL_nil ?_
            refine WC_cond_true rfl ?_
            refine WC_region ?_
            refine WL_det rfl (det_move) ?_
            dsimp only [put, List.set, ev, nth, List.nil_append, List.cons_append, md, Nat.reducePow, Nat.reduceAdd, Nat.reduceMul]
            refine WL_det rfl (det_quoi (q := 4) rfl rfl (by omega) (.inl rfl) (.inr (by simp only [md]; first | omega | exact Nat.or_lt_two_pow (n := 32) (by omega) (by omega) | exact Nat.lt_of_le_of_lt Nat.and_le_left (by omega) | exact Nat.lt_of_le_of_lt Nat.and_le_right (by omega) | exact Nat.xor_lt_two_pow (n := 32) (by omega) (by omega)))) ?_
            dsimp only [put, List.set, ev, nth, List.nil_append, List.cons_append, md, Nat.reducePow, Nat.reduceAdd, Nat.reduceMul]
            refine WL_det rfl (det_mul' (q := 4) rfl rfl rfl (by simp only [md]; omega)) ?_
            dsimp only [put, List.set, ev, nth, List.nil_append, List.cons_append, md, Nat.reducePow, Nat.reduceAdd, Nat.reduceMul]
            refine WL_det rfl (det_assign) ?_
            dsimp only [put, List.set, ev, nth, List.nil_append, List.cons_append, md, Nat.reducePow, Nat.reduceAdd, Nat.reduceMul]
            refine WL_nil ?_
            refine WC_region ?_
            refine WL_det rfl (det_move) ?_
            dsimp only [put, List.set, ev, nth, List.nil_append, List.cons_append, md, Nat.reducePow, Nat.reduceAdd, Nat.reduceMul]
            refine WL_det rfl (det_move) ?_
            dsimp only [put, List.set, ev, nth, List.nil_append, List.cons_append, md, Nat.reducePow, Nat.reduceAdd, Nat.reduceMul]
            refine WL_rel rfl (rel_lit1 Try.underlying35 Try.zeroValue5 Try.sizeOf5 rfl rfl) ?_
            rintro _ _ ⟨bl, rfl, rfl⟩
            dsimp only [put, List.set, ev, nth, List.nil_append, List.cons_append, md, Nat.reducePow, Nat.reduceAdd, Nat.reduceMul]
            refine WL_chg rfl (chg_append1 0 1 rfl (hr3) rfl rfl rfl rfl Try.underlying35 ei5 rfl (by omega) (by decide)) ?_
            rintro v46 _ ⟨e46, hr46, rfl⟩
            dsimp only [put, List.eraseIdx, List.set, ev, nth, List.nil_append, List.cons_append, md, Nat.reducePow, Nat.reduceAdd, Nat.reduceMul]
            have hr46 : RowN .u8 5 (k + 1) (clf f) v46 e46 := RowN.snoc hr46 (by first | exact (clf_c f k hc0 (by omega) (by omega)).symm | exact (clf_a f k (by omega)).symm | exact (clf_b f k hfk (by omega)).symm | (exfalso; omega))
            refine WL_det rfl (det_assign) ?_
            dsimp only [put, List.set, ev, nth, List.nil_append, List.cons_append, md, Nat.reducePow, Nat.reduceAdd, Nat.reduceMul]
            refine WL_nil ?_
            refine WC_region ?_
            refine WL_det rfl (det_move) ?_
            dsimp only [put, List.set, ev, nth, List.nil_append, List.cons_append, md, Nat.reducePow, Nat.reduceAdd, Nat.reduceMul]
            refine WL_det rfl (det_addi (q := 1) rfl rfl (by omega)) ?_
            dsimp only [put, List.set, ev, nth, List.nil_append, List.cons_append, md, Nat.reducePow, Nat.reduceAdd, Nat.reduceMul]
            refine WL_det rfl (det_assign) ?_
            dsimp only [put, List.set, ev, nth, List.nil_append, List.cons_append, md, Nat.reducePow, Nat.reduceAdd, Nat.reduceMul]
            refine WL_nil ?_
            refine ⟨(k + 1, v46, e46), ?_, ?_, ?_, ?_⟩
            · rfl
            · rfl
            · exact ⟨by dsimp only; omega, hr46⟩
            · dsimp only; omega
          · by_cases h8 : k = 8
            · refine WC_region ?_
              refine WL_det rfl (det_move) ?_
              dsimp only [put, List.set, ev, nth, List.nil_append, List.cons_append, md, Nat.reducePow, Nat.reduceAdd, Nat.reduceMul]
              refine WL_det rfl (Det.bv false (det_eql (q := 4) rfl rfl) (decide_eq_false h4)) ?_
              dsimp only [put, List.set, ev, nth, List.nil_append, List.cons_append, md, Nat.reducePow, Nat.reduceAdd, Nat.reduceMul]
              refine WL_det rfl (det_move) ?_
              dsimp only [put, List.set, ev, nth, List.nil_append, List.cons_append, md, Nat.reducePow, Nat.reduceAdd, Nat.reduceMul]
              refine WL_detG rfl (det_move) ?_
              dsimp only [put, List.set, ev, nth, List.nil_append, List.cons_append, md, Nat.reducePow, Nat.reduceAdd, Nat.reduceMul]
              refine WL_detG rfl (Det.bv true (det_eql (q := 8) rfl rfl) (decide_eq_true h8)) ?_
              dsimp only [put, List.set, ev, nth, List.nil_append, List.cons_append, md, Nat.reducePow, Nat.reduceAdd, Nat.reduceMul]
              refine WL_det rfl (det_pick_false rfl) ?_
              dsimp only [put, List.set, ev, nth, List.nil_append, List.cons_append, md, Nat.reducePow, Nat.reduceAdd, Nat.reduceMul]
              refine WL_det rfl (det_move) ?_
              dsimp only [put, List.set, ev, nth, List.nil_append, List.cons_append, md, Nat.reducePow, Nat.reduceAdd, Nat.reduceMul]
              refine WL_skipG rfl ?_
              dsimp only [put, List.set, ev, nth, List.nil_append, List.cons_append, md, Nat.reducePow, Nat.reduceAdd, Nat.reduceMul]
              refine WL_skipG rfl ?_
              dsimp only [put, List.set, ev, nth, List.nil_append, List.cons_append, md, Nat.reducePow, Nat.reduceAdd, Nat.reduceMul]
              refine WL_det rfl (det_pick_true rfl) ?_
              dsimp only [put, List.set, ev, nth, List.nil_append, List.cons_append, md, Nat.reducePow, Nat.reduceAdd, Nat.reduceMul]
              refine WL_nil ?_
              refine WC_cond_true rfl ?_
              refine WC_region ?_
              refine WL_det rfl (det_move) ?_
              dsimp only [put, List.set, ev, nth, List.nil_append, List.cons_append, md, Nat.reducePow, Nat.reduceAdd, Nat.reduceMul]
              refine WL_det rfl (det_quoi (q := 4) rfl rfl (by omega) (.inl rfl) (.inr (by simp only [md]; first | omega | exact Nat.or_lt_two_pow (n := 32) (by omega) (by omega) | exact Nat.lt_of_le_of_lt Nat.and_le_left (by omega) | exact Nat.lt_of_le_of_lt Nat.and_le_right (by omega) | exact Nat.xor_lt_two_pow (n := 32) (by omega) (by omega)))) ?_
              dsimp only [put, List.set, ev, nth, List.nil_append, List.cons_append, md, Nat.reducePow, Nat.reduceAdd, Nat.reduceMul]
              refine WL_det rfl (det_mul' (q := 4) rfl rfl rfl (by simp only [md]; omega)) ?_
              dsimp only [put, List.set, ev, nth, List.nil_append, List.cons_append, md, Nat.reducePow, Nat.reduceAdd, Nat.reduceMul]
              refine WL_det rfl (det_assign) ?_
              dsimp only [put, List.set, ev, nth, List.nil_append, List.cons_append, md, Nat.reducePow, Nat.reduceAdd, Nat.reduceMul]
              refine WL_nil ?_
              refine WC_region ?_
              refine WL_det rfl (det_move) ?_
              dsimp only [put, List.set, ev, nth, List.nil_append, List.cons_append, md, Nat.reducePow, Nat.reduceAdd, Nat.reduceMul]
              refine WL_det rfl (det_move) ?_
              dsimp only [put, List.set, ev, nth, List.nil_append, List.cons_append, md, Nat.reducePow, Nat.reduceAdd, Nat.reduceMul]
              refine WL_rel rfl (rel_lit1 Try.underlying35 Try.zeroValue5 Try.sizeOf5 rfl rfl) ?_
              rintro _ _ ⟨bl, rfl, rfl⟩
              dsimp only [put, List.set, ev, nth, List.nil_append, List.cons_append, md, Nat.reducePow, Nat.reduceAdd, Nat.reduceMul]
              refine WL_chg rfl (chg_append1 0 1 rfl (hr3) rfl rfl rfl rfl Try.underlying35 ei5 rfl (by omega) (by decide)) ?_
              rintro v46 _ ⟨e46, hr46, rfl⟩
              dsimp only [put, List.eraseIdx, List.set, ev, nth, List.nil_append, List.cons_append, md, Nat.reducePow, Nat.reduceAdd, Nat.reduceMul]
              have hr46 : RowN .u8 5 (k + 1) (clf f) v46 e46 := RowN.snoc hr46 (by first | exact (clf_c f k hc0 (by omega) (by omega)).symm | exact (clf_a f k (by omega)).symm | exact (clf_b f k hfk (by omega)).symm | (exfalso; omega))
              refine WL_det rfl (det_assign) ?_
              dsimp only [put, List.set, ev, nth, List.nil_append, List.cons_append, md, Nat.reducePow, Nat.reduceAdd, Nat.reduceMul]
              refine WL_nil ?_
              refine WC_region ?_
              refine WL_det rfl (det_move) ?_
              dsimp only [put, List.set, ev, nth, List.nil_append, List.cons_append, md, Nat.reducePow, Nat.reduceAdd, Nat.reduceMul]
              refine WL_det rfl (det_addi (q := 1) rfl rfl (by omega)) ?_
              dsimp only [put, List.set, ev, nth, List.nil_append, List.cons_append, md, Nat.reducePow, Nat.reduceAdd, Nat.reduceMul]
              refine WL_det rfl (det_assign) ?_
              dsimp only [put, List.set, ev, nth, List.nil_append, List.cons_append, md, Nat.reducePow, Nat.reduceAdd, Nat.reduceMul]
              refine WL_nil ?_
              refine ⟨(k + 1, v46, e46), ?_, ?_, ?_, ?_⟩
              · rfl
              · rfl
              · exact ⟨by dsimp only; omega, hr46⟩
              · dsimp only; omega
            · by_cases h12 : k = 12
              · refine WC_region ?_
                refine WL_det rfl (det_move) ?_
                dsimp only [put, List.set, ev, nth, List.nil_append, List.cons_append, md, Nat.reducePow, Nat.reduceAdd, Nat.reduceMul]
                refine WL_det rfl (Det.bv false (det_eql (q := 4) rfl rfl) (decide_eq_false h4)) ?_
                dsimp only [put, List.set, ev, nth, List.nil_append, List.cons_append, md, Nat.reducePow, Nat.reduceAdd, Nat.reduceMul]
                refine WL_det rfl (det_move) ?_
                dsimp only [put, List.set, ev, nth, List.nil_append, List.cons_append, md, Nat.reducePow, Nat.reduceAdd, Nat.reduceMul]
                refine WL_detG rfl (det_move) ?_
                dsimp only [put, List.set, ev, nth, List.nil_append, List.cons_append, md, Nat.reducePow, Nat.reduceAdd, Nat.reduceMul]
                refine WL_detG rfl (Det.bv false (det_eql (q := 8) rfl rfl) (decide_eq_false h8)) ?_
                dsimp only [put, List.set, ev, nth, List.nil_append, List.cons_append, md, Nat.reducePow, Nat.reduceAdd, Nat.reduceMul]
                refine WL_det rfl (det_pick_false rfl) ?_
                dsimp only [put, List.set, ev, nth, List.nil_append, List.cons_append, md, Nat.reducePow, Nat.reduceAdd, Nat.reduceMul]
                refine WL_det rfl (det_move) ?_
                dsimp only [put, List.set, ev, nth, List.nil_append, List.cons_append, md, Nat.reducePow, Nat.reduceAdd, Nat.reduceMul]
                refine WL_detG rfl (det_move) ?_
                dsimp only [put, List.set, ev, nth, List.nil_append, List.cons_append, md, Nat.reducePow, Nat.reduceAdd, Nat.reduceMul]
                refine WL_detG rfl (Det.bv true (det_eql (q := 12) rfl rfl) (decide_eq_true h12)) ?_
                dsimp only [put, List.set, ev, nth, List.nil_append, List.cons_append, md, Nat.reducePow, Nat.reduceAdd, Nat.reduceMul]
                refine WL_det rfl (det_pick_false rfl) ?_
                dsimp only [put, List.set, ev, nth, List.nil_append, List.cons_append, md, Nat.reducePow, Nat.reduceAdd, Nat.reduceMul]
                refine WL_nil ?_
                refine WC_cond_true rfl ?_
                refine WC_region ?_
                refine WL_det rfl (det_move) ?_
                dsimp only [put, List.set, ev, nth, List.nil_append, List.cons_append, md, Nat.reducePow, Nat.reduceAdd, Nat.reduceMul]
                refine WL_det rfl (det_quoi (q := 4) rfl rfl (by omega) (.inl rfl) (.inr (by simp only [md]; first | omega | exact Nat.or_lt_two_pow (n := 32) (by omega) (by omega) | exact Nat.lt_of_le_of_lt Nat.and_le_left (by omega) | exact Nat.lt_of_le_of_lt Nat.and_le_right (by omega) | exact Nat.xor_lt_two_pow (n := 32) (by omega) (by omega)))) ?_
                dsimp only [put, List.set, ev, nth, List.nil_append, List.cons_append, md, Nat.reducePow, Nat.reduceAdd, Nat.reduceMul]
                refine WL_det rfl (det_mul' (q := 4) rfl rfl rfl (by simp only [md]; omega)) ?_
                dsimp only [put, List.set, ev, nth, List.nil_append, List.cons_append, md, Nat.reducePow, Nat.reduceAdd, Nat.reduceMul]
                refine WL_det rfl (det_assign) ?_
                dsimp only [put, List.set, ev, nth, List.nil_append, List.cons_append, md, Nat.reducePow, Nat.reduceAdd, Nat.reduceMul]
                refine WL_nil ?_
                refine WC_region ?_
                refine WL_det rfl (det_move) ?_
                dsimp only [put, List.set, ev, nth, List.nil_append, List.cons_append, md, Nat.reducePow, Nat.reduceAdd, Nat.reduceMul]
                refine WL_det rfl (det_move) ?_
                dsimp only [put, List.set, ev, nth, List.nil_append, List.cons_append, md, Nat.reducePow, Nat.reduceAdd, Nat.reduceMul]
                refine WL_rel rfl (rel_lit1 Try.underlying35 Try.zeroValue5 Try.sizeOf5 rfl rfl) ?_
                rintro _ _ ⟨bl, rfl, rfl⟩
                dsimp only [put, List.set, ev, nth, List.nil_append, List.cons_append, md, Nat.reducePow, Nat.reduceAdd, Nat.reduceMul]
                refine WL_chg rfl (chg_append1 0 1 rfl (hr3) rfl rfl rfl rfl Try.underlying35 ei5 rfl (by omega) (by decide)) ?_
                rintro v46 _ ⟨e46, hr46, rfl⟩
                dsimp only [put, List.eraseIdx, List.set, ev, nth, List.nil_append, List.cons_append, md, Nat.reducePow, Nat.reduceAdd, Nat.reduceMul]
                have hr46 : RowN .u8 5 (k + 1) (clf f) v46 e46 := RowN.snoc hr46 (by first | exact (clf_c f k hc0 (by omega) (by omega)).symm | exact (clf_a f k (by omega)).symm | exact (clf_b f k hfk (by omega)).symm | (exfalso; omega))
                refine WL_det rfl (det_assign) ?_
                dsimp only [put, List.set, ev, nth, List.nil_append, List.cons_append, md, Nat.reducePow, Nat.reduceAdd, Nat.reduceMul]
                refine WL_nil ?_
                refine WC_region ?_
                refine WL_det rfl (det_move) ?_
                dsimp only [put, List.set, ev, nth, List.nil_append, List.cons_append, md, Nat.reducePow, Nat.reduceAdd, Nat.reduceMul]
                refine WL_det rfl (det_addi (q := 1) rfl rfl (by omega)) ?_
                dsimp only [put, List.set, ev, nth, List.nil_append, List.cons_append, md, Nat.reducePow, Nat.reduceAdd, Nat.reduceMul]
                refine WL_det rfl (det_assign) ?_
                dsimp only [put, List.set, ev, nth, List.nil_append, List.cons_append, md, Nat.reducePow, Nat.reduceAdd, Nat.reduceMul]
                refine WL_nil ?_
                refine ⟨(k + 1, v46, e46), ?_, ?_, ?_, ?_⟩
                · rfl
                · rfl
                · exact ⟨by dsimp only; omega, hr46⟩
                · dsimp only; omega
              · refine WC_region ?_
                refine WL_det rfl (det_move) ?_
                dsimp only [put, List.set, ev, nth, List.nil_append, List.cons_append, md, Nat.reducePow, Nat.reduceAdd, Nat.reduceMul]
                refine WL_det rfl (Det.bv false (det_eql (q := 4) rfl rfl) (decide_eq_false h4)) ?_
                dsimp only [put, List.set, ev, nth, List.nil_append, List.cons_append, md, Nat.reducePow, Nat.reduceAdd, Nat.reduceMul]
                refine WL_det rfl (det_move) ?_
                dsimp only [put, List.set, ev, nth, List.nil_append, List.cons_append, md, Nat.reducePow, Nat.reduceAdd, Nat.reduceMul]
                refine WL_detG rfl (det_move) ?_
                dsimp only [put, List.set, ev, nth, List.nil_append, List.cons_append, md, Nat.reducePow, Nat.reduceAdd, Nat.reduceMul]
                refine WL_detG rfl (Det.bv false (det_eql (q := 8) rfl rfl) (decide_eq_false h8)) ?_
                dsimp only [put, List.set, ev, nth, List.nil_append, List.cons_append, md, Nat.reducePow, Nat.reduceAdd, Nat.reduceMul]
                refine WL_det rfl (det_pick_false rfl) ?_
                dsimp only [put, List.set, ev, nth, List.nil_append, List.cons_append, md, Nat.reducePow, Nat.reduceAdd, Nat.reduceMul]
                refine WL_det rfl (det_move) ?_
                dsimp only [put, List.set, ev, nth, List.nil_append, List.cons_append, md, Nat.reducePow, Nat.reduceAdd, Nat.reduceMul]
                refine WL_detG rfl (det_move) ?_
                dsimp only [put, List.set, ev, nth, List.nil_append, List.cons_append, md, Nat.reducePow, Nat.reduceAdd, Nat.reduceMul]
                refine WL_detG rfl (Det.bv false (det_eql (q := 12) rfl rfl) (decide_eq_false h12)) ?_
                dsimp only [put, List.set, ev, nth, List.nil_append, List.cons_append, md, Nat.reducePow, Nat.reduceAdd, Nat.reduceMul]
                refine WL_det rfl (det_pick_false rfl) ?_
                dsimp only [put, List.set, ev, nth, List.nil_append, List.cons_append, md, Nat.reducePow, Nat.reduceAdd, Nat.reduceMul]
                refine WL_nil ?_
                refine WC_cond_false rfl ?_
                refine WC_skip ?_
                refine WC_region ?_
                refine WL_det rfl (det_move) ?_
                dsimp only [put, List.set, ev, nth, List.nil_append, List.cons_append, md, Nat.reducePow, Nat.reduceAdd, Nat.reduceMul]
                refine WL_det rfl (det_move) ?_
                dsimp only [put, List.set, ev, nth, List.nil_append, List.cons_append, md, Nat.reducePow, Nat.reduceAdd, Nat.reduceMul]
                refine WL_rel rfl (rel_lit1 Try.underlying35 Try.zeroValue5 Try.sizeOf5 rfl rfl) ?_
                rintro _ _ ⟨bl, rfl, rfl⟩
                dsimp only [put, List.set, ev, nth, List.nil_append, List.cons_append, md, Nat.reducePow, Nat.reduceAdd, Nat.reduceMul]
                refine WL_chg rfl (chg_append1 0 1 rfl (hr3) rfl rfl rfl rfl Try.underlying35 ei5 rfl (by omega) (by decide)) ?_
                rintro v46 _ ⟨e46, hr46, rfl⟩
                dsimp only [put, List.eraseIdx, List.set, ev, nth, List.nil_append, List.cons_append, md, Nat.reducePow, Nat.reduceAdd, Nat.reduceMul]
                have hr46 : RowN .u8 5 (k + 1) (clf f) v46 e46 := RowN.snoc hr46 (by first | exact (clf_c f k hc0 (by omega) (by omega)).symm | exact (clf_a f k (by omega)).symm | exact (clf_b f k hfk (by omega)).symm | (exfalso; omega))
                refine WL_det rfl (det_assign) ?_
                dsimp only [put, List.set, ev, nth, List.nil_append, List.cons_append, md, Nat.reducePow, Nat.reduceAdd, Nat.reduceMul]
                refine WL_nil ?_
                refine WC_region ?_
                refine WL_det rfl (det_move) ?_
                dsimp only [put, List.set, ev, nth, List.nil_append, List.cons_append, md, Nat.reducePow, Nat.reduceAdd, Nat.reduceMul]
                refine WL_det rfl (det_addi (q := 1) rfl rfl (by omega)) ?_
                dsimp only [put, List.set, ev, nth, List.nil_append, List.cons_append, md, Nat.reducePow, Nat.reduceAdd, Nat.reduceMul]
                refine WL_det rfl (det_assign) ?_
                dsimp only [put, List.set, ev, nth, List.nil_append, List.cons_append, md, Nat.reducePow, Nat.reduceAdd, Nat.reduceMul]
                refine WL_nil ?_
                refine ⟨(k + 1, v46, e46), ?_, ?_, ?_, ?_⟩
                · rfl
                · rfl
                · exact ⟨by dsimp only; omega, hr46⟩
                · dsimp only; omega
        · by_cases h11 : k = 11
          · refine WC_region ?_
            refine WL_det rfl (det_move) ?_
            dsimp only [put, List.set, ev, nth, List.nil_append, List.cons_append, md, Nat.reducePow, Nat.reduceAdd, Nat.reduceMul]
            refine WL_det rfl (Det.bv false (det_eql (q := 3) rfl rfl) (decide_eq_false h3)) ?_
            dsimp only [put, List.set, ev, nth, List.nil_append, List.cons_append, md, Nat.reducePow, Nat.reduceAdd, Nat.reduceMul]
            refine WL_det rfl (det_move) ?_
            dsimp only [put, List.set, ev, nth, List.nil_append, List.cons_append, md, Nat.reducePow, Nat.reduceAdd, Nat.reduceMul]
            refine WL_detG rfl (det_move) ?_
            dsimp only [put, List.set, ev, nth, List.nil_append, List.cons_append, md, Nat.reducePow, Nat.reduceAdd, Nat.reduceMul]
            refine WL_detG rfl (Det.bv false (det_eql (q := 7) rfl rfl) (decide_eq_false h7)) ?_
            dsimp only [put, List.set, ev, nth, List.nil_append, List.cons_append, md, Nat.reducePow, Nat.reduceAdd, Nat.reduceMul]
            refine WL_det rfl (det_pick_false rfl) ?_
            dsimp only [put, List.set, ev, nth, List.nil_append, List.cons_append, md, Nat.reducePow, Nat.reduceAdd, Nat.reduceMul]
            refine WL_det rfl (det_move) ?_
            dsimp only [put, List.set, ev, nth, List.nil_append, List.cons_append, md, Nat.reducePow, Nat.reduceAdd, Nat.reduceMul]
            refine WL_detG rfl (det_move) ?_
            dsimp only [put, List.set, ev, nth, List.nil_append, List.cons_append, md, Nat.reducePow, Nat.reduceAdd, Nat.reduceMul]
            refine WL_detG rfl (Det.bv true (det_eql (q := 11) rfl rfl) (decide_eq_true h11)) ?_
            dsimp only [put, List.set, ev, nth, List.nil_append, List.cons_append, md, Nat.reducePow, Nat.reduceAdd, Nat.reduceMul]
            refine WL_det rfl (det_pick_false rfl) ?_
            dsimp only [put, List.set, ev, nth, List.nil_append, List.cons_append, md, Nat.reducePow, Nat.reduceAdd, Nat.reduceMul]
            refine WL_det rfl (det_move) ?_
            dsimp only [put, List.set, ev, nth, List.nil_append, List.cons_append, md, Nat.reducePow, Nat.reduceAdd, Nat.reduceMul]
            refine WL_skipG rfl ?_
            dsimp only [put, List.set, ev, nth, List.nil_append, List.cons_append, md, Nat.reducePow, Nat.reduceAdd, Nat.reduceMul]
            refine WL_skipG rfl ?_
            dsimp only [put, List.set, ev, nth, List.nil_append, List.cons_append, md, Nat.reducePow, Nat.reduceAdd, Nat.reduceMul]
            refine WL_det rfl (det_pick_true rfl) ?_
            dsimp only [put, List.set, ev, nth, List.nil_append, List.cons_append, md, Nat.reducePow, Nat.reduceAdd, Nat.reduceMul]
            refine WL_nil ?_
            refine WC_cond_true rfl ?_
            refine WC_region ?_
            refine WL_det rfl (det_move) ?_
            dsimp only [put, List.set, ev, nth, List.nil_append, List.cons_append, md, Nat.reducePow, Nat.reduceAdd, Nat.reduceMul]
            refine WL_det rfl (det_remi (q := 16) rfl rfl (by omega)) ?_
            dsimp only [put, List.set, ev, nth, List.nil_append, List.cons_append, md, Nat.reducePow, Nat.reduceAdd, Nat.reduceMul]
            refine WL_det rfl (det_assign) ?_
            dsimp only [put, List.set, ev, nth, List.nil_append, List.cons_append, md, Nat.reducePow, Nat.reduceAdd, Nat.reduceMul]
            refine WL_nil ?_
            refine WC_seq ?_
            refine WC_seq ?_
            by_cases h4 : k = 4
            · refine WC_region ?_
              refine WL_det rfl (det_move) ?_
              dsimp only [put, List.set, ev, nth, List.nil_append, List.cons_append, md, Nat.reducePow, Nat.reduceAdd, Nat.reduceMul]
              refine WL_det rfl (Det.bv true (det_eql (q := 4) rfl rfl) (decide_eq_true h4)) ?_
              dsimp only [put, List.set, ev, nth, List.nil_append, List.cons_append, md, Nat.reducePow, Nat.reduceAdd, Nat.reduceMul]
              refine WL_det rfl (det_move) ?_
              dsimp only [put, List.set, ev, nth, List.nil_append, List.cons_append, md, Nat.reducePow, Nat.reduceAdd, Nat.reduceMul]
              refine WL_skipG rfl ?_
              dsimp only [put, List.set, ev, nth, List.nil_append, List.cons_append, md, Nat.reducePow, Nat.reduceAdd, Nat.reduceMul]
              refine WL_skipG rfl ?_
              dsimp only [put, List.set, ev, nth, List.nil_append, List.cons_append, md, Nat.reducePow, Nat.reduceAdd, Nat.reduceMul]
              refine WL_det rfl (det_pick_true rfl) ?_
              dsimp only [put, List.set, ev, nth, List.nil_append, List.cons_append, md, Nat.reducePow, Nat.reduceAdd, Nat.reduceMul]
              refine WL_det rfl (det_move) ?_
              dsimp only [put, List.set, ev, nth, List.nil_append, List.cons_append, md, Nat.reducePow, Nat.reduceAdd, Nat.reduceMul]
              refine WL_skipG rfl ?_
              dsimp only [put, List.set, ev, nth, List.nil_append, List.cons_append, md, Nat.reducePow, Nat.reduceAdd, Nat.reduceMul]
              refine WL_skipG rfl ?_
              dsimp only [put, List.set, ev, nth, List.nil_append, List.cons_append, md, Nat.reducePow, Nat.reduceAdd, Nat.reduceMul]
              refine WL_det rfl (det_pick_true rfl) ?_
              dsimp only [put, List.set, ev, nth, List.nil_append, List.cons_append, md, Nat.reducePow, Nat.reduceAdd, Nat.reduceMul]
              refine WL_nil ?_
              refine WC_cond_true rfl ?_
              refine WC_region ?_
              refine WL_det rfl (det_move) ?_
              dsimp only [put, List.set, ev, nth, List.nil_append, List.cons_append, md, Nat.reducePow, Nat.reduceAdd, Nat.reduceMul]
              refine WL_det rfl (det_quoi (q := 4) rfl rfl (by omega) (.inl rfl) (.inr (by simp only [md]; first | omega | exact Nat.or_lt_two_pow (n := 32) (by omega) (by omega) | exact Nat.lt_of_le_of_lt Nat.and_le_left (by omega) | exact Nat.lt_of_le_of_lt Nat.and_le_right (by omega) | exact Nat.xor_lt_two_pow (n := 32) (by omega) (by omega)))) ?_
              dsimp only [put, List.set, ev, nth, List.nil_append, List.cons_append, md, Nat.reducePow, Nat.reduceAdd, Nat.reduceMul]
              refine WL_det rfl (det_mul' (q := 4) rfl rfl rfl (by simp only [md]; omega)) ?_
              dsimp only [put, List.set, ev, nth, List.nil_append, List.cons_append, md, Nat.reducePow, Nat.reduceAdd, Nat.reduceMul]
              refine WL_det rfl (det_assign) ?_
              dsimp only [put, List.set, ev, nth, List.nil_append, List.cons_append, md, Nat.reducePow, Nat.reduceAdd, Nat.reduceMul]
              refine WL_nil ?_
              refine WC_region ?_
              refine WL_det rfl (det_move) ?_
              dsimp only [put, List.set, ev, nth, List.nil_append, List.cons_append, md, Nat.reducePow, Nat.reduceAdd, Nat.reduceMul]
              refine WL_det rfl (det_move) ?_
              dsimp only [put, List.set, ev, nth, List.nil_append, List.cons_append, md, Nat.reducePow, Nat.reduceAdd, Nat.reduceMul]
              refine WL_rel rfl (rel_lit1 Try.underlying35 Try.zeroValue5 Try.sizeOf5 rfl rfl) ?_
              rintro _ _ ⟨bl, rfl, rfl⟩
              dsimp only [put, List.set, ev, nth, List.nil_append, List.cons_append, md, Nat.reducePow, Nat.reduceAdd, Nat.reduceMul]
              refine WL_chg rfl (chg_append1 0 1 rfl (hr3) rfl rfl rfl rfl Try.underlying35 ei5 rfl (by omega) (by decide)) ?_
              rintro v46 _ ⟨e46, hr46, rfl⟩
              dsimp only [put, List.eraseIdx, List.set, ev, nth, List.nil_append, List.cons_append, md, Nat.reducePow, Nat.reduceAdd, Nat.reduceMul]
              have hr46 : RowN .u8 5 (k + 1) (clf f) v46 e46 := RowN.snoc hr46 (by first | exact (clf_c f k hc0 (by omega) (by omega)).symm | exact (clf_a f k (by omega)).symm | exact (clf_b f k hfk (by omega)).symm | (exfalso; omega))
              refine WL_det rfl (det_assign) ?_
              dsimp only [put, List.set, ev, nth, List.nil_append, List.cons_append, md, Nat.reducePow, Nat.reduceAdd, Nat.reduceMul]
              refine WL_nil ?_
              refine WC_region ?_
              refine WL_det rfl (det_move) ?_
              dsimp only [put, List.set, ev, nth, List.nil_append, List.cons_append, md, Nat.reducePow, Nat.reduceAdd, Nat.reduceMul]
              refine WL_det rfl (det_addi (q := 1) rfl rfl (by omega)) ?_
              dsimp only [put, List.set, ev, nth, List.nil_append, List.cons_append, md, Nat.reducePow, Nat.reduceAdd, Nat.reduceMul]
              refine WL_det rfl (det_assign) ?_
              dsimp only [put, List.set, ev, nth, List.nil_append, List.cons_append, md, Nat.reducePow, Nat.reduceAdd, Nat.reduceMul]
              refine WL_nil ?_
              refine ⟨(k + 1, v46, e46), ?_, ?_, ?_, ?_⟩
              · rfl
              · rfl
              · exact ⟨by dsimp only; omega, hr46⟩
              · dsimp only; omega
            · by_cases h8 : k = 8
              · refine WC_region ?_
                refine WL_det rfl (det_move) ?_
                dsimp only [put, List.set, ev, nth, List.nil_append, List.cons_append, md, Nat.reducePow, Nat.reduceAdd, Nat.reduceMul]
                refine WL_det rfl (Det.bv false (det_eql (q := 4) rfl rfl) (decide_eq_false h4)) ?_
                dsimp only [put, List.set, ev, nth, List.nil_append, List.cons_append, md, Nat.reducePow, Nat.reduceAdd, Nat.reduceMul]
                refine WL_det rfl (det_move) ?_
                dsimp only [put, List.set, ev, nth, List.nil_append, List.cons_append, md, Nat.reducePow, Nat.reduceAdd, Nat.reduceMul]
                refine WL_detG rfl (det_move) ?_
                dsimp only [put, List.set, ev, nth, List.nil_append, List.cons_append, md, Nat.reducePow, Nat.reduceAdd, Nat.reduceMul]
                refine WL_detG rfl (Det.bv true (det_eql (q := 8) rfl rfl) (decide_eq_true h8)) ?_
                dsimp only [put, List.set, ev, nth, List.nil_append, List.cons_append, md, Nat.reducePow, Nat.reduceAdd, Nat.reduceMul]
                refine WL_det rfl (det_pick_false rfl) ?_
                dsimp only [put, List.set, ev, nth, List.nil_append, List.cons_append, md, Nat.reducePow, Nat.reduceAdd, Nat.reduceMul]
                refine WL_det rfl (det_move) ?_
                dsimp only [put, List.set, ev, nth, List.nil_append, List.cons_append, md, Nat.reducePow, Nat.reduceAdd, Nat.reduceMul]
                refine WL_skipG rfl ?_
                dsimp only [put, List.set, ev, nth, List.nil_append, List.cons_append, md, Nat.reducePow, Nat.reduceAdd, Nat.reduceMul]
                refine WL_skipG rfl ?_
                dsimp only [put, List.set, ev, nth, List.nil_append, List.cons_append, md, Nat.reducePow, Nat.reduceAdd, Nat.reduceMul]
                refine WL_det rfl (det_pick_true rfl) ?_
                dsimp only [put, List.set, ev, nth, List.nil_append, List.cons_append, md, Nat.reducePow, Nat.reduceAdd, Nat.reduceMul]
                refine WL_nil ?_
                refine WC_cond_true rfl ?_
                refine WC_region ?_
                refine WL_det rfl (det_move) ?_
                dsimp only [put, List.set, ev, nth, List.nil_append, List.cons_append, md, Nat.reducePow, Nat.reduceAdd, Nat.reduceMul]
                refine WL_det rfl (det_quoi (q := 4) rfl rfl (by omega) (.inl rfl) (.inr (by simp only [md]; first | omega | exact Nat.or_lt_two_pow (n := 32) (by omega) (by omega) | exact Nat.lt_of_le_of_lt Nat.and_le_left (by omega) | exact Nat.lt_of_le_of_lt Nat.and_le_right (by omega) | exact Nat.xor_lt_two_pow (n := 32) (by omega) (by omega)))) ?_
                dsimp only [put, List.set, ev, nth, List.nil_append, List.cons_append, md, Nat.reducePow, Nat.reduceAdd, Nat.reduceMul]
                refine WL_det rfl (det_mul' (q := 4) rfl rfl rfl (by simp only [md]; omega)) ?_
                dsimp only [put, List.set, ev, nth, List.nil_append, List.cons_append, md, Nat.reducePow, Nat.reduceAdd, Nat.reduceMul]
                refine WL_det rfl (det_assign) ?_
                dsimp only [put, List.set, ev, nth, List.nil_append, List.cons_append, md, Nat.reducePow, Nat.reduceAdd, Nat.reduceMul]
                refine WL_nil ?_
                refine WC_region ?_
                refine WL_det rfl (det_move) ?_
                dsimp only [put, List.set, ev, nth, List.nil_append, List.cons_append, md, Nat.reducePow, Nat.reduceAdd, Nat.reduceMul]
                refine WL_det rfl (det_move) ?_
                dsimp only [put, List.set, ev, nth, List.nil_append, List.cons_append, md, Nat.reducePow, Nat.reduceAdd, Nat.reduceMul]
                refine WL_rel rfl (rel_lit1 Try.underlying35 Try.zeroValue5 Try.sizeOf5 rfl rfl) ?_
                rintro _ _ ⟨bl, rfl, rfl⟩
                dsimp only [put, List.set, ev, nth, List.nil_append, List.cons_append, md, Nat.reducePow, Nat.reduceAdd, Nat.reduceMul]
                refine WL_chg rfl (chg_append1 0 1 rfl (hr3) rfl rfl rfl rfl Try.underlying35 ei5 rfl (by omega) (by decide)) ?_
                rintro v46 _ ⟨e46, hr46, rfl⟩
                dsimp only [put, List.eraseIdx, List.set, ev, nth, List.nil_append, List.cons_append, md, Nat.reducePow, Nat.reduceAdd, Nat.reduceMul]
                have hr46 : RowN .u8 5 (k + 1) (clf f) v46 e46 := RowN.snoc hr46 (by first | exact (clf_c f k hc0 (by omega) (by omega)).symm | exact (clf_a f k (by omega)).symm | exact (clf_b f k hfk (by omega)).symm | (exfalso; omega))
                refine WL_det rfl (det_assign) ?_
                dsimp only [put, List.set, ev, nth, List.nil_append, List.cons_append, md, Nat.reducePow, Nat.reduceAdd, Nat.reduceMul]
                refine WL_nil ?_
                refine WC_region ?_
                refine WL_det rfl (det_move) ?_
                dsimp only [put, List.set, ev, nth, List.nil_append, List.cons_append, md, Nat.reducePow, Nat.reduceAdd, Nat.reduceMul]
                refine WL_det rfl (det_addi (q := 1) rfl rfl (by omega)) ?_
                dsimp only [put, List.set, ev, nth, List.nil_append, List.cons_append, md, Nat.reducePow, Nat.reduceAdd, Nat.reduceMul]
                refine WL_det rfl (det_assign) ?_
                dsimp only [put, List.set, ev, nth, List.nil_append, List.cons_append, md, Nat.reducePow, Nat.reduceAdd, Nat.reduceMul]
                refine WL_nil ?_
                refine ⟨(k + 1, v46, e46), ?_, ?_, ?_, ?_⟩
                · rfl
                · rfl
                · exact ⟨by dsimp only; omega, hr46⟩
                · dsimp only; omega
              · by_cases h12 : k = 12
                · refine WC_region ?_
                  refine WL_det rfl (det_move) ?_
                  dsimp only [put, List.set, ev, nth, List.nil_append, List.cons_append, md, Nat.reducePow, Nat.reduceAdd, Nat.reduceMul]
                  refine WL_det rfl (Det.bv false (det_eql (q := 4) rfl rfl) (decide_eq_false h4)) ?_
                  dsimp only [put, List.set, ev, nth, List.nil_append, List.cons_append, md, Nat.reducePow, Nat.reduceAdd, Nat.reduceMul]
                  refine WL_det rfl (det_move) ?_
                  dsimp only [put, List.set, ev, nth, List.nil_append, List.cons_append, md, Nat.reducePow, Nat.reduceAdd, Nat.reduceMul]
                  refine WL_detG rfl (det_move) ?_
                  dsimp only [put, List.set, ev, nth, List.nil_append, List.cons_append, md, Nat.reducePow, Nat.reduceAdd, Nat.reduceMul]
                  refine WL_detG rfl (Det.bv false (det_eql (q := 8) rfl rfl) (decide_eq_false h8)) ?_
                  dsimp only [put, List.set, ev, nth, List.nil_append, List.cons_append, md, Nat.reducePow, Nat.reduceAdd, Nat.reduceMul]
                  refine WL_det rfl (det_pick_false rfl) ?_
                  dsimp only [put, List.set, ev, nth, List.nil_append, List.cons_append, md, Nat.reducePow, Nat.reduceAdd, Nat.reduceMul]
                  refine WL_det rfl (det_move) ?_
                  dsimp only [put, List.set, ev, nth, List.nil_append, List.cons_append, md, Nat.reducePow, Nat.reduceAdd, Nat.reduceMul]
                  refine WL_detG rfl (det_move) ?_
                  dsimp only [put, List.set, ev, nth, List.nil_append, List.cons_append, md, Nat.reducePow, Nat.reduceAdd, Nat.reduceMul]
                  refine WL_detG rfl (Det.bv true (det_eql (q := 12) rfl rfl) (decide_eq_true h12)) ?_
                  dsimp only [put, List.set, ev, nth, List.nil_append, List.cons_append, md, Nat.reducePow, Nat.reduceAdd, Nat.reduceMul]
                  refine WL_det rfl (det_pick_false rfl) ?_
                  dsimp only [put, List.set, ev, nth, List.nil_append, List.cons_append, md, Nat.reducePow, Nat.reduceAdd, Nat.reduceMul]
                  refine WL_nil ?_
                  refine WC_cond_true rfl ?_
                  refine WC_region ?_
                  refine WL_det rfl (det_move) ?_
                  dsimp only [put, List.set, ev, nth, List.nil_append, List.cons_append, md, Nat.reducePow, Nat.reduceAdd, Nat.reduceMul]
                  refine WL_det rfl (det_quoi (q := 4) rfl rfl (by omega) (.inl rfl) (.inr (by simp only [md]; first | omega | exact Nat.or_lt_two_pow (n := 32) (by omega) (by omega) | exact Nat.lt_of_le_of_lt Nat.and_le_left (by omega) | exact Nat.lt_of_le_of_lt Nat.and_le_right (by omega) | exact Nat.xor_lt_two_pow (n := 32) (by omega) (by omega)))) ?_
                  dsimp only [put, List.set, ev, nth, List.nil_append, List.cons_append, md, Nat.reducePow, Nat.reduceAdd, Nat.reduceMul]
                  refine WL_det rfl (det_mul' (q := 4) rfl rfl rfl (by simp only [md]; omega)) ?_
                  dsimp only [put, List.set, ev, nth, List.nil_append, List.cons_append, md, Nat.reducePow, Nat.reduceAdd, Nat.reduceMul]
                  refine WL_det rfl (det_assign) ?_
                  dsimp only [put, List.set, ev, nth, List.nil_append, List.cons_append, md, Nat.reducePow, Nat.reduceAdd, Nat.reduceMul]
                  refine WL_nil ?_
                  refine WC_region ?_
                  refine WL_det rfl (det_move) ?_
                  dsimp only [put, List.set, ev, nth, List.nil_append, List.cons_append, md, Nat.reducePow, Nat.reduceAdd, Nat.reduceMul]
                  refine WL_det rfl (det_move) ?_
                  dsimp only [put, List.set, ev, nth, List.nil_append, List.cons_append, md, Nat.reducePow, Nat.reduceAdd, Nat.reduceMul]
                  refine WL_rel rfl (rel_lit1 Try.underlying35 Try.zeroValue5 Try.sizeOf5 rfl rfl) ?_
                  rintro _ _ ⟨bl, rfl, rfl⟩
                  dsimp only [put, List.set, ev, nth, List.nil_append, List.cons_append, md, Nat.reducePow, Nat.reduceAdd, Nat.reduceMul]
                  refine WL_chg rfl (chg_append1 0 1 rfl (hr3) rfl rfl rfl rfl Try.underlying35 ei5 rfl (by omega) (by decide)) ?_
                  rintro v46 _ ⟨e46, hr46, rfl⟩
                  dsimp only [put, List.eraseIdx, List.set, ev, nth, List.nil_append, List.cons_append, md, Nat.reducePow, Nat.reduceAdd, Nat.reduceMul]
                  have hr46 : RowN .u8 5 (k + 1) (clf f) v46 e46 := RowN.snoc hr46 (by first | exact (clf_c f k hc0 (by omega) (by omega)).symm | exact (clf_a f k (by omega)).symm | exact (clf_b f k hfk (by omega)).symm | (exfalso; omega))
                  refine WL_det rfl (det_assign) ?_
                  dsimp only [put, List.set, ev, nth, List.nil_append, List.cons_append, md, Nat.reducePow, Nat.reduceAdd, Nat.reduceMul]
                  refine WL_nil ?_
                  refine WC_region ?_
                  refine WL_det rfl (det_move) ?_
                  dsimp only [put, List.set, ev, nth, List.nil_append, List.cons_append, md, Nat.reducePow, Nat.reduceAdd, Nat.reduceMul]
                  refine WL_det rfl (det_addi (q := 1) rfl rfl (by omega)) ?_
                  dsimp only [put, List.set, ev, nth, List.nil_append, List.cons_append, md, Nat.reducePow, Nat.reduceAdd, Nat.reduceMul]
                  refine WL_det rfl (det_assign) ?_
                  dsimp only [put, List.set, ev, nth, List.nil_append, List.cons_append, md, Nat.reducePow, Nat.reduceAdd, Nat.reduceMul]
                  refine WL_nil ?_
                  refine ⟨(k + 1, v46, e46), ?_, ?_, ?_, ?_⟩
                  · rfl
                  · rfl
                  · exact ⟨by dsimp only; omega, hr46⟩
                  · dsimp only; omega
                · refine WC_region ?_
                  refine WL_det rfl (det_move) ?_
                  dsimp only [put, List.set, ev, nth, List.nil_append, List.cons_append, md, Nat.reducePow, Nat.reduceAdd, Nat.reduceMul]
                  refine WL_det rfl (Det.bv false (det_eql (q := 4) rfl rfl) (decide_eq_false h4)) ?_
                  dsimp only [put, List.set, ev, nth, List.nil_append, List.cons_append, md, Nat.reducePow, Nat.reduceAdd, Nat.reduceMul]
                  refine WL_det rfl (det_move) ?_
                  dsimp only [put, List.set, ev, nth, List.nil_append, List.cons_append, md, Nat.reducePow, Nat.reduceAdd, Nat.reduceMul]
                  refine WL_detG rfl (det_move) ?_
                  dsimp only [put, List.set, ev, nth, List.nil_append, List.cons_append, md, Nat.reducePow, Nat.reduceAdd, Nat.reduceMul]
                  refine WL_detG rfl (Det.bv false (det_eql (q := 8) rfl rfl) (decide_eq_false h8)) ?_
                  dsimp only [put, List.set, ev, nth, List.nil_append, List.cons_append, md, Nat.reducePow, Nat.reduceAdd, Nat.reduceMul]
                  refine WL_det rfl (det_pick_false rfl) ?_
                  dsimp only [put, List.set, ev, nth, List.nil_append, List.cons_append, md, Nat.reducePow, Nat.reduceAdd, Nat.reduceMul]
                  refine WL_det rfl (det_move) ?_
                  dsimp only [put, List.set, ev, nth, List.nil_append, List.cons_append, md, Nat.reducePow, Nat.reduceAdd, Nat.reduceMul]
                  refine WL_detG rfl (det_move) ?_
                  dsimp only [put, List.set, ev, nth, List.nil_append, List.cons_append, md, Nat.reducePow, Nat.reduceAdd, Nat.reduceMul]
                  refine WL_detG rfl (Det.bv false (det_eql (q := 12) rfl rfl) (decide_eq_false h12)) ?_
                  dsimp only [put, List.set, ev, nth, List.nil_append, List.cons_append, md, Nat.reducePow, Nat.reduceAdd, Nat.reduceMul]
                  refine WL_det rfl (det_pick_false rfl) ?_
                  dsimp only [put, List.set, ev, nth, List.nil_append, List.cons_append, md, Nat.reducePow, Nat.reduceAdd, Nat.reduceMul]
                  refine WL_nil ?_
                  refine WC_cond_false rfl ?_
                  refine WC_skip ?_
                  refine WC_region ?_
                  refine WL_det rfl (det_move) ?_
                  dsimp only [put, List.set, ev, nth, List.nil_append, List.cons_append, md, Nat.reducePow, Nat.reduceAdd, Nat.reduceMul]
                  refine WL_det rfl (det_move) ?_
                  dsimp only [put, List.set, ev, nth, List.nil_append, List.cons_append, md, Nat.reducePow, Nat.reduceAdd, Nat.reduceMul]
                  refine WL_rel rfl (rel_lit1 Try.underlying35 Try.zeroValue5 Try.sizeOf5 rfl rfl) ?_
                  rintro _ _ ⟨bl, rfl, rfl⟩
                  dsimp only [put, List.set, ev, nth, List.nil_append, List.cons_append, md, Nat.reducePow, Nat.reduceAdd, Nat.reduceMul]
                  refine WL_chg rfl (chg_append1 0 1 rfl (hr3) rfl rfl rfl rfl Try.underlying35 ei5 rfl (by omega) (by decide)) ?_
                  rintro v46 _ ⟨e46, hr46, rfl⟩
                  dsimp only [put, List.eraseIdx, List.set, ev, nth, List.nil_append, List.cons_append, md, Nat.reducePow, Nat.reduceAdd, Nat.reduceMul]
                  have hr46 : RowN .u8 5 (k + 1) (clf f) v46 e46 := RowN.snoc hr46 (by first | exact (clf_c f k hc0 (by omega) (by omega)).symm | exact (clf_a f k (by omega)).symm | exact (clf_b f k hfk (by omega)).symm | (exfalso; omega))
                  refine WL_det rfl (det_assign) ?_
                  dsimp only [put, List.set, ev, nth, List.nil_append, List.cons_append, md, Nat.reducePow, Nat.reduceAdd, Nat.reduceMul]
                  refine WL_nil ?_
                  refine WC_region ?_
                  refine WL_det rfl (det_move) ?_
                  dsimp only [put, List.set, ev, nth, List.nil_append, List.cons_append, md, Nat.reducePow, Nat.reduceAdd, Nat.reduceMul]
                  refine WL_det rfl (det_addi (q := 1) rfl rfl (by omega)) ?_
                  dsimp only [put, List.set, ev, nth, List.nil_append, List.cons_append, md, Nat.reducePow, Nat.reduceAdd, Nat.reduceMul]
                  refine WL_det rfl (det_assign) ?_
                  dsimp only [put, List.set, ev, nth, List.nil_append, List.cons_append, md, Nat.reducePow, Nat.reduceAdd, Nat.reduceMul]
                  refine WL_nil ?_
                  refine ⟨(k + 1, v46, e46), ?_, ?_, ?_, ?_⟩
                  · rfl
                  · rfl
                  · exact ⟨by dsimp only; omega, hr46⟩
                  · dsimp only; omega
          · by_cases h15 : k = 15
            · refine WC_region ?_
              refine WL_det rfl (det_move) ?_
              dsimp only [put, List.set, ev, nth, List.nil_append, List.cons_append, md, Nat.reducePow, Nat.reduceAdd, Nat.reduceMul]
              refine WL_det rfl (Det.bv false (det_eql (q := 3) rfl rfl) (decide_eq_false h3)) ?_
              dsimp only [put, List.set, ev, nth, List.nil_append, List.cons_append, md, Nat.reducePow, Nat.reduceAdd, Nat.reduceMul]
              refine WL_det rfl (det_move) ?_
              dsimp only [put, List.set, ev, nth, List.nil_append, List.cons_append, md, Nat.reducePow, Nat.reduceAdd, Nat.reduceMul]
              refine WL_detG rfl (det_move) ?_
              dsimp only [put, List.set, ev, nth, List.nil_append, List.cons_append, md, Nat.reducePow, Nat.reduceAdd, Nat.reduceMul]
              refine WL_detG rfl (Det.bv false (det_eql (q := 7) rfl rfl) (decide_eq_false h7)) ?_
              dsimp only [put, List.set, ev, nth, List.nil_append, List.cons_append, md, Nat.reducePow, Nat.reduceAdd, Nat.reduceMul]
              refine WL_det rfl (det_pick_false rfl) ?_
              dsimp only [put, List.set, ev, nth, List.nil_append, List.cons_append, md, Nat.reducePow, Nat.reduceAdd, Nat.reduceMul]
              refine WL_det rfl (det_move) ?_
              dsimp only [put, List.set, ev, nth, List.nil_append, List.cons_append, md, Nat.reducePow, Nat.reduceAdd, Nat.reduceMul]
              refine WL_detG rfl (det_move) ?_
              dsimp only [put, List.set, ev, nth, List.nil_append, List.cons_append, md, Nat.reducePow, Nat.reduceAdd, Nat.reduceMul]
              refine WL_detG rfl (Det.bv false (det_eql (q := 11) rfl rfl) (decide_eq_false h11)) ?_
              dsimp only [put, List.set, ev, nth, List.nil_append, List.cons_append, md, Nat.reducePow, Nat.reduceAdd, Nat.reduceMul]
              refine WL_det rfl (det_pick_false rfl) ?_
              dsimp only [put, List.set, ev, nth, List.nil_append, List.cons_append, md, Nat.reducePow, Nat.reduceAdd, Nat.reduceMul]
              refine WL_det rfl (det_move) ?_
              dsimp only [put, List.set, ev, nth, List.nil_append, List.cons_append, md, Nat.reducePow, Nat.reduceAdd, Nat.reduceMul]
              refine WL_detG rfl (det_move) ?_
              dsimp only [put, List.set, ev, nth, List.nil_append, List.cons_append, md, Nat.reducePow, Nat.reduceAdd, Nat.reduceMul]
              refine WL_detG rfl (Det.bv true (det_eql (q := 15) rfl rfl) (decide_eq_true h15)) ?_
              dsimp only [put, List.set, ev, nth, List.nil_append, List.cons_append, md, Nat.reducePow, Nat.reduceAdd, Nat.reduceMul]
              refine WL_det rfl (det_pick_false rfl) ?_
              dsimp only [put, List.set, ev, nth, List.nil_append, List.cons_append, md, Nat.reducePow, Nat.reduceAdd, Nat.reduceMul]
              refine WL_nil ?_
              refine WC_cond_true rfl ?_
              refine WC_region ?_
              refine WL_det rfl (det_move) ?_
              dsimp only [put, List.set, ev, nth, List.nil_append, List.cons_append, md, Nat.reducePow, Nat.reduceAdd, Nat.reduceMul]
              refine WL_det rfl (det_remi (q := 16) rfl rfl (by omega)) ?_
              dsimp only [put, List.set, ev, nth, List.nil_append, List.cons_append, md, Nat.reducePow, Nat.reduceAdd, Nat.reduceMul]
              refine WL_det rfl (det_assign) ?_
              dsimp only [put, List.set, ev, nth, List.nil_append, List.cons_append, md, Nat.reducePow, Nat.reduceAdd, Nat.reduceMul]
              refine WL_nil ?_
              refine WC_seq ?_
              refine WC_seq ?_
              by_cases h4 : k = 4
              · refine WC_region ?_
                refine WL_det rfl (det_move) ?_
                dsimp only [put, List.set, ev, nth, List.nil_append, List.cons_append, md, Nat.reducePow, Nat.reduceAdd, Nat.reduceMul]
                refine WL_det rfl (Det.bv true (det_eql (q := 4) rfl rfl) (decide_eq_true h4)) ?_
                dsimp only [put, List.set, ev, nth, List.nil_append, List.cons_append, md, Nat.reducePow, Nat.reduceAdd, Nat.reduceMul]
                refine WL_det rfl (det_move) ?_
                dsimp only [put, List.set, ev, nth, List.nil_append, List.cons_append, md, Nat.reducePow, Nat.reduceAdd, Nat.reduceMul]
                refine WL_skipG rfl ?_
                dsimp only [put, List.set, ev, nth, List.nil_append, List.cons_append, md, Nat.reducePow, Nat.reduceAdd, Nat.reduceMul]
                refine WL_skipG rfl ?_
                dsimp only [put, List.set, ev, nth, List.nil_append, List.cons_append, md, Nat.reducePow, Nat.reduceAdd, Nat.reduceMul]
                refine WL_det rfl (det_pick_true rfl) ?_
                dsimp only [put, List.set, ev, nth, List.nil_append, List.cons_append, md, Nat.reducePow, Nat.reduceAdd, Nat.reduceMul]
                refine WL_det rfl (det_move) ?_
                dsimp only [put, List.set, ev, nth, List.nil_append, List.cons_append, md, Nat.reducePow, Nat.reduceAdd, Nat.reduceMul]
                refine WL_skipG rfl ?_
                dsimp only [put, List.set, ev, nth, List.nil_append, List.cons_append, md, Nat.reducePow, Nat.reduceAdd, Nat.reduceMul]
                refine WL_skipG rfl ?_
                dsimp only [put, List.set, ev, nth, List.nil_append, List.cons_append, md, Nat.reducePow, Nat.reduceAdd, Nat.reduceMul]
                refine WL_det rfl (det_pick_true rfl) ?_
                dsimp only [put, List.set, ev, nth, List.nil_append, List.cons_append, md, Nat.reducePow, Nat.reduceAdd, Nat.reduceMul]
                refine WL_nil ?_
                refine WC_cond_true rfl ?_
                refine WC_region ?_
                refine WL_det rfl (det_move) ?_
                dsimp only [put, List.set, ev, nth, List.nil_append, List.cons_append, md, Nat.reducePow, Nat.reduceAdd, Nat.reduceMul]
                refine WL_det rfl (det_quoi (q := 4) rfl rfl (by omega) (.inl rfl) (.inr (by simp only [md]; first | omega | exact Nat.or_lt_two_pow (n := 32) (by omega) (by omega) | exact Nat.lt_of_le_of_lt Nat.and_le_left (by omega) | exact Nat.lt_of_le_of_lt Nat.and_le_right (by omega) | exact Nat.xor_lt_two_pow (n := 32) (by omega) (by omega)))) ?_
                dsimp only [put, List.set, ev, nth, List.nil_append, List.cons_append, md, Nat.reducePow, Nat.reduceAdd, Nat.reduceMul]
                refine WL_det rfl (det_mul' (q := 4) rfl rfl rfl (by simp only [md]; omega)) ?_
                dsimp only [put, List.set, ev, nth, List.nil_append, List.cons_append, md, Nat.reducePow, Nat.reduceAdd, Nat.reduceMul]
                refine WL_det rfl (det_assign) ?_
                dsimp only [put, List.set, ev, nth, List.nil_append, List.cons_append, md, Nat.reducePow, Nat.reduceAdd, Nat.reduceMul]
                refine WL_nil ?_
                refine WC_region ?_
                refine WL_det rfl (det_move) ?_
                dsimp only [put, List.set, ev, nth, List.nil_append, List.cons_append, md, Nat.reducePow, Nat.reduceAdd, Nat.reduceMul]
                refine WL_det rfl (det_move) ?_
                dsimp only [put, List.set, ev, nth, List.nil_append, List.cons_append, md, Nat.reducePow, Nat.reduceAdd, Nat.reduceMul]
                refine WL_rel rfl (rel_lit1 Try.underlying35 Try.zeroValue5 Try.sizeOf5 rfl rfl) ?_
                rintro _ _ ⟨bl, rfl, rfl⟩
                dsimp only [put, List.set, ev, nth, List.nil_append, List.cons_append, md, Nat.reducePow, Nat.reduceAdd, Nat.reduceMul]
                refine WL_chg rfl (chg_append1 0 1 rfl (hr3) rfl rfl rfl rfl Try.underlying35 ei5 rfl (by omega) (by decide)) ?_
                rintro v46 _ ⟨e46, hr46, rfl⟩
                dsimp only [put, List.eraseIdx, List.set, ev, nth, List.nil_append, List.cons_append, md, Nat.reducePow, Nat.reduceAdd, Nat.reduceMul]
                have hr46 : RowN .u8 5 (k + 1) (clf f) v46 e46 := RowN.snoc hr46 (by first | exact (clf_c f k hc0 (by omega) (by omega)).symm | exact (clf_a f k (by omega)).symm | exact (clf_b f k hfk (by omega)).symm | (exfalso; omega))
                refine WL_det rfl (det_assign) ?_
                dsimp only [put, List.set, ev, nth, List.nil_append, List.cons_append, md, Nat.reducePow, Nat.reduceAdd, Nat.reduceMul]
                refine WL_nil ?_
                refine WC_region ?_
                refine WL_det rfl (det_move) ?_
                dsimp only [put, List.set, ev, nth, List.nil_append, List.cons_append, md, Nat.reducePow, Nat.reduceAdd, Nat.reduceMul]
                refine WL_det rfl (det_addi (q := 1) rfl rfl (by omega)) ?_
                dsimp only [put, List.set, ev, nth, List.nil_append, List.cons_append, md, Nat.reducePow, Nat.reduceAdd, Nat.reduceMul]
                refine WL_det rfl (det_assign) ?_
                dsimp only [put, List.set, ev, nth, List.nil_append, List.cons_append, md, Nat.reducePow, Nat.reduceAdd, Nat.reduceMul]
                refine WL_nil ?_
                refine ⟨(k + 1, v46, e46), ?_, ?_, ?_, ?_⟩
                · rfl
                · rfl
                · exact ⟨by dsimp only; omega, hr46⟩
                · dsimp only; omega
              · by_cases h8 : k = 8
                · refine WC_region ?_
                  refine WL_det rfl (det_move) ?_
                  dsimp only [put, List.set, ev, nth, List.nil_append, List.cons_append, md, Nat.reducePow, Nat.reduceAdd, Nat.reduceMul]
                  refine WL_det rfl (Det.bv false (det_eql (q := 4) rfl rfl) (decide_eq_false h4)) ?_
                  dsimp only [put, List.set, ev, nth, List.nil_append, List.cons_append, md, Nat.reducePow, Nat.reduceAdd, Nat.reduceMul]
                  refine WL_det rfl (det_move) ?_
                  dsimp only [put, List.set, ev, nth, List.nil_append, List.cons_append, md, Nat.reducePow, Nat.reduceAdd, Nat.reduceMul]
                  refine WL_detG rfl (det_move) ?_
                  dsimp only [put, List.set, ev, nth, List.nil_append, List.cons_append, md, Nat.reducePow, Nat.reduceAdd, Nat.reduceMul]
                  refine WL_detG rfl (Det.bv true (det_eql (q := 8) rfl rfl) (decide_eq_true h8)) ?_
                  dsimp only [put, List.set, ev, nth, List.nil_append, List.cons_append, md, Nat.reducePow, Nat.reduceAdd, Nat.reduceMul]
                  refine WL_det rfl (det_pick_false rfl) ?_
                  dsimp only [put, List.set, ev, nth, List.nil_append, List.cons_append, md, Nat.reducePow, Nat.reduceAdd, Nat.reduceMul]
                  refine WL_det rfl (det_move) ?_
                  dsimp only [put, List.set, ev, nth, List.nil_append, List.cons_append, md, Nat.reducePow, Nat.reduceAdd, Nat.reduceMul]
                  refine WL_skipG rfl ?_
                  dsimp only [put, List.set, ev, nth, List.nil_append, List.cons_append, md, Nat.reducePow, Nat.reduceAdd, Nat.reduceMul]
                  refine WL_skipG rfl ?_
                  dsimp only [put, List.set, ev, nth, List.nil_append, List.cons_append, md, Nat.reducePow, Nat.reduceAdd, Nat.reduceMul]
                  refine WL_det rfl (det_pick_true rfl) ?_
                  dsimp only [put, List.set, ev, nth, List.nil_append, List.cons_append, md, Nat.reducePow, Nat.reduceAdd, Nat.reduceMul]
                  refine WL_nil ?_
                  refine WC_cond_true rfl ?_
                  refine WC_region ?_
                  refine WL_det rfl (det_move) ?_
                  dsimp only [put, List.set, ev, nth, List.nil_append, List.cons_append, md, Nat.reducePow, Nat.reduceAdd, Nat.reduceMul]
                  refine WL_det rfl (det_quoi (q := 4) rfl rfl (by omega) (.inl rfl) (.inr (by simp only [md]; first | omega | exact Nat.or_lt_two_pow (n := 32) (by omega) (by omega) | exact Nat.lt_of_le_of_lt Nat.and_le_left (by omega) | exact Nat.lt_of_le_of_lt Nat.and_le_right (by omega) | exact Nat.xor_lt_two_pow (n := 32) (by omega) (by omega)))) ?_
                  dsimp only [put, List.set, ev, nth, List.nil_append, List.cons_append, md, Nat.reducePow, Nat.reduceAdd, Nat.reduceMul]
                  refine WL_det rfl (det_mul' (q := 4) rfl rfl rfl (by simp only [md]; omega)) ?_
                  dsimp only [put, List.set, ev, nth, List.nil_append, List.cons_append, md, Nat.reducePow, Nat.reduceAdd, Nat.reduceMul]
                  refine WL_det rfl (det_assign) ?_
                  dsimp only [put, List.set, ev, nth, List.nil_append, List.cons_append, md, Nat.reducePow, Nat.reduceAdd, Nat.reduceMul]
                  refine WL_nil ?_
                  refine WC_region ?_
                  refine WL_det rfl (det_move) ?_
                  dsimp only [put, List.set, ev, nth, List.nil_append, List.cons_append, md, Nat.reducePow, Nat.reduceAdd, Nat.reduceMul]
                  refine WL_det rfl (det_move) ?_
                  dsimp only [put, List.set, ev, nth, List.nil_append, List.cons_append, md, Nat.reducePow, Nat.reduceAdd, Nat.reduceMul]
                  refine WL_rel rfl (rel_lit1 Try.underlying35 Try.zeroValue5 Try.sizeOf5 rfl rfl) ?_
                  rintro _ _ ⟨bl, rfl, rfl⟩
                  dsimp only [put, List.set, ev, nth, List.nil_append, List.cons_append, md, Nat.reducePow, Nat.reduceAdd, Nat.reduceMul]
                  refine WL_chg rfl (chg_append1 0 1 rfl (hr3) rfl rfl rfl rfl Try.underlying35 ei5 rfl (by omega) (by decide)) ?_
                  rintro v46 _ ⟨e46, hr46, rfl⟩
                  dsimp only [put, List.eraseIdx, List.set, ev, nth, List.nil_append, List.cons_append, md, Nat.reducePow, Nat.reduceAdd, Nat.reduceMul]
                  have hr46 : RowN .u8 5 (k + 1) (clf f) v46 e46 := RowN.snoc hr46 (by first | exact (clf_c f k hc0 (by omega) (by omega)).symm | exact (clf_a f k (by omega)).symm | exact (clf_b f k hfk (by omega)).symm | (exfalso; omega))
                  refine WL_det rfl (det_assign) ?_
                  dsimp only [put, List.set, ev, nth, List.nil_append, List.cons_append, md, Nat.reducePow, Nat.reduceAdd, Nat.reduceMul]
                  refine WL_nil ?_
                  refine WC_region ?_
                  refine WL_det rfl (det_move) ?_
                  dsimp only [put, List.set, ev, nth, List.nil_append, List.cons_append, md, Nat.reducePow, Nat.reduceAdd, Nat.reduceMul]
                  refine WL_det rfl (det_addi (q := 1) rfl rfl (by omega)) ?_
                  dsimp only [put, List.set, ev, nth, List.nil_append, List.cons_append, md, Nat.reducePow, Nat.reduceAdd, Nat.reduceMul]
                  refine WL_det rfl (det_assign) ?_
                  dsimp only [put, List.set, ev, nth, List.nil_append, List.cons_append, md, Nat.reducePow, Nat.reduceAdd, Nat.reduceMul]
                  refine WL_nil ?_
                  refine ⟨(k + 1, v46, e46), ?_, ?_, ?_, ?_⟩
                  · rfl
                  · rfl
                  · exact ⟨by dsimp only; omega, hr46⟩
                  · dsimp only; omega
                · by_cases h12 : k = 12
                  · refine WC_region ?_
                    refine WL_det rfl (det_move) ?_
                    dsimp only [put, List.set, ev, nth, List.nil_append, List.cons_append, md, Nat.reducePow, Nat.reduceAdd, Nat.reduceMul]
                    refine WL_det rfl (Det.bv false (det_eql (q := 4) rfl rfl) (decide_eq_false h4)) ?_
                    dsimp only [put, List.set, ev, nth, List.nil_append, List.cons_append, md, Nat.reducePow, Nat.reduceAdd, Nat.reduceMul]
                    refine WL_det rfl (det_move) ?_
                    dsimp only [put, List.set, ev, nth, List.nil_append, List.cons_append, md, Nat.reducePow, Nat.reduceAdd, Nat.reduceMul]
                    refine WL_detG rfl (det_move) ?_
                    dsimp only [put, List.set, ev, nth, List.nil_append, List.cons_append, md, Nat.reducePow, Nat.reduceAdd, Nat.reduceMul]
                    refine WL_detG rfl (Det.bv false (det_eql (q := 8) rfl rfl) (decide_eq_false h8)) ?_
                    dsimp only [put, List.set, ev, nth, List.nil_append, List.cons_append, md, Nat.reducePow, Nat.reduceAdd, Nat.reduceMul]
                    refine WL_det rfl (det_pick_false rfl) ?_
                    dsimp only [put, List.set, ev, nth, List.nil_append, List.cons_append, md, Nat.reducePow, Nat.reduceAdd, Nat.reduceMul]
                    refine WL_det rfl (det_move) ?_
                    dsimp only [put, List.set, ev, nth, List.nil_append, List.cons_append, md, Nat.reducePow, Nat.reduceAdd, Nat.reduceMul]
                    refine WL_detG rfl (det_move) ?_
                    dsimp only [put, List.set, ev, nth, List.nil_append, List.cons_append, md, Nat.reducePow, Nat.reduceAdd, Nat.reduceMul]
                    refine WL_detG rfl (Det.bv true (det_eql (q := 12) rfl rfl) (decide_eq_true h12)) ?_
                    dsimp only [put, List.set, ev, nth, List.nil_append, List.cons_append, md, Nat.reducePow, Nat.reduceAdd, Nat.reduceMul]
                    refine WL_det rfl (det_pick_false rfl) ?_
                    dsimp only [put, List.set, ev, nth, List.nil_append, List.cons_append, md, Nat.reducePow, Nat.reduceAdd, Nat.reduceMul]
                    refine WL_nil ?_
                    refine WC_cond_true rfl ?_
                    refine WC_region ?_
                    refine WL_det rfl (det_move) ?_
                    dsimp only [put, List.set, ev, nth, List.nil_append, List.cons_append, md, Nat.reducePow, Nat.reduceAdd, Nat.reduceMul]
                    refine WL_det rfl (det_quoi (q := 4) rfl rfl (by omega) (.inl rfl) (.inr (by simp only [md]; first | omega | exact Nat.or_lt_two_pow (n := 32) (by omega) (by omega) | exact Nat.lt_of_le_of_lt Nat.and_le_left (by omega) | exact Nat.lt_of_le_of_lt Nat.and_le_right (by omega) | exact Nat.xor_lt_two_pow (n := 32) (by omega) (by omega)))) ?_
                    dsimp only [put, List.set, ev, nth, List.nil_append, List.cons_append, md, Nat.reducePow, Nat.reduceAdd, Nat.reduceMul]
                    refine WL_det rfl (det_mul' (q := 4) rfl rfl rfl (by simp only [md]; omega)) ?_
                    dsimp only [put, List.set, ev, nth, List.nil_append, List.cons_append, md, Nat.reducePow, Nat.reduceAdd, Nat.reduceMul]
                    refine WL_det rfl (det_assign) ?_
                    dsimp only [put, List.set, ev, nth, List.nil_append, List.cons_append, md, Nat.reducePow, Nat.reduceAdd, Nat.reduceMul]
                    refine WL_nil ?_
                    refine WC_region ?_
                    refine WL_det rfl (det_move) ?_
                    dsimp only [put, List.set, ev, nth, List.nil_append, List.cons_append, md, Nat.reducePow, Nat.reduceAdd, Nat.reduceMul]
                    refine WL_det rfl (det_move) ?_
                    dsimp only [put, List.set, ev, nth, List.nil_append, List.cons_append, md, Nat.reducePow, Nat.reduceAdd, Nat.reduceMul]
                    refine WL_rel rfl (rel_lit1 Try.underlying35 Try.zeroValue5 Try.sizeOf5 rfl rfl) ?_
                    rintro _ _ ⟨bl, rfl, rfl⟩
                    dsimp only [put, List.set, ev, nth, List.nil_append, List.cons_append, md, Nat.reducePow, Nat.reduceAdd, Nat.reduceMul]
                    refine WL_chg rfl (chg_append1 0 1 rfl (hr3) rfl rfl rfl rfl Try.underlying35 ei5 rfl (by omega) (by decide)) ?_
                    rintro v46 _ ⟨e46, hr46, rfl⟩
                    dsimp only [put, List.eraseIdx, List.set, ev, nth, List.nil_append, List.cons_append, md, Nat.reducePow, Nat.reduceAdd, Nat.reduceMul]
                    have hr46 : RowN .u8 5 (k + 1) (clf f) v46 e46 := RowN.snoc hr46 (by first | exact (clf_c f k hc0 (by omega) (by omega)).symm | exact (clf_a f k (by omega)).symm | exact (clf_b f k hfk (by omega)).symm | (exfalso; omega))
                    refine WL_det rfl (det_assign) ?_
                    dsimp only [put, List.set, ev, nth, List.nil_append, List.cons_append, md, Nat.reducePow, Nat.reduceAdd, Nat.reduceMul]
                    refine WL_nil ?_
                    refine WC_region ?_
                    refine WL_det rfl (det_move) ?_
                    dsimp only [put, List.set, ev, nth, List.nil_append, List.cons_append, md, Nat.reducePow, Nat.reduceAdd, Nat.reduceMul]
                    refine WL_det rfl (det_addi (q := 1) rfl rfl (by omega)) ?_
                    dsimp only [put, List.set, ev, nth, List.nil_append, List.cons_append, md, Nat.reducePow, Nat.reduceAdd, Nat.reduceMul]
                    refine WL_det rfl (det_assign) ?_
                    dsimp only [put, List.set, ev, nth, List.nil_append, List.cons_append, md, Nat.reducePow, Nat.reduceAdd, Nat.reduceMul]
                    refine WL_nil ?_
                    refine ⟨(k + 1, v46, e46), ?_, ?_, ?_, ?_⟩
                    · rfl
                    · rfl
                    · exact ⟨by dsimp only; omega, hr46⟩
                    · dsimp only; omega
                  · refine WC_region ?_
                    refine WL_det rfl (det_move) ?_
                    dsimp only [put, List.set, ev, nth, List.nil_append, List.cons_append, md, Nat.reducePow, Nat.reduceAdd, Nat.reduceMul]
                    refine WL_det rfl (Det.bv false (det_eql (q := 4) rfl rfl) (decide_eq_false h4)) ?_
                    dsimp only [put, List.set, ev, nth, List.nil_append, List.cons_append, md, Nat.reducePow, Nat.reduceAdd, Nat.reduceMul]
                    refine WL_det rfl (det_move) ?_
                    dsimp only [put, List.set, ev, nth, List.nil_append, List.cons_append, md, Nat.reducePow, Nat.reduceAdd, Nat.reduceMul]
                    refine WL_detG rfl (det_move) ?_
                    dsimp only [put, List.set, ev, nth, List.nil_append, List.cons_append, md, Nat.reducePow, Nat.reduceAdd, Nat.reduceMul]
                    refine WL_detG rfl (Det.bv false (det_eql (q := 8) rfl rfl) (decide_eq_false h8)) ?_
                    dsimp only [put, List.set, ev, nth, List.nil_append, List.cons_append, md, Nat.reducePow, Nat.reduceAdd, Nat.reduceMul]
                    refine WL_det rfl (det_pick_false rfl) ?_
                    dsimp only [put, List.set, ev, nth, List.nil_append, List.cons_append, md, Nat.reducePow, Nat.reduceAdd, Nat.reduceMul]
                    refine WL_det rfl (det_move) ?_
                    dsimp only [put, List.set, ev, nth, List.nil_append, List.cons_append, md, Nat.reducePow, Nat.reduceAdd, Nat.reduceMul]
                    refine WL_detG rfl (det_move) ?_
                    dsimp only [put, List.set, ev, nth, List.nil_append, List.cons_append, md, Nat.reducePow, Nat.reduceAdd, Nat.reduceMul]
                    refine WL_detG rfl (Det.bv false (det_eql (q := 12) rfl rfl) (decide_eq_false h12)) ?_
                    dsimp only [put, List.set, ev, nth, List.nil_append, List.cons_append, md, Nat.reducePow, Nat.reduceAdd, Nat.reduceMul]
                    refine WL_det rfl (det_pick_false rfl) ?_
                    dsimp only [put, List.set, ev, nth, List.nil_append, List.cons_append, md, Nat.reducePow, Nat.reduceAdd, Nat.reduceMul]
                    refine WL_nil ?_
                    refine WC_cond_false rfl ?_
                    refine WC_skip ?_
                    refine WC_region ?_
                    refine WL_det rfl (det_move) ?_
                    dsimp only [put, List.set, ev, nth, List.nil_append, List.cons_append, md, Nat.reducePow, Nat.reduceAdd, Nat.reduceMul]
                    refine WL_det rfl (det_move) ?_
                    dsimp only [put, List.set, ev, nth, List.nil_append, List.cons_append, md, Nat.reducePow, Nat.reduceAdd, Nat.reduceMul]
                    refine WL_rel rfl (rel_lit1 Try.underlying35 Try.zeroValue5 Try.sizeOf5 rfl rfl) ?_
                    rintro _ _ ⟨bl, rfl, rfl⟩
                    dsimp only [put, List.set, ev, nth, List.nil_append, List.cons_append, md, Nat.reducePow, Nat.reduceAdd, Nat.reduceMul]
                    refine WL_chg rfl (chg_append1 0 1 rfl (hr3) rfl rfl rfl rfl Try.underlying35 ei5 rfl (by omega) (by decide)) ?_
                    rintro v46 _ ⟨e46, hr46, rfl⟩
                    dsimp only [put, List.eraseIdx, List.set, ev, nth, List.nil_append, List.cons_append, md, Nat.reducePow, Nat.reduceAdd, Nat.reduceMul]
                    have hr46 : RowN .u8 5 (k + 1) (clf f) v46 e46 := RowN.snoc hr46 (by first | exact (clf_c f k hc0 (by omega) (by omega)).symm | exact (clf_a f k (by omega)).symm | exact (clf_b f k hfk (by omega)).symm | (exfalso; omega))
                    refine WL_det rfl (det_assign) ?_
                    dsimp only [put, List.set, ev, nth, List.nil_append, List.cons_append, md, Nat.reducePow, Nat.reduceAdd, Nat.reduceMul]
                    refine WL_nil ?_
                    refine WC_region ?_
                    refine WL_det rfl (det_move) ?_
                    dsimp only [put, List.set, ev, nth, List.nil_append, List.cons_append, md, Nat.reducePow, Nat.reduceAdd, Nat.reduceMul]
                    refine WL_det rfl (det_addi (q := 1) rfl rfl (by omega)) ?_
                    dsimp only [put, List.set, ev, nth, List.nil_append, List.cons_append, md, Nat.reducePow, Nat.reduceAdd, Nat.reduceMul]
                    refine WL_det rfl (det_assign) ?_
                    dsimp only [put, List.set, ev, nth, List.nil_append, List.cons_append, md, Nat.reducePow, Nat.reduceAdd, Nat.reduceMul]
                    refine WL_nil ?_
                    refine ⟨(k + 1, v46, e46), ?_, ?_, ?_, ?_⟩
                    · rfl
                    · rfl
                    · exact ⟨by dsimp only; omega, hr46⟩
                    · dsimp only; omega
            · refine WC_region ?_
              refine WL_det rfl (det_move) ?_
              dsimp only [put, List.set, ev, nth, List.nil_append, List.cons_append, md, Nat.reducePow, Nat.reduceAdd, Nat.reduceMul]
              refine WL_det rfl (Det.bv false (det_eql (q := 3) rfl rfl) (decide_eq_false h3)) ?_
              dsimp only [put, List.set, ev, nth, List.nil_append, List.cons_append, md, Nat.reducePow, Nat.reduceAdd, Nat.reduceMul]
              refine WL_det rfl (det_move) ?_
              dsimp only [put, List.set, ev, nth, List.nil_append, List.cons_append, md, Nat.reducePow, Nat.reduceAdd, Nat.reduceMul]
              refine WL_detG rfl (det_move) ?_
              dsimp only [put, List.set, ev, nth, List.nil_append, List.cons_append, md, Nat.reducePow, Nat.reduceAdd, Nat.reduceMul]
              refine WL_detG rfl (Det.bv false (det_eql (q := 7) rfl rfl) (decide_eq_false h7)) ?_
              dsimp only [put, List.set, ev, nth, List.nil_append, List.cons_append, md, Nat.reducePow, Nat.reduceAdd, Nat.reduceMul]
              refine WL_det rfl (det_pick_false rfl) ?_
              dsimp only [put, List.set, ev, nth, List.nil_append, List.cons_append, md, Nat.reducePow, Nat.reduceAdd, Nat.reduceMul]
              refine WL_det rfl (det_move) ?_
              dsimp only [put, List.set, ev, nth, List.nil_append, List.cons_append, md, Nat.reducePow, Nat.reduceAdd, Nat.reduceMul]
              refine WL_detG rfl (det_move) ?_
              dsimp only [put, List.set, ev, nth, List.nil_append, List.cons_append, md, Nat.reducePow, Nat.reduceAdd, Nat.reduceMul]
              refine WL_detG rfl (Det.bv false (det_eql (q := 11) rfl rfl) (decide_eq_false h11)) ?_
              dsimp only [put, List.set, ev, nth, List.nil_append, List.cons_append, md, Nat.reducePow, Nat.reduceAdd, Nat.reduceMul]
              refine WL_det rfl (det_pick_false rfl) ?_
              dsimp only [put, List.set, ev, nth, List.nil_append, List.cons_append, md, Nat.reducePow, Nat.reduceAdd, Nat.reduceMul]
              refine WL_det rfl (det_move) ?_
              dsimp only [put, List.set, ev, nth, List.nil_append, List.cons_append, md, Nat.reducePow, Nat.reduceAdd, Nat.reduceMul]
              refine WL_detG rfl (det_move) ?_
              dsimp only [put, List.set, ev, nth, List.nil_append, List.cons_append, md, Nat.reducePow, Nat.reduceAdd, Nat.reduceMul]
              refine WL_detG rfl (Det.bv false (det_eql (q := 15) rfl rfl) (decide_eq_false h15)) ?_
              dsimp only [put, List.set, ev, nth, List.nil_append, List.cons_append, md, Nat.reducePow, Nat.reduceAdd, Nat.reduceMul]
              refine WL_det rfl (det_pick_false rfl) ?_
              dsimp only [put, List.set, ev, nth, List.nil_append, List.cons_append, md, Nat.reducePow, Nat.reduceAdd, Nat.reduceMul]
              refine WL_nil ?_
              refine WC_cond_false rfl ?_
              refine WC_skip ?_
              refine WC_seq ?_
              refine WC_seq ?_
              by_cases h4 : k = 4
              · refine WC_region ?_
                refine WL_det rfl (det_move) ?_
                dsimp only [put, List.set, ev, nth, List.nil_append, List.cons_append, md, Nat.reducePow, Nat.reduceAdd, Nat.reduceMul]
                refine WL_det rfl (Det.bv true (det_eql (q := 4) rfl rfl) (decide_eq_true h4)) ?_
                dsimp only [put, List.set, ev, nth, List.nil_append, List.cons_append, md, Nat.reducePow, Nat.reduceAdd, Nat.reduceMul]
                refine WL_det rfl (det_move) ?_
                dsimp only [put, List.set, ev, nth, List.nil_append, List.cons_append, md, Nat.reducePow, Nat.reduceAdd, Nat.reduceMul]
                refine WL_skipG rfl ?_
                dsimp only [put, List.set, ev, nth, List.nil_append, List.cons_append, md, Nat.reducePow, Nat.reduceAdd, Nat.reduceMul]
                refine WL_skipG rfl ?_
                dsimp only [put, List.set, ev, nth, List.nil_append, List.cons_append, md, Nat.reducePow, Nat.reduceAdd, Nat.reduceMul]
                refine WL_det rfl (det_pick_true rfl) ?_
                dsimp only [put, List.set, ev, nth, List.nil_append, List.cons_append, md, Nat.reducePow, Nat.reduceAdd, Nat.reduceMul]
                refine WL_det rfl (det_move) ?_
                dsimp only [put, List.set, ev, nth, List.nil_append, List.cons_append, md, Nat.reducePow, Nat.reduceAdd, Nat.reduceMul]
                refine WL_skipG rfl ?_
                dsimp only [put, List.set, ev, nth, List.nil_append, List.cons_append, md, Nat.reducePow, Nat.reduceAdd, Nat.reduceMul]
                refine WL_skipG rfl ?_
                dsimp only [put, List.set, ev, nth, List.nil_append, List.cons_append, md, Nat.reducePow, Nat.reduceAdd, Nat.reduceMul]
                refine WL_det rfl (det_pick_true rfl) ?_
                dsimp only [put, List.set, ev, nth, List.nil_append, List.cons_append, md, Nat.reducePow, Nat.reduceAdd, Nat.reduceMul]
                refine WL_nil ?_
                refine WC_cond_true rfl ?_
                refine WC_region ?_
                refine WL_det rfl (det_move) ?_
                dsimp only [put, List.set, ev, nth, List.nil_append, List.cons_append, md, Nat.reducePow, Nat.reduceAdd, Nat.reduceMul]
                refine WL_det rfl (det_quoi (q := 4) rfl rfl (by omega) (.inl rfl) (.inr (by simp only [md]; first | omega | exact Nat.or_lt_two_pow (n := 32) (by omega) (by omega) | exact Nat.lt_of_le_of_lt Nat.and_le_left (by omega) | exact Nat.lt_of_le_of_lt Nat.and_le_right (by omega) | exact Nat.xor_lt_two_pow (n := 32) (by omega) (by omega)))) ?_
                dsimp only [put, List.set, ev, nth, List.nil_append, List.cons_append, md, Nat.reducePow, Nat.reduceAdd, Nat.reduceMul]
                refine WL_det rfl (det_mul' (q := 4) rfl rfl rfl (by simp only [md]; omega)) ?_
                dsimp only [put, List.set, ev, nth, List.nil_append, List.cons_append, md, Nat.reducePow, Nat.reduceAdd, Nat.reduceMul]
                refine WL_det rfl (det_assign) ?_
                dsimp only [put, List.set, ev, nth, List.nil_append, List.cons_append, md, Nat.reducePow, Nat.reduceAdd, Nat.reduceMul]
                refine WL_nil ?_
                refine WC_region ?_
                refine WL_det rfl (det_move) ?_
                dsimp only [put, List.set, ev, nth, List.nil_append, List.cons_append, md, Nat.reducePow, Nat.reduceAdd, Nat.reduceMul]
                refine WL_det rfl (det_move) ?_
                dsimp only [put, List.set, ev, nth, List.nil_append, List.cons_append, md, Nat.reducePow, Nat.reduceAdd, Nat.reduceMul]
                refine WL_rel rfl (rel_lit1 Try.underlying35 Try.zeroValue5 Try.sizeOf5 rfl rfl) ?_
                rintro _ _ ⟨bl, rfl, rfl⟩
                dsimp only [put, List.set, ev, nth, List.nil_append, List.cons_append, md, Nat.reducePow, Nat.reduceAdd, Nat.reduceMul]
                refine WL_chg rfl (chg_append1 0 1 rfl (hr3) rfl rfl rfl rfl Try.underlying35 ei5 rfl (by omega) (by decide)) ?_
                rintro v46 _ ⟨e46, hr46, rfl⟩
                dsimp only [put, List.eraseIdx, List.set, ev, nth, List.nil_append, List.cons_append, md, Nat.reducePow, Nat.reduceAdd, Nat.reduceMul]
                have hr46 : RowN .u8 5 (k + 1) (clf f) v46 e46 := RowN.snoc hr46 (by first | exact (clf_c f k hc0 (by omega) (by omega)).symm | exact (clf_a f k (by omega)).symm | exact (clf_b f k hfk (by omega)).symm | (exfalso; omega))
                refine WL_det rfl (det_assign) ?_
                dsimp only [put, List.set, ev, nth, List.nil_append, List.cons_append, md, Nat.reducePow, Nat.reduceAdd, Nat.reduceMul]
                refine WL_nil ?_
                refine WC_region ?_
                refine WL_det rfl (det_move) ?_
                dsimp only [put, List.set, ev, nth, List.nil_append, List.cons_append, md, Nat.reducePow, Nat.reduceAdd, Nat.reduceMul]
                refine WL_det rfl (det_addi (q := 1) rfl rfl (by omega)) ?_
                dsimp only [put, List.set, ev, nth, List.nil_append, List.cons_append, md, Nat.reducePow, Nat.reduceAdd, Nat.reduceMul]
                refine WL_det rfl (det_assign) ?_
                dsimp only [put, List.set, ev, nth, List.nil_append, List.cons_append, md, Nat.reducePow, Nat.reduceAdd, Nat.reduceMul]
                refine WL_nil ?_
                refine ⟨(k + 1, v46, e46), ?_, ?_, ?_, ?_⟩
                · rfl
                · rfl
                · exact ⟨by dsimp only; omega, hr46⟩
                · dsimp only; omega
              · by_cases h8 : k = 8
                · refine WC_region ?_
                  refine WL_det rfl (det_move) ?_
                  dsimp only [put, List.set, ev, nth, List.nil_append, List.cons_append, md, Nat.reducePow, Nat.reduceAdd, Nat.reduceMul]
                  refine WL_det rfl (Det.bv false (det_eql (q := 4) rfl rfl) (decide_eq_false h4)) ?_
                  dsimp only [put, List.set, ev, nth, List.nil_append, List.cons_append, md, Nat.reducePow, Nat.reduceAdd, Nat.reduceMul]
                  refine WL_det rfl (det_move) ?_
                  dsimp only [put, List.set, ev, nth, List.nil_append, List.cons_append, md, Nat.reducePow, Nat.reduceAdd, Nat.reduceMul]
                  refine WL_detG rfl (det_move) ?_
                  dsimp only [put, List.set, ev, nth, List.nil_append, List.cons_append, md, Nat.reducePow, Nat.reduceAdd, Nat.reduceMul]
                  refine WL_detG rfl (Det.bv true (det_eql (q := 8) rfl rfl) (decide_eq_true h8)) ?_
                  dsimp only [put, List.set, ev, nth, List.nil_append, List.cons_append, md, Nat.reducePow, Nat.reduceAdd, Nat.reduceMul]
                  refine WL_det rfl (det_pick_false rfl) ?_
                  dsimp only [put, List.set, ev, nth, List.nil_append, List.cons_append, md, Nat.reducePow, Nat.reduceAdd, Nat.reduceMul]
                  refine WL_det rfl (det_move) ?_
                  dsimp only [put, List.set, ev, nth, List.nil_append, List.cons_append, md, Nat.reducePow, Nat.reduceAdd, Nat.reduceMul]
                  refine WL_skipG rfl ?_
                  dsimp only [put, List.set, ev, nth, List.nil_append, List.cons_append, md, Nat.reducePow, Nat.reduceAdd, Nat.reduceMul]
                  refine WL_skipG rfl ?_
                  dsimp only [put, List.set, ev, nth, List.nil_append, List.cons_append, md, Nat.reducePow, Nat.reduceAdd, Nat.reduceMul]
                  refine WL_det rfl (det_pick_true rfl) ?_
                  dsimp only [put, List.set, ev, nth, List.nil_append, List.cons_append, md, Nat.reducePow, Nat.reduceAdd, Nat.reduceMul]
                  refine WL_nil ?_
                  refine WC_cond_true rfl ?_
                  refine WC_region ?_
                  refine WL_det rfl (det_move) ?_
                  dsimp only [put, List.set, ev, nth, List.nil_append, List.cons_append, md, Nat.reducePow, Nat.reduceAdd, Nat.reduceMul]
                  refine WL_det rfl (det_quoi (q := 4) rfl rfl (by omega) (.inl rfl) (.inr (by simp only [md]; first | omega | exact Nat.or_lt_two_pow (n := 32) (by omega) (by omega) | exact Nat.lt_of_le_of_lt Nat.and_le_left (by omega) | exact Nat.lt_of_le_of_lt Nat.and_le_right (by omega) | exact Nat.xor_lt_two_pow (n := 32) (by omega) (by omega)))) ?_
                  dsimp only [put, List.set, ev, nth, List.nil_append, List.cons_append, md, Nat.reducePow, Nat.reduceAdd, Nat.reduceMul]
                  refine WL_det rfl (det_mul' (q := 4) rfl rfl rfl (by simp only [md]; omega)) ?_
                  dsimp only [put, List.set, ev, nth, List.nil_append, List.cons_append, md, Nat.reducePow, Nat.reduceAdd, Nat.reduceMul]
                  refine WL_det rfl (det_assign) ?_
                  dsimp only [put, List.set, ev, nth, List.nil_append, List.cons_append, md, Nat.reducePow, Nat.reduceAdd, Nat.reduceMul]
                  refine WL_nil ?_
                  refine WC_region ?_
                  refine WL_det rfl (det_move) ?_
                  dsimp only [put, List.set, ev, nth, List.nil_append, List.cons_append, md, Nat.reducePow, Nat.reduceAdd, Nat.reduceMul]
                  refine WL_det rfl (det_move) ?_
                  dsimp only [put, List.set, ev, nth, List.nil_append, List.cons_append, md, Nat.reducePow, Nat.reduceAdd, Nat.reduceMul]
                  refine WL_rel rfl (rel_lit1 Try.underlying35 Try.zeroValue5 Try.sizeOf5 rfl rfl) ?_
                  rintro _ _ ⟨bl, rfl, rfl⟩
                  dsimp only [put, List.set, ev, nth, List.nil_append, List.cons_append, md, Nat.reducePow, Nat.reduceAdd, Nat.reduceMul]
                  refine WL_chg rfl (chg_append1 0 1 rfl (hr3) rfl rfl rfl rfl Try.underlying35 ei5 rfl (by omega) (by decide)) ?_
                  rintro v46 _ ⟨e46, hr46, rfl⟩
                  dsimp only [put, List.eraseIdx, List.set, ev, nth, List.nil_append, List.cons_append, md, Nat.reducePow, Nat.reduceAdd, Nat.reduceMul]
                  have hr46 : RowN .u8 5 (k + 1) (clf f) v46 e46 := RowN.snoc hr46 (by first | exact (clf_c f k hc0 (by omega) (by omega)).symm | exact (clf_a f k (by omega)).symm | exact (clf_b f k hfk (by omega)).symm | (exfalso; omega))
                  refine WL_det rfl (det_assign) ?_
                  dsimp only [put, List.set, ev, nth, List.nil_append, List.cons_append, md, Nat.reducePow, Nat.reduceAdd, Nat.reduceMul]
                  refine WL_nil ?_
                  refine WC_region ?_
                  refine WL_det rfl (det_move) ?_
                  dsimp only [put, List.set, ev, nth, List.nil_append, List.cons_append, md, Nat.reducePow, Nat.reduceAdd, Nat.reduceMul]
                  refine WL_det rfl (det_addi (q := 1) rfl rfl (by omega)) ?_
                  dsimp only [put, List.set, ev, nth, List.nil_append, List.cons_append, md, Nat.reducePow, Nat.reduceAdd, Nat.reduceMul]
                  refine WL_det rfl (det_assign) ?_
                  dsimp only [put, List.set, ev, nth, List.nil_append, List.cons_append, md, Nat.reducePow, Nat.reduceAdd, Nat.reduceMul]
                  refine WL_nil ?_
                  refine ⟨(k + 1, v46, e46), ?_, ?_, ?_, ?_⟩
                  · rfl
                  · rfl
                  · exact ⟨by dsimp only; omega, hr46⟩
                  · dsimp only; omega
                · by_cases h12 : k = 12
                  · refine WC_region ?_
                    refine WL_det rfl (det_move) ?_
                    dsimp only [put, List.set, ev, nth, List.nil_append, List.cons_append, md, Nat.reducePow, Nat.reduceAdd, Nat.reduceMul]
                    refine WL_det rfl (Det.bv false (det_eql (q := 4) rfl rfl) (decide_eq_false h4)) ?_
                    dsimp only [put, List.set, ev, nth, List.nil_append, List.cons_append, md, Nat.reducePow, Nat.reduceAdd, Nat.reduceMul]
                    refine WL_det rfl (det_move) ?_
                    dsimp only [put, List.set, ev, nth, List.nil_append, List.cons_append, md, Nat.reducePow, Nat.reduceAdd, Nat.reduceMul]
                    refine WL_detG rfl (det_move) ?_
                    dsimp only [put, List.set, ev, nth, List.nil_append, List.cons_append, md, Nat.reducePow, Nat.reduceAdd, Nat.reduceMul]
                    refine WL_detG rfl (Det.bv false (det_eql (q := 8) rfl rfl) (decide_eq_false h8)) ?_
                    dsimp only [put, List.set, ev, nth, List.nil_append, List.cons_append, md, Nat.reducePow, Nat.reduceAdd, Nat.reduceMul]
                    refine WL_det rfl (det_pick_false rfl) ?_
                    dsimp only [put, List.set, ev, nth, List.nil_append, List.cons_append, md, Nat.reducePow, Nat.reduceAdd, Nat.reduceMul]
                    refine WL_det rfl (det_move) ?_
                    dsimp only [put, List.set, ev, nth, List.nil_append, List.cons_append, md, Nat.reducePow, Nat.reduceAdd, Nat.reduceMul]
                    refine WL_detG rfl (det_move) ?_
                    dsimp only [put, List.set, ev, nth, List.nil_append, List.cons_append, md, Nat.reducePow, Nat.reduceAdd, Nat.reduceMul]
                    refine WL_detG rfl (Det.bv true (det_eql (q := 12) rfl rfl) (decide_eq_true h12)) ?_
                    dsimp only [put, List.set, ev, nth, List.nil_append, List.cons_append, md, Nat.reducePow, Nat.reduceAdd, Nat.reduceMul]
                    refine WL_det rfl (det_pick_false rfl) ?_
                    dsimp only [put, List.set, ev, nth, List.nil_append, List.cons_append, md, Nat.reducePow, Nat.reduceAdd, Nat.reduceMul]
                    refine WL_nil ?_
                    refine WC_cond_true rfl ?_
                    refine WC_region ?_
                    refine WL_det rfl (det_move) ?_
                    dsimp only [put, List.set, ev, nth, List.nil_append, List.cons_append, md, Nat.reducePow, Nat.reduceAdd, Nat.reduceMul]
                    refine WL_det rfl (det_quoi (q := 4) rfl rfl (by omega) (.inl rfl) (.inr (by simp only [md]; first | omega | exact Nat.or_lt_two_pow (n := 32) (by omega) (by omega) | exact Nat.lt_of_le_of_lt Nat.and_le_left (by omega) | exact Nat.lt_of_le_of_lt Nat.and_le_right (by omega) | exact Nat.xor_lt_two_pow (n := 32) (by omega) (by omega)))) ?_
                    dsimp only [put, List.set, ev, nth, List.nil_append, List.cons_append, md, Nat.reducePow, Nat.reduceAdd, Nat.reduceMul]
                    refine WL_det rfl (det_mul' (q := 4) rfl rfl rfl (by simp only [md]; omega)) ?_
                    dsimp only [put, List.set, ev, nth, List.nil_append, List.cons_append, md, Nat.reducePow, Nat.reduceAdd, Nat.reduceMul]
                    refine WL_det rfl (det_assign) ?_
                    dsimp only [put, List.set, ev, nth, List.nil_append, List.cons_append, md, Nat.reducePow, Nat.reduceAdd, Nat.reduceMul]
                    refine WL_nil ?_
                    refine WC_region ?_
                    refine WL_det rfl (det_move) ?_
                    dsimp only [put, List.set, ev, nth, List.nil_append, List.cons_append, md, Nat.reducePow, Nat.reduceAdd, Nat.reduceMul]
                    refine WL_det rfl (det_move) ?_
                    dsimp only [put, List.set, ev, nth, List.nil_append, List.cons_append, md, Nat.reducePow, Nat.reduceAdd, Nat.reduceMul]
                    refine WL_rel rfl (rel_lit1 Try.underlying35 Try.zeroValue5 Try.sizeOf5 rfl rfl) ?_
                    rintro _ _ ⟨bl, rfl, rfl⟩
                    dsimp only [put, List.set, ev, nth, List.nil_append, List.cons_append, md, Nat.reducePow, Nat.reduceAdd, Nat.reduceMul]
                    refine WL_chg rfl (chg_append1 0 1 rfl (hr3) rfl rfl rfl rfl Try.underlying35 ei5 rfl (by omega) (by decide)) ?_
                    rintro v46 _ ⟨e46, hr46, rfl⟩
                    dsimp only [put, List.eraseIdx, List.set, ev, nth, List.nil_append, List.cons_append, md, Nat.reducePow, Nat.reduceAdd, Nat.reduceMul]
                    have hr46 : RowN .u8 5 (k + 1) (clf f) v46 e46 := RowN.snoc hr46 (by first | exact (clf_c f k hc0 (by omega) (by omega)).symm | exact (clf_a f k (by omega)).symm | exact (clf_b f k hfk (by omega)).symm | (exfalso; omega))
                    refine WL_det rfl (det_assign) ?_
                    dsimp only [put, List.set, ev, nth, List.nil_append, List.cons_append, md, Nat.reducePow, Nat.reduceAdd, Nat.reduceMul]
                    refine WL_nil ?_
                    refine WC_region ?_
                    refine WL_det rfl (det_move) ?_
                    dsimp only [put, List.set, ev, nth, List.nil_append, List.cons_append, md, Nat.reducePow, Nat.reduceAdd, Nat.reduceMul]
                    refine WL_det rfl (det_addi (q := 1) rfl rfl (by omega)) ?_
                    dsimp only [put, List.set, ev, nth, List.nil_append, List.cons_append, md, Nat.reducePow, Nat.reduceAdd, Nat.reduceMul]
                    refine WL_det rfl (det_assign) ?_
                    dsimp only [put, List.set, ev, nth, List.nil_append, List.cons_append, md, Nat.reducePow, Nat.reduceAdd, Nat.reduceMul]
                    refine WL_nil ?_
                    refine ⟨(k + 1, v46, e46), ?_, ?_, ?_, ?_⟩
                    · rfl
                    · rfl
                    · exact ⟨by dsimp only; omega, hr46⟩
                    · dsimp only; omega
                  · refine WC_region ?_
                    refine WL_det rfl (det_move) ?_
                    dsimp only [put, List.set, ev, nth, List.nil_append, List.cons_append, md, Nat.reducePow, Nat.reduceAdd, Nat.reduceMul]
                    refine WL_det rfl (Det.bv false (det_eql (q := 4) rfl rfl) (decide_eq_false h4)) ?_
                    dsimp only [put, List.set, ev, nth, List.nil_append, List.cons_append, md, Nat.reducePow, Nat.reduceAdd, Nat.reduceMul]
                    refine WL_det rfl (det_move) ?_
                    dsimp only [put, List.set, ev, nth, List.nil_append, List.cons_append, md, Nat.reducePow, Nat.reduceAdd, Nat.reduceMul]
                    refine WL_detG rfl (det_move) ?_
                    dsimp only [put, List.set, ev, nth, List.nil_append, List.cons_append, md, Nat.reducePow, Nat.reduceAdd, Nat.reduceMul]
                    refine WL_detG rfl (Det.bv false (det_eql (q := 8) rfl rfl) (decide_eq_false h8)) ?_
                    dsimp only [put, List.set, ev, nth, List.nil_append, List.cons_append, md, Nat.reducePow, Nat.reduceAdd, Nat.reduceMul]
                    refine WL_det rfl (det_pick_false rfl) ?_
                    dsimp only [put, List.set, ev, nth, List.nil_append, List.cons_append, md, Nat.reducePow, Nat.reduceAdd, Nat.reduceMul]
                    refine WL_det rfl (det_move) ?_
                    dsimp only [put, List.set, ev, nth, List.nil_append, List.cons_append, md, Nat.reducePow, Nat.reduceAdd, Nat.reduceMul]
                    refine WL_detG rfl (det_move) ?_
                    dsimp only [put, List.set, ev, nth, List.nil_append, List.cons_append, md, Nat.reducePow, Nat.reduceAdd, Nat.reduceMul]
                    refine WL_detG rfl (Det.bv false (det_eql (q := 12) rfl rfl) (decide_eq_false h12)) ?_
                    dsimp only [put, List.set, ev, nth, List.nil_append, List.cons_append, md, Nat.reducePow, Nat.reduceAdd, Nat.reduceMul]
                    refine WL_det rfl (det_pick_false rfl) ?_
                    dsimp only [put, List.set, ev, nth, List.nil_append, List.cons_append, md, Nat.reducePow, Nat.reduceAdd, Nat.reduceMul]
                    refine WL_nil ?_
                    refine WC_cond_false rfl ?_
                    refine WC_skip ?_
                    refine WC_region ?_
                    refine WL_det rfl (det_move) ?_
                    dsimp only [put, List.set, ev, nth, List.nil_append, List.cons_append, md, Nat.reducePow, Nat.reduceAdd, Nat.reduceMul]
                    refine WL_det rfl (det_move) ?_
                    dsimp only [put, List.set, ev, nth, List.nil_append, List.cons_append, md, Nat.reducePow, Nat.reduceAdd, Nat.reduceMul]
                    refine WL_rel rfl (rel_lit1 Try.underlying35 Try.zeroValue5 Try.sizeOf5 rfl rfl) ?_
                    rintro _ _ ⟨bl, rfl, rfl⟩
                    dsimp only [put, List.set, ev, nth, List.nil_append, List.cons_append, md, Nat.reducePow, Nat.reduceAdd, Nat.reduceMul]
                    refine WL_chg rfl (chg_append1 0 1 rfl (hr3) rfl rfl rfl rfl Try.underlying35 ei5 rfl (by omega) (by decide)) ?_
                    rintro v46 _ ⟨e46, hr46, rfl⟩
                    dsimp only [put, List.eraseIdx, List.set, ev, nth, List.nil_append, List.cons_append, md, Nat.reducePow, Nat.reduceAdd, Nat.reduceMul]
                    have hr46 : RowN .u8 5 (k + 1) (clf f) v46 e46 := RowN.snoc hr46 (by first | exact (clf_c f k hc0 (by omega) (by omega)).symm | exact (clf_a f k (by omega)).symm | exact (clf_b f k hfk (by omega)).symm | (exfalso; omega))
                    refine WL_det rfl (det_assign) ?_
                    dsimp only [put, List.set, ev, nth, List.nil_append, List.cons_append, md, Nat.reducePow, Nat.reduceAdd, Nat.reduceMul]
                    refine WL_nil ?_
                    refine WC_region ?_
                    refine WL_det rfl (det_move) ?_
                    dsimp only [put, List.set, ev, nth, List.nil_append, List.cons_append, md, Nat.reducePow, Nat.reduceAdd, Nat.reduceMul]
                    refine WL_det rfl (det_addi (q := 1) rfl rfl (by omega)) ?_
                    dsimp only [put, List.set, ev, nth, List.nil_append, List.cons_append, md, Nat.reducePow, Nat.reduceAdd, Nat.reduceMul]
                    refine WL_det rfl (det_assign) ?_
                    dsimp only [put, List.set, ev, nth, List.nil_append, List.cons_append, md, Nat.reducePow, Nat.reduceAdd, Nat.reduceMul]
                    refine WL_nil ?_
                    refine ⟨(k + 1, v46, e46), ?_, ?_, ?_, ?_⟩
                    · rfl
                    · rfl
                    · exact ⟨by dsimp only; omega, hr46⟩
                    · dsimp only; omega
    · have hc0 := of_decide_eq_false hc0
      obtain rfl : k = 16 := by omega
      refine WC_exit ?_
      refine inB_same ?_
      refine WC_seq ?_
      refine WC_region ?_
      refine WL_det rfl (det_move) ?_
      dsimp only [put, List.set, ev, nth, List.nil_append, List.cons_append, md, Nat.reducePow, Nat.reduceAdd, Nat.reduceMul]
      refine WL_det rfl (det_assign) ?_
      dsimp only [put, List.set, ev, nth, List.nil_append, List.cons_append, md, Nat.reducePow, Nat.reduceAdd, Nat.reduceMul]
      refine WL_nil ?_
      refine WC_ret ?_
      refine fin_tmp Try.results56 rfl ([e3]) (List.Sublist.refl _) ?_
      exact ⟨_, hr3, rfl⟩

set_option maxRecDepth 100000 in
set_option maxHeartbeats 2000000 in
theorem rtag_spec (K n : Nat) (F : Nat → Nat) (hF : ∀ i, i < n → F i < 256) (hn : n ≤ 1000000) (va : Value) (w : World) (ha : Rd w .u8 n F va) :
    Calls Try.prog 45 [.agg (arr .u8 32 (byt K)), va].toArray w (PostV w (.agg (arr .u8 16 (byt (tagZ F n K))))) := by
  obtain ⟨p1, c1, b1, o1, rfl, hp1, hx1⟩ := ha
  refine calls_of_WC Try.func45 rfl ?_
  simp only [Try.ntmps45, List.length_cons, List.length_nil, Nat.reduceAdd, Nat.reduceSub, List.replicate, List.cons_append, List.nil_append]
  refine WC_seq ?_
  refine WC_region ?_
  refine WL_rel rfl (rel_box rfl rfl) ?_
  rintro _ _ ⟨b0, rfl, rfl⟩
  dsimp only [put, List.set, ev, nth, List.nil_append, List.cons_append, md, Nat.reducePow, Nat.reduceAdd, Nat.reduceMul]
  refine WL_rel rfl (rel_alloc z71 rfl) ?_
  rintro _ _ ⟨b1, rfl, rfl⟩
  dsimp only [put, List.set, ev, nth, List.nil_append, List.cons_append, md, Nat.reducePow, Nat.reduceAdd, Nat.reduceMul]
  refine WL_nil ?_
  refine WC_seq ?_
  refine WC_region ?_
  refine WL_det rfl (det_assign) ?_
  dsimp only [put, List.set, ev, nth, List.nil_append, List.cons_append, md, Nat.reducePow, Nat.reduceAdd, Nat.reduceMul]
  refine WL_nil ?_
  refine WC_seq ?_
  refine WC_region ?_
  refine WL_det rfl (det_assign) ?_
  dsimp only [put, List.set, ev, nth, List.nil_append, List.cons_append, md, Nat.reducePow, Nat.reduceAdd, Nat.reduceMul]
  refine WL_nil ?_
  refine WC_seq ?_
  refine WC_seq ?_
  refine WC_region ?_
  refine WL_det rfl (det_assign) ?_
  dsimp only [put, List.set, ev, nth, List.nil_append, List.cons_append, md, Nat.reducePow, Nat.reduceAdd, Nat.reduceMul]
  refine WL_nil ?_
  refine WC_block ?_
  refine WC.addNone (.cells #[] 5 (0, 0)) ?_
  dsimp only [List.cons_append, List.nil_append]
  refine WC.addNone (.cells #[] 5 (0, 0)) ?_
  dsimp only [List.cons_append, List.nil_append]
  refine WC_loopS (ι := Nat × Value × (Option Nat × Obj) × Value × (Option Nat × Obj)) [18, 19, 22, 23, 24, 25, 26, 27, 28, 29, 30, 31, 32, 33, 34, 20, 21] (fun x => [(7, vn .i64 (x.1)), (5, x.2.1), (6, x.2.2.2.1)]) (fun x => [(2, x.2.2.1), (3, x.2.2.2.2)]) (fun x => x.1 ≤ 16 ∧ RowN .u8 5 x.1 (byt K) x.2.1 x.2.2.1 ∧ RowN .u8 5 x.1 (fun j => byt K (16 + j)) x.2.2.2.1 x.2.2.2.2) (fun x => 16 - x.1) (0, .slice none 0 0, (none, .cells #[] 5 (0, 0)), .slice none 0 0, (none, .cells #[] 5 (0, 0))) ?_ ?_ ?_ ?_
  · rfl
  · rfl
  · exact ⟨Nat.zero_le _, RowV.nil _ _ _, RowV.nil _ _ _⟩
  · rintro ⟨k, v5, e5, v6, e6⟩ g ⟨hk, hr5, hr6⟩
    dsimp only [setAll, setG, setM, List.set]
    dsimp only at hk hr5 hr6
    refine WC_seq ?_
    refine WC_seq ?_
    refine WC_region ?_
    refine WL_det rfl (det_move) ?_
    dsimp only [put, List.set, ev, nth, List.nil_append, List.cons_append, md, Nat.reducePow, Nat.reduceAdd, Nat.reduceMul]
    refine WL_det rfl (det_lss (q := 16) rfl rfl) ?_
    dsimp only [put, List.set, ev, nth, List.nil_append, List.cons_append, md, Nat.reducePow, Nat.reduceAdd, Nat.reduceMul]
    refine WL_nil ?_
    refine WC_cond rfl (fun hc0 => ?_) (fun hc0 => ?_)
    · have hc0 := of_decide_eq_true hc0
      refine WC_skip ?_
      refine WC_seq ?_
      refine WC_block ?_
      refine WC_seq ?_
      refine WC_region ?_
      refine WL_det rfl (det_move) ?_
      dsimp only [put, List.set, ev, nth, List.nil_append, List.cons_append, md, Nat.reducePow, Nat.reduceAdd, Nat.reduceMul]
      refine WL_det rfl (det_move) ?_
      dsimp only [put, List.set, ev, nth, List.nil_append, List.cons_append, md, Nat.reducePow, Nat.reduceAdd, Nat.reduceMul]
      refine WL_det rfl (det_idxA Try.underlying22 Try.sizeOf5 rfl rfl (rfl) (by omega)) ?_
      dsimp only [put, List.set, ev, nth, List.nil_append, List.cons_append, md, Nat.reducePow, Nat.reduceAdd, Nat.reduceMul]
      refine WL_det rfl (det_loadA 0 Try.isAgg5 rfl rfl (by omega)) ?_
      dsimp only [put, List.set, ev, nth, List.nil_append, List.cons_append, md, Nat.reducePow, Nat.reduceAdd, Nat.reduceMul]
      refine WL_rel rfl (rel_lit1 Try.underlying35 Try.zeroValue5 Try.sizeOf5 rfl rfl) ?_
      rintro _ _ ⟨bl, rfl, rfl⟩
      dsimp only [put, List.set, ev, nth, List.nil_append, List.cons_append, md, Nat.reducePow, Nat.reduceAdd, Nat.reduceMul]
      refine WL_chg rfl (chg_append1 2 4 rfl (hr5) rfl rfl rfl rfl Try.underlying35 ei5 rfl (by omega) (by decide)) ?_
      rintro v27 _ ⟨e27, hr27, rfl⟩
      dsimp only [put, List.eraseIdx, List.set, ev, nth, List.nil_append, List.cons_append, md, Nat.reducePow, Nat.reduceAdd, Nat.reduceMul]
      have hr27 : RowN .u8 5 (k + 1) (byt K) v27 e27 := RowN.snoc hr27 rfl
      refine WL_det rfl (det_assign) ?_
      dsimp only [put, List.set, ev, nth, List.nil_append, List.cons_append, md, Nat.reducePow, Nat.reduceAdd, Nat.reduceMul]
      refine WL_nil ?_
      refine WC_region ?_
      refine WL_det rfl (det_move) ?_
      dsimp only [put, List.set, ev, nth, List.nil_append, List.cons_append, md, Nat.reducePow, Nat.reduceAdd, Nat.reduceMul]
      refine WL_det rfl (det_move) ?_
      dsimp only [put, List.set, ev, nth, List.nil_append, List.cons_append, md, Nat.reducePow, Nat.reduceAdd, Nat.reduceMul]
      refine WL_det rfl (det_addi (p := 16) rfl rfl (by omega)) ?_
      dsimp only [put, List.set, ev, nth, List.nil_append, List.cons_append, md, Nat.reducePow, Nat.reduceAdd, Nat.reduceMul]
      refine WL_det rfl (det_idxA Try.underlying22 Try.sizeOf5 rfl rfl (rfl) (by omega)) ?_
      dsimp only [put, List.set, ev, nth, List.nil_append, List.cons_append, md, Nat.reducePow, Nat.reduceAdd, Nat.reduceMul]
      refine WL_det rfl (det_loadA 0 Try.isAgg5 rfl rfl (by omega)) ?_
      dsimp only [put, List.set, ev, nth, List.nil_append, List.cons_append, md, Nat.reducePow, Nat.reduceAdd, Nat.reduceMul]
      refine WL_rel rfl (rel_lit1 Try.underlying35 Try.zeroValue5 Try.sizeOf5 rfl rfl) ?_
      rintro _ _ ⟨bl, rfl, rfl⟩
      dsimp only [put, List.set, ev, nth, List.nil_append, List.cons_append, md, Nat.reducePow, Nat.reduceAdd, Nat.reduceMul]
      refine WL_chg rfl (chg_append1 3 4 rfl (hr6) rfl rfl rfl rfl Try.underlying35 ei5 rfl (by omega) (by decide)) ?_
      rintro v34 _ ⟨e34, hr34, rfl⟩
      dsimp only [put, List.eraseIdx, List.set, ev, nth, List.nil_append, List.cons_append, md, Nat.reducePow, Nat.reduceAdd, Nat.reduceMul]
      have hr34 : RowN .u8 5 (k + 1) (fun j => byt K (16 + j)) v34 e34 := RowN.snoc hr34 rfl
      refine WL_det rfl (det_assign) ?_
      dsimp only [put, List.set, ev, nth, List.nil_append, List.cons_append, md, Nat.reducePow, Nat.reduceAdd, Nat.reduceMul]
      refine WL_nil ?_
      refine WC_region ?_
      refine WL_det rfl (det_move) ?_
      dsimp only [put, List.set, ev, nth, List.nil_append, List.cons_append, md, Nat.reducePow, Nat.reduceAdd, Nat.reduceMul]
      refine WL_det rfl (det_addi (q := 1) rfl rfl (by omega)) ?_
      dsimp only [put, List.set, ev, nth, List.nil_append, List.cons_append, md, Nat.reducePow, Nat.reduceAdd, Nat.reduceMul]
      refine WL_det rfl (det_assign) ?_
      dsimp only [put, List.set, ev, nth, List.nil_append, List.cons_append, md, Nat.reducePow, Nat.reduceAdd, Nat.reduceMul]
      refine WL_nil ?_
      refine ⟨(k + 1, v27, e27, v34, e34), ?_, ?_, ?_, ?_⟩
      · rfl
      · rfl
      · exact ⟨by dsimp only; omega, hr27, hr34⟩
      · dsimp only; omega
    · have hc0 := of_decide_eq_false hc0
      obtain rfl : k = 16 := by omega
      refine WC_exit ?_
      refine inB_same ?_
      refine WC_seq ?_
      refine WC_region ?_
      refine WL_det rfl (det_move) ?_
      dsimp only [put, List.set, ev, nth, List.nil_append, List.cons_append, md, Nat.reducePow, Nat.reduceAdd, Nat.reduceMul]
      refine WL_rel rfl (Rel_call rfl Try.call56 (fun w hw => rclamp_spec (byt K) (fun i _ => byt_lt K i) _ w (Rd.row hw 2 rfl hr5))) ?_
      rintro v36 _ ⟨e36, hr36, rfl⟩
      dsimp only [put, List.append_nil, List.set, ev, nth, List.nil_append, List.cons_append, md, Nat.reducePow, Nat.reduceAdd, Nat.reduceMul]
      refine WL_rel rfl (Rel_call rfl Try.call48 (fun w hw => pdigits_spec 16 (clf (byt K)) (fun i _ => clf_lt _ i (byt_lt K i)) (by decide) _ w (Rd.row hw 4 rfl hr36))) ?_
      rintro v37 _ ⟨e37, hr37, rfl⟩
      dsimp only [put, List.append_nil, List.set, ev, nth, List.nil_append, List.cons_append, md, Nat.reducePow, Nat.reduceAdd, Nat.reduceMul]
      refine WL_rel rfl (Rel_call rfl Try.call47 (fun w hw => pmod_spec 8 (dig (lev (clf (byt K)) 16)) (fun i _ => dig_lt _ i) (by decide) _ w (Rd.row hw 5 rfl hr37))) ?_
      rintro v38 _ ⟨e38, hr38, rfl⟩
      rw [psum_digA _ 8 (Nat.lt_of_lt_of_le (lev_lt (clf (byt K)) 16 fun i _ => clf_lt _ i (byt_lt K i)) (by decide))] at hr38
      have hr38 : RowN .i64 3 10 (dig (tagR K)) v38 e38 := hr38
      dsimp only [put, List.append_nil, List.set, ev, nth, List.nil_append, List.cons_append, md, Nat.reducePow, Nat.reduceAdd, Nat.reduceMul]
      refine WL_det rfl (det_assign) ?_
      dsimp only [put, List.set, ev, nth, List.nil_append, List.cons_append, md, Nat.reducePow, Nat.reduceAdd, Nat.reduceMul]
      refine WL_nil ?_
      refine WC_seq ?_
      refine WC_region ?_
      refine WL_rel rfl (rel_make Try.underlying47 ei3 rfl rfl (by decide) (by decide)) ?_
      rintro _ _ ⟨b7, rfl, rfl⟩
      dsimp only [put, List.set, ev, nth, List.nil_append, List.cons_append, md, Nat.reducePow, Nat.reduceAdd, Nat.reduceMul]
      refine WL_det rfl (det_assign) ?_
      dsimp only [put, List.set, ev, nth, List.nil_append, List.cons_append, md, Nat.reducePow, Nat.reduceAdd, Nat.reduceMul]
      refine WL_nil ?_
      refine WC_seq ?_
      refine WC_seq ?_
      refine WC_region ?_
      refine WL_det rfl (det_assign) ?_
      dsimp only [put, List.set, ev, nth, List.nil_append, List.cons_append, md, Nat.reducePow, Nat.reduceAdd, Nat.reduceMul]
      refine WL_nil ?_
      refine WC_block ?_
      refine WC_loopS (ι := Nat × Value × (Option Nat × Obj)) [40, 41, 42, 43, 11, 46, 12, 47, 48, 49, 50, 51, 52, 53, 54, 55, 56, 59, 60, 61, 62, 63, 64, 65, 57, 58, 66, 67, 68, 69, 70, 71, 72, 73, 74, 75, 44, 45] (fun x => [(10, vn .i64 (16 * x.1)), (9, x.2.1)]) (fun x => [(7, x.2.2)]) (fun x => 16 * x.1 ≤ n + 15 ∧ RowN .i64 3 10 (dig (accN F n (tagR K) x.1)) x.2.1 x.2.2) (fun x => n + 15 - 16 * x.1) (0, .slice (some ⟨b7, 0, none⟩) 10 10, (some b7, .cells (arr .i64 10 fun _ => 0) 3 (0, 0))) ?_ ?_ ?_ ?_
      · rfl
      · rfl
      · exact ⟨by dsimp only; omega, RowN.congr (RowN.ofArr (by decide)) fun i _ => (dig_zero i).symm⟩
      · rintro ⟨k, v9, e9⟩ g ⟨hk, hr9⟩
        dsimp only [setAll, setG, setM, List.set]
        dsimp only at hk hr9
        refine WC_seq ?_
        refine WC_seq ?_
        refine WC_region ?_
        refine WL_det rfl (det_move) ?_
        dsimp only [put, List.set, ev, nth, List.nil_append, List.cons_append, md, Nat.reducePow, Nat.reduceAdd, Nat.reduceMul]
        refine WL_det rfl (det_move) ?_
        dsimp only [put, List.set, ev, nth, List.nil_append, List.cons_append, md, Nat.reducePow, Nat.reduceAdd, Nat.reduceMul]
        refine WL_det rfl (det_len Try.underlying35 rfl) ?_
        dsimp only [put, List.set, ev, nth, List.nil_append, List.cons_append, md, Nat.reducePow, Nat.reduceAdd, Nat.reduceMul]
        refine WL_det rfl (det_lss rfl rfl) ?_
        dsimp only [put, List.set, ev, nth, List.nil_append, List.cons_append, md, Nat.reducePow, Nat.reduceAdd, Nat.reduceMul]
        refine WL_nil ?_
        refine WC_cond rfl (fun hc1 => ?_) (fun hc1 => ?_)
        · have hc1 := of_decide_eq_true hc1
          refine WC_skip ?_
          refine WC_seq ?_
          refine WC_block ?_
          refine WC_seq ?_
          refine WC_region ?_
          refine WL_det rfl (det_assign) ?_
          dsimp only [put, List.set, ev, nth, List.nil_append, List.cons_append, md, Nat.reducePow, Nat.reduceAdd, Nat.reduceMul]
          refine WL_nil ?_
          refine WC_seq ?_
          refine WC_seq ?_
          refine WC_region ?_
          refine WL_det rfl (det_move) ?_
          dsimp only [put, List.set, ev, nth, List.nil_append, List.cons_append, md, Nat.reducePow, Nat.reduceAdd, Nat.reduceMul]
          refine WL_det rfl (det_assign) ?_
          dsimp only [put, List.set, ev, nth, List.nil_append, List.cons_append, md, Nat.reducePow, Nat.reduceAdd, Nat.reduceMul]
          refine WL_nil ?_
          refine WC_block ?_
          refine WC.addNone (.cells #[] 5 (0, 0)) ?_
          dsimp only [List.cons_append, List.nil_append]
          refine WC_loopS (ι := Nat × Value × (Option Nat × Obj)) [47, 48, 49, 50, 51, 52, 53, 54, 55, 56, 59, 60, 61, 62, 63, 64, 65, 57, 58] (fun x => [(12, vn .i64 (16 * k + x.1)), (11, x.2.1)]) (fun x => [(8, x.2.2)]) (fun x => x.1 ≤ 16 ∧ 16 * k + x.1 ≤ n ∧ RowN .u8 5 x.1 (fun j => F (16 * k + j)) x.2.1 x.2.2) (fun x => 16 - x.1) (0, .slice none 0 0, (none, .cells #[] 5 (0, 0))) ?_ ?_ ?_ ?_
          · rfl
          · rfl
          · exact ⟨Nat.zero_le _, by dsimp only; omega, RowV.nil _ _ _⟩
          · rintro ⟨i, v11, e11⟩ g ⟨hi, hin, hr11⟩
            dsimp only [setAll, setG, setM, List.set]
            dsimp only at hi hin hr11
            refine WC_seq ?_
            refine WC_seq ?_
            by_cases h16 : 16 * k + i < 16 * k + 16
            · refine WC_region ?_
              refine WL_det rfl (det_move) ?_
              dsimp only [put, List.set, ev, nth, List.nil_append, List.cons_append, md, Nat.reducePow, Nat.reduceAdd, Nat.reduceMul]
              refine WL_det rfl (det_move) ?_
              dsimp only [put, List.set, ev, nth, List.nil_append, List.cons_append, md, Nat.reducePow, Nat.reduceAdd, Nat.reduceMul]
              refine WL_det rfl (det_addi (q := 16) rfl rfl (by omega)) ?_
              dsimp only [put, List.set, ev, nth, List.nil_append, List.cons_append, md, Nat.reducePow, Nat.reduceAdd, Nat.reduceMul]
              refine WL_det rfl (Det.bv true (det_lss rfl rfl) (decide_eq_true h16)) ?_
              dsimp only [put, List.set, ev, nth, List.nil_append, List.cons_append, md, Nat.reducePow, Nat.reduceAdd, Nat.reduceMul]
              refine WL_det rfl (det_move) ?_
              dsimp only [put, List.set, ev, nth, List.nil_append, List.cons_append, md, Nat.reducePow, Nat.reduceAdd, Nat.reduceMul]
              refine WL_detG rfl (det_move) ?_
              dsimp only [put, List.set, ev, nth, List.nil_append, List.cons_append, md, Nat.reducePow, Nat.reduceAdd, Nat.reduceMul]
              refine WL_detG rfl (det_move) ?_
              dsimp only [put, List.set, ev, nth, List.nil_append, List.cons_append, md, Nat.reducePow, Nat.reduceAdd, Nat.reduceMul]
              refine WL_detG rfl (det_len Try.underlying35 rfl) ?_
              dsimp only [put, List.set, ev, nth, List.nil_append, List.cons_append, md, Nat.reducePow, Nat.reduceAdd, Nat.reduceMul]
              refine WL_detG rfl (det_lss rfl rfl) ?_
              dsimp only [put, List.set, ev, nth, List.nil_append, List.cons_append, md, Nat.reducePow, Nat.reduceAdd, Nat.reduceMul]
              refine WL_det rfl (det_pick_true rfl) ?_
              dsimp only [put, List.set, ev, nth, List.nil_append, List.cons_append, md, Nat.reducePow, Nat.reduceAdd, Nat.reduceMul]
              refine WL_nil ?_
              refine WC_cond rfl (fun hc2 => ?_) (fun hc2 => ?_)
              · have hc2 := of_decide_eq_true hc2
                refine WC_skip ?_
                refine WC_seq ?_
                refine WC_block ?_
                refine WC_region ?_
                refine WL_det rfl (det_move) ?_
                dsimp only [put, List.set, ev, nth, List.nil_append, List.cons_append, md, Nat.reducePow, Nat.reduceAdd, Nat.reduceMul]
                refine WL_det rfl (det_move) ?_
                dsimp only [put, List.set, ev, nth, List.nil_append, List.cons_append, md, Nat.reducePow, Nat.reduceAdd, Nat.reduceMul]
                refine WL_det rfl (det_move) ?_
                dsimp only [put, List.set, ev, nth, List.nil_append, List.cons_append, md, Nat.reducePow, Nat.reduceAdd, Nat.reduceMul]
                refine WL_det rfl (det_idxS Try.underlying35 Try.sizeOf5 rfl rfl (rfl) (by omega) (hp1 (by omega))) ?_
                dsimp only [put, List.set, ev, nth, List.nil_append, List.cons_append, md, Nat.reducePow, Nat.reduceAdd, Nat.reduceMul]
                refine WL_det rfl (det_loadF Try.isAgg5 rfl (hx1 _ (by omega))) ?_
                dsimp only [put, List.set, ev, nth, List.nil_append, List.cons_append, md, Nat.reducePow, Nat.reduceAdd, Nat.reduceMul]
                refine WL_rel rfl (rel_lit1 Try.underlying35 Try.zeroValue5 Try.sizeOf5 rfl rfl) ?_
                rintro _ _ ⟨bl, rfl, rfl⟩
                dsimp only [put, List.set, ev, nth, List.nil_append, List.cons_append, md, Nat.reducePow, Nat.reduceAdd, Nat.reduceMul]
                refine WL_chg rfl (chg_append1 8 9 rfl (hr11) rfl rfl rfl rfl Try.underlying35 ei5 rfl (by omega) (by decide)) ?_
                rintro v65 _ ⟨e65, hr65, rfl⟩
                dsimp only [put, List.eraseIdx, List.set, ev, nth, List.nil_append, List.cons_append, md, Nat.reducePow, Nat.reduceAdd, Nat.reduceMul]
                have hr65 : RowN .u8 5 (i + 1) (fun j => F (16 * k + j)) v65 e65 := RowN.snoc hr65 rfl
                refine WL_det rfl (det_assign) ?_
                dsimp only [put, List.set, ev, nth, List.nil_append, List.cons_append, md, Nat.reducePow, Nat.reduceAdd, Nat.reduceMul]
                refine WL_nil ?_
                refine WC_region ?_
                refine WL_det rfl (det_move) ?_
                dsimp only [put, List.set, ev, nth, List.nil_append, List.cons_append, md, Nat.reducePow, Nat.reduceAdd, Nat.reduceMul]
                refine WL_det rfl (det_addi (q := 1) rfl rfl (by omega)) ?_
                dsimp only [put, List.set, ev, nth, List.nil_append, List.cons_append, md, Nat.reducePow, Nat.reduceAdd, Nat.reduceMul]
                refine WL_det rfl (det_assign) ?_
                dsimp only [put, List.set, ev, nth, List.nil_append, List.cons_append, md, Nat.reducePow, Nat.reduceAdd, Nat.reduceMul]
                refine WL_nil ?_
                refine ⟨(i + 1, v65, e65), ?_, ?_, ?_, ?_⟩
                · rfl
                · rfl
                · exact ⟨by dsimp only; omega, by dsimp only; omega, hr65⟩
                · dsimp only; omega
              · have hc2 := of_decide_eq_false hc2
                refine WC_exit ?_
                refine inB_same ?_
                refine WC_seq ?_
                refine WC_region ?_
                obtain rfl : min (n - 16 * k) 16 = i := by omega
                refine WL_det rfl (det_move) ?_
                dsimp only [put, List.set, ev, nth, List.nil_append, List.cons_append, md, Nat.reducePow, Nat.reduceAdd, Nat.reduceMul]
                refine WL_rel rfl (rel_lit1 Try.underlying35 Try.zeroValue5 Try.sizeOf5 rfl rfl) ?_
                rintro _ _ ⟨bl, rfl, rfl⟩
                dsimp only [put, List.set, ev, nth, List.nil_append, List.cons_append, md, Nat.reducePow, Nat.reduceAdd, Nat.reduceMul]
                refine WL_chg rfl (chg_append1 8 9 rfl (hr11) rfl rfl rfl rfl Try.underlying35 ei5 rfl (by omega) (by decide)) ?_
                rintro v68 _ ⟨e68, hr68, rfl⟩
                dsimp only [put, List.eraseIdx, List.set, ev, nth, List.nil_append, List.cons_append, md, Nat.reducePow, Nat.reduceAdd, Nat.reduceMul]
                have hr68 : RowN .u8 5 (min (n - 16 * k) 16 + 1) (fun j => if j < min (n - 16 * k) 16 then F (16 * k + j) else 1) v68 e68 := RowV.congr hr68 fun j hj => catV_last _ _ _ _ _
                refine WL_det rfl (det_assign) ?_
                dsimp only [put, List.set, ev, nth, List.nil_append, List.cons_append, md, Nat.reducePow, Nat.reduceAdd, Nat.reduceMul]
                refine WL_nil ?_
                refine WC_region ?_
                refine WL_det rfl (det_move) ?_
                dsimp only [put, List.set, ev, nth, List.nil_append, List.cons_append, md, Nat.reducePow, Nat.reduceAdd, Nat.reduceMul]
                refine WL_det rfl (det_move) ?_
                dsimp only [put, List.set, ev, nth, List.nil_append, List.cons_append, md, Nat.reducePow, Nat.reduceAdd, Nat.reduceMul]
                refine WL_rel rfl (Rel_call rfl Try.call48 (fun w hw => pdigits_spec (min (n - 16 * k) 16 + 1) (fun j => if j < min (n - 16 * k) 16 then F (16 * k + j) else 1) (fun j hj => by split; exact hF _ (by omega); decide) (by omega) _ w (Rd.row hw 8 rfl hr68))) ?_
                rintro v71 _ ⟨e71, hr71, rfl⟩
                rw [lev_pg (fun j => F (16 * k + j))] at hr71
                have hr71 : RowN .i64 3 ((min (n - 16 * k) 16 + 1 + 1) / 2) (dig (pieceN F n k)) v71 e71 := hr71
                dsimp only [put, List.append_nil, List.set, ev, nth, List.nil_append, List.cons_append, md, Nat.reducePow, Nat.reduceAdd, Nat.reduceMul]
                refine WL_rel rfl (Rel_call rfl Try.call47 (fun w hw => pmod_spec ((min (n - 16 * k) 16 + 1 + 1) / 2) (dig (pieceN F n k)) (fun i _ => dig_lt _ i) (by omega) _ w (Rd.row hw 9 rfl hr71))) ?_
                rintro v72 _ ⟨e72, hr72, rfl⟩
                rw [psum_digA _ _ (half_lt (pieceN_le F n k hF))] at hr72
                dsimp only [put, List.append_nil, List.set, ev, nth, List.nil_append, List.cons_append, md, Nat.reducePow, Nat.reduceAdd, Nat.reduceMul]
                refine WL_rel rfl (Rel_call rfl Try.call52 (fun w hw => padd_spec (accN F n (tagR K) k) (pieceN F n k % Pp) (accN_lt _ _ _ _) (Nat.mod_lt _ Pp_pos) _ _ w (Rd.row hw 7 rfl hr9) (Rd.row hw 10 rfl hr72))) ?_
                rintro v73 _ ⟨e73, hr73, rfl⟩
                dsimp only [put, List.append_nil, List.set, ev, nth, List.nil_append, List.cons_append, md, Nat.reducePow, Nat.reduceAdd, Nat.reduceMul]
                refine WL_det rfl (det_move) ?_
                dsimp only [put, List.set, ev, nth, List.nil_append, List.cons_append, md, Nat.reducePow, Nat.reduceAdd, Nat.reduceMul]
                refine WL_rel rfl (Rel_call rfl Try.call54 (fun w hw => pmul_spec _ (tagR K) (Nat.mod_lt _ Pp_pos) (tagR_lt K) _ _ w (Rd.row hw 11 rfl hr73) (Rd.row hw 6 rfl hr38))) ?_
                rintro v75 _ ⟨e75, hr75, rfl⟩
                have hr75 : RowN .i64 3 10 (dig (accN F n (tagR K) (k + 1))) v75 e75 := hr75
                dsimp only [put, List.append_nil, List.set, ev, nth, List.nil_append, List.cons_append, md, Nat.reducePow, Nat.reduceAdd, Nat.reduceMul]
                refine WL.forget (.cons_cons _ (.cons_cons _ (.cons_cons _ (.cons_cons _ (.cons_cons _ (.cons_cons _ (.cons_cons _ (.cons _ (.cons _ (.cons _ (.cons _ (.cons _ (.cons_cons _ .slnil))))))))))))) ?_
                refine WL_det rfl (det_assign) ?_
                dsimp only [put, List.set, ev, nth, List.nil_append, List.cons_append, md, Nat.reducePow, Nat.reduceAdd, Nat.reduceMul]
                refine WL_nil ?_
                refine WC_region ?_
                refine WL_det rfl (det_move) ?_
                dsimp only [put, List.set, ev, nth, List.nil_append, List.cons_append, md, Nat.reducePow, Nat.reduceAdd, Nat.reduceMul]
                refine WL_det rfl (det_addi (q := 16) rfl rfl (by omega)) ?_
                dsimp only [put, List.set, ev, nth, List.nil_append, List.cons_append, md, Nat.reducePow, Nat.reduceAdd, Nat.reduceMul]
                refine WL_det rfl (det_assign) ?_
                dsimp only [put, List.set, ev, nth, List.nil_append, List.cons_append, md, Nat.reducePow, Nat.reduceAdd, Nat.reduceMul]
                refine WL_nil ?_
                refine ⟨(k + 1, v75, e75), ?_, ?_, ?_, ?_⟩
                · rfl
                · rfl
                · exact ⟨by dsimp only; omega, hr75⟩
                · dsimp only; omega
            · refine WC_region ?_
              refine WL_det rfl (det_move) ?_
              dsimp only [put, List.set, ev, nth, List.nil_append, List.cons_append, md, Nat.reducePow, Nat.reduceAdd, Nat.reduceMul]
              refine WL_det rfl (det_move) ?_
              dsimp only [put, List.set, ev, nth, List.nil_append, List.cons_append, md, Nat.reducePow, Nat.reduceAdd, Nat.reduceMul]
              refine WL_det rfl (det_addi (q := 16) rfl rfl (by omega)) ?_
              dsimp only [put, List.set, ev, nth, List.nil_append, List.cons_append, md, Nat.reducePow, Nat.reduceAdd, Nat.reduceMul]
              refine WL_det rfl (Det.bv false (det_lss rfl rfl) (decide_eq_false h16)) ?_
              dsimp only [put, List.set, ev, nth, List.nil_append, List.cons_append, md, Nat.reducePow, Nat.reduceAdd, Nat.reduceMul]
              refine WL_det rfl (det_move) ?_
              dsimp only [put, List.set, ev, nth, List.nil_append, List.cons_append, md, Nat.reducePow, Nat.reduceAdd, Nat.reduceMul]
              refine WL_skipG rfl ?_
              dsimp only [put, List.set, ev, nth, List.nil_append, List.cons_append, md, Nat.reducePow, Nat.reduceAdd, Nat.reduceMul]
              refine WL_skipG rfl ?_
              dsimp only [put, List.set, ev, nth, List.nil_append, List.cons_append, md, Nat.reducePow, Nat.reduceAdd, Nat.reduceMul]
              refine WL_skipG rfl ?_
              dsimp only [put, List.set, ev, nth, List.nil_append, List.cons_append, md, Nat.reducePow, Nat.reduceAdd, Nat.reduceMul]
              refine WL_skipG rfl ?_
              dsimp only [put, List.set, ev, nth, List.nil_append, List.cons_append, md, Nat.reducePow, Nat.reduceAdd, Nat.reduceMul]
              refine WL_det rfl (det_pick_false rfl) ?_
              dsimp only [put, List.set, ev, nth, List.nil_append, List.cons_append, md, Nat.reducePow, Nat.reduceAdd, Nat.reduceMul]
              refine WL_nil ?_
              refine WC_cond_false rfl ?_
              refine WC_exit ?_
              refine inB_same ?_
              refine WC_seq ?_
              refine WC_region ?_
              obtain rfl : min (n - 16 * k) 16 = i := by omega
              refine WL_det rfl (det_move) ?_
              dsimp only [put, List.set, ev, nth, List.nil_append, List.cons_append, md, Nat.reducePow, Nat.reduceAdd, Nat.reduceMul]
              refine WL_rel rfl (rel_lit1 Try.underlying35 Try.zeroValue5 Try.sizeOf5 rfl rfl) ?_
              rintro _ _ ⟨bl, rfl, rfl⟩
              dsimp only [put, List.set, ev, nth, List.nil_append, List.cons_append, md, Nat.reducePow, Nat.reduceAdd, Nat.reduceMul]
              refine WL_chg rfl (chg_append1 8 9 rfl (hr11) rfl rfl rfl rfl Try.underlying35 ei5 rfl (by omega) (by decide)) ?_
              rintro v68 _ ⟨e68, hr68, rfl⟩
              dsimp only [put, List.eraseIdx, List.set, ev, nth, List.nil_append, List.cons_append, md, Nat.reducePow, Nat.reduceAdd, Nat.reduceMul]
              have hr68 : RowN .u8 5 (min (n - 16 * k) 16 + 1) (fun j => if j < min (n - 16 * k) 16 then F (16 * k + j) else 1) v68 e68 := RowV.congr hr68 fun j hj => catV_last _ _ _ _ _
              refine WL_det rfl (det_assign) ?_
              dsimp only [put, List.set, ev, nth, List.nil_append, List.cons_append, md, Nat.reducePow, Nat.reduceAdd, Nat.reduceMul]
              refine WL_nil ?_
              refine WC_region ?_
              refine WL_det rfl (det_move) ?_
              dsimp only [put, List.set, ev, nth, List.nil_append, List.cons_append, md, Nat.reducePow, Nat.reduceAdd, Nat.reduceMul]
              refine WL_det rfl (det_move) ?_
              dsimp only [put, List.set, ev, nth, List.nil_append, List.cons_append, md, Nat.reducePow, Nat.reduceAdd, Nat.reduceMul]
              refine WL_rel rfl (Rel_call rfl Try.call48 (fun w hw => pdigits_spec (min (n - 16 * k) 16 + 1) (fun j => if j < min (n - 16 * k) 16 then F (16 * k + j) else 1) (fun j hj => by split; exact hF _ (by omega); decide) (by omega) _ w (Rd.row hw 8 rfl hr68))) ?_
              rintro v71 _ ⟨e71, hr71, rfl⟩
              rw [lev_pg (fun j => F (16 * k + j))] at hr71
              have hr71 : RowN .i64 3 ((min (n - 16 * k) 16 + 1 + 1) / 2) (dig (pieceN F n k)) v71 e71 := hr71
              dsimp only [put, List.append_nil, List.set, ev, nth, List.nil_append, List.cons_append, md, Nat.reducePow, Nat.reduceAdd, Nat.reduceMul]
              refine WL_rel rfl (Rel_call rfl Try.call47 (fun w hw => pmod_spec ((min (n - 16 * k) 16 + 1 + 1) / 2) (dig (pieceN F n k)) (fun i _ => dig_lt _ i) (by omega) _ w (Rd.row hw 9 rfl hr71))) ?_
              rintro v72 _ ⟨e72, hr72, rfl⟩
              rw [psum_digA _ _ (half_lt (pieceN_le F n k hF))] at hr72
              dsimp only [put, List.append_nil, List.set, ev, nth, List.nil_append, List.cons_append, md, Nat.reducePow, Nat.reduceAdd, Nat.reduceMul]
              refine WL_rel rfl (Rel_call rfl Try.call52 (fun w hw => padd_spec (accN F n (tagR K) k) (pieceN F n k % Pp) (accN_lt _ _ _ _) (Nat.mod_lt _ Pp_pos) _ _ w (Rd.row hw 7 rfl hr9) (Rd.row hw 10 rfl hr72))) ?_
              rintro v73 _ ⟨e73, hr73, rfl⟩
              dsimp only [put, List.append_nil, List.set, ev, nth, List.nil_append, List.cons_append, md, Nat.reducePow, Nat.reduceAdd, Nat.reduceMul]
              refine WL_det rfl (det_move) ?_
              dsimp only [put, List.set, ev, nth, List.nil_append, List.cons_append, md, Nat.reducePow, Nat.reduceAdd, Nat.reduceMul]
              refine WL_rel rfl (Rel_call rfl Try.call54 (fun w hw => pmul_spec _ (tagR K) (Nat.mod_lt _ Pp_pos) (tagR_lt K) _ _ w (Rd.row hw 11 rfl hr73) (Rd.row hw 6 rfl hr38))) ?_
              rintro v75 _ ⟨e75, hr75, rfl⟩
              have hr75 : RowN .i64 3 10 (dig (accN F n (tagR K) (k + 1))) v75 e75 := hr75
              dsimp only [put, List.append_nil, List.set, ev, nth, List.nil_append, List.cons_append, md, Nat.reducePow, Nat.reduceAdd, Nat.reduceMul]
              refine WL.forget (.cons_cons _ (.cons_cons _ (.cons_cons _ (.cons_cons _ (.cons_cons _ (.cons_cons _ (.cons_cons _ (.cons _ (.cons _ (.cons _ (.cons _ (.cons _ (.cons_cons _ .slnil))))))))))))) ?_
              refine WL_det rfl (det_assign) ?_
              dsimp only [put, List.set, ev, nth, List.nil_append, List.cons_append, md, Nat.reducePow, Nat.reduceAdd, Nat.reduceMul]
              refine WL_nil ?_
              refine WC_region ?_
              refine WL_det rfl (det_move) ?_
              dsimp only [put, List.set, ev, nth, List.nil_append, List.cons_append, md, Nat.reducePow, Nat.reduceAdd, Nat.reduceMul]
              refine WL_det rfl (det_addi (q := 16) rfl rfl (by omega)) ?_
              dsimp only [put, List.set, ev, nth, List.nil_append, List.cons_append, md, Nat.reducePow, Nat.reduceAdd, Nat.reduceMul]
              refine WL_det rfl (det_assign) ?_
              dsimp only [put, List.set, ev, nth, List.nil_append, List.cons_append, md, Nat.reducePow, Nat.reduceAdd, Nat.reduceMul]
              refine WL_nil ?_
              refine ⟨(k + 1, v75, e75), ?_, ?_, ?_, ?_⟩
              · rfl
              · rfl
              · exact ⟨by dsimp only; omega, hr75⟩
              · dsimp only; omega
        · have hc1 := of_decide_eq_false hc1
          obtain rfl : (n + 15) / 16 = k := by omega
          refine WC_exit ?_
          refine inB_same ?_
          refine WC_seq ?_
          refine WC_region ?_
          refine WL_det rfl (det_move) ?_
          dsimp only [put, List.set, ev, nth, List.nil_append, List.cons_append, md, Nat.reducePow, Nat.reduceAdd, Nat.reduceMul]
          refine WL_rel rfl (Rel_call rfl Try.call48 (fun w hw => pdigits_spec 16 (fun j => byt K (16 + j)) (fun i _ => byt_lt K _) (by decide) _ w (Rd.row hw 3 rfl hr6))) ?_
          rintro v77 _ ⟨e77, hr77, rfl⟩
          have hr77 : RowN .i64 3 8 (dig (lev (fun j => byt K (16 + j)) 16)) v77 e77 := hr77
          dsimp only [put, List.append_nil, List.set, ev, nth, List.nil_append, List.cons_append, md, Nat.reducePow, Nat.reduceAdd, Nat.reduceMul]
          refine WL_det rfl (det_assign) ?_
          dsimp only [put, List.set, ev, nth, List.nil_append, List.cons_append, md, Nat.reducePow, Nat.reduceAdd, Nat.reduceMul]
          refine WL_nil ?_
          refine WC_seq ?_
          refine WC_region ?_
          refine WL_rel rfl (rel_alloc z71 rfl) ?_
          rintro _ _ ⟨b9, rfl, rfl⟩
          dsimp only [put, List.set, ev, nth, List.nil_append, List.cons_append, md, Nat.reducePow, Nat.reduceAdd, Nat.reduceMul]
          refine WL_nil ?_
          refine WC_seq ?_
          refine WC_region ?_
          refine WL_det rfl (det_assign) ?_
          dsimp only [put, List.set, ev, nth, List.nil_append, List.cons_append, md, Nat.reducePow, Nat.reduceAdd, Nat.reduceMul]
          refine WL_nil ?_
          refine WC_seq ?_
          refine WC_seq ?_
          refine WC_region ?_
          refine WL_det rfl (det_assign) ?_
          dsimp only [put, List.set, ev, nth, List.nil_append, List.cons_append, md, Nat.reducePow, Nat.reduceAdd, Nat.reduceMul]
          refine WL_nil ?_
          refine WC_block ?_
          obtain ⟨bA, cA, curA, rfl, rfl, hle9, hmx9, hsz9, hcur9⟩ := RowV.pos hr9 (by decide)
          obtain ⟨b77, c77, cur77, rfl, rfl, hle77, hmx77, hsz77, hcur77⟩ := RowV.pos hr77 (by decide)
          obtain ⟨A, hA⟩ : ∃ A, A = accN F n (tagR K) ((n + 15) / 16) := ⟨_, rfl⟩
          obtain ⟨S, hS⟩ : ∃ S, S = lev (fun j => byt K (16 + j)) 16 := ⟨_, rfl⟩
          rw [← hA] at hcur9
          rw [← hS] at hcur77
          refine WC_loopS (ι := Nat) [78, 79, 82, 83, 84, 85, 86, 87, 88, 89, 90, 91, 92, 17, 93, 94, 95, 96, 97, 98, 99, 100, 101, 102, 103, 104, 105, 106, 107, 108, 80, 81] (fun k => [(16, vn .i64 (k)), (15, vn .i64 (adc A S k))]) (fun k => [(9, (some b9, .cells (arr .u8 16 (fun i => if i < 2 * k then byt (A + S) i else 0)) 71 (0, 0)))]) (fun k => k ≤ 8) (fun k => 8 - k) 0 ?_ ?_ ?_ ?_
          · rw [adc_zero]
            try rfl
          · simp only [Nat.mul_zero, Nat.not_lt_zero, if_false]
            try rfl
          · exact (by omega)
          · intro k g hI
            dsimp only [setAll, setG, setM, List.set]
            have hd1 := dig_lt A k
            have hd2 := dig_lt S k
            have hd3 := adc_lt A S k
            refine WC_seq ?_
            refine WC_seq ?_
            refine WC_region ?_
            refine WL_det rfl (det_move) ?_
            dsimp only [put, List.set, ev, nth, List.nil_append, List.cons_append, md, Nat.reducePow, Nat.reduceAdd, Nat.reduceMul]
            refine WL_det rfl (det_lss (q := 8) rfl rfl) ?_
            dsimp only [put, List.set, ev, nth, List.nil_append, List.cons_append, md, Nat.reducePow, Nat.reduceAdd, Nat.reduceMul]
            refine WL_nil ?_
            refine WC_cond rfl (fun hc3 => ?_) (fun hc3 => ?_)
            · have hc3 := of_decide_eq_true hc3
              refine WC_skip ?_
              refine WC_seq ?_
              refine WC_block ?_
              refine WC_seq ?_
              refine WC_draw [[], [], [0, 1], [0, 1, 2], [], [], [4, 5], [4, 5, 6], [0, 1, 2, 3, 4, 5, 6, 7], [], [0, 1, 2, 3, 4, 5, 6, 7, 8, 9], [0, 1, 2, 3, 4, 5, 6, 7, 8, 9, 10]] [] 110 [] (List.nil_sublist _) mixed rfl (by decide) ?_
              refine RW.pure rfl rfl (fun _ => rfl) (fun V hV => det_move) (fun _ _ _ => rfl) ?_
              dsimp only [put, List.set, ev, nth, List.nil_append, List.cons_append, md, Nat.reducePow, Nat.reduceAdd, Nat.reduceMul]
              refine RW.pure rfl rfl (fun _ => rfl) (fun V hV => det_move) (fun _ _ _ => rfl) ?_
              dsimp only [put, List.set, ev, nth, List.nil_append, List.cons_append, md, Nat.reducePow, Nat.reduceAdd, Nat.reduceMul]
              refine RW.pure rfl rfl (fun _ => rfl) (fun V hV => det_idxS0 Try.underlying47 Try.sizeOf3 rfl rfl (rfl) (by omega)) (fun _ _ _ => rfl) ?_
              dsimp only [put, List.set, ev, nth, List.nil_append, List.cons_append, md, Nat.reducePow, Nat.reduceAdd, Nat.reduceMul]
              refine RW.det [] rfl rfl rfl rfl (fun _ => rfl) (fun V hV => Det.rel (det_load 7 Try.isAgg3 rfl rfl (hcur9 _ (by omega)))) (fun _ _ _ => rfl) ?_
              dsimp only [put, List.set, ev, nth, List.nil_append, List.cons_append, md, Nat.reducePow, Nat.reduceAdd, Nat.reduceMul]
              refine RW.pure rfl rfl (fun _ => rfl) (fun V hV => det_move) (fun _ _ _ => rfl) ?_
              dsimp only [put, List.set, ev, nth, List.nil_append, List.cons_append, md, Nat.reducePow, Nat.reduceAdd, Nat.reduceMul]
              refine RW.pure rfl rfl (fun _ => rfl) (fun V hV => det_move) (fun _ _ _ => rfl) ?_
              dsimp only [put, List.set, ev, nth, List.nil_append, List.cons_append, md, Nat.reducePow, Nat.reduceAdd, Nat.reduceMul]
              refine RW.pure rfl rfl (fun _ => rfl) (fun V hV => det_idxS0 Try.underlying47 Try.sizeOf3 rfl rfl (rfl) (by omega)) (fun _ _ _ => rfl) ?_
              dsimp only [put, List.set, ev, nth, List.nil_append, List.cons_append, md, Nat.reducePow, Nat.reduceAdd, Nat.reduceMul]
              refine RW.det [] rfl rfl rfl rfl (fun _ => rfl) (fun V hV => Det.rel (det_load 8 Try.isAgg3 rfl rfl (hcur77 _ (by omega)))) (fun _ _ _ => rfl) ?_
              dsimp only [put, List.set, ev, nth, List.nil_append, List.cons_append, md, Nat.reducePow, Nat.reduceAdd, Nat.reduceMul]
              refine RW.pure rfl rfl (fun _ => rfl) (fun V hV => det_addi rfl rfl (by omega)) (fun _ _ _ => rfl) ?_
              dsimp only [put, List.set, ev, nth, List.nil_append, List.cons_append, md, Nat.reducePow, Nat.reduceAdd, Nat.reduceMul]
              refine RW.pure rfl rfl (fun _ => rfl) (fun V hV => det_move) (fun _ _ _ => rfl) ?_
              dsimp only [put, List.set, ev, nth, List.nil_append, List.cons_append, md, Nat.reducePow, Nat.reduceAdd, Nat.reduceMul]
              refine RW.pure rfl rfl (fun _ => rfl) (fun V hV => det_addi rfl rfl (by omega)) (fun _ _ _ => rfl) ?_
              dsimp only [put, List.set, ev, nth, List.nil_append, List.cons_append, md, Nat.reducePow, Nat.reduceAdd, Nat.reduceMul]
              refine RW.pure rfl rfl (fun _ => rfl) (fun V hV => det_assign) (fun _ _ _ => rfl) ?_
              dsimp only [put, List.set, ev, nth, List.nil_append, List.cons_append, md, Nat.reducePow, Nat.reduceAdd, Nat.reduceMul]
              refine RW.done (fun V => _ ++ flat [] V) rfl rfl (fun _ => rfl) (fun V hV => ?_)
              try dsimp only [put, blk, flat_nil, List.append_nil, List.append, List.eraseIdx, List.set, ev, nth, List.nil_append, List.cons_append, md, Nat.reducePow, Nat.reduceAdd, Nat.reduceMul]
              refine WC_seq ?_
              refine WC_region ?_
              refine WL_det rfl (det_move) ?_
              dsimp only [put, List.set, ev, nth, List.nil_append, List.cons_append, md, Nat.reducePow, Nat.reduceAdd, Nat.reduceMul]
              refine WL_det rfl (det_muli (p := 2) rfl rfl (by omega)) ?_
              dsimp only [put, List.set, ev, nth, List.nil_append, List.cons_append, md, Nat.reducePow, Nat.reduceAdd, Nat.reduceMul]
              refine WL_det rfl (det_move) ?_
              dsimp only [put, List.set, ev, nth, List.nil_append, List.cons_append, md, Nat.reducePow, Nat.reduceAdd, Nat.reduceMul]
              refine WL_det rfl (det_remi (q := 256) rfl rfl (by omega)) ?_
              dsimp only [put, List.set, ev, nth, List.nil_append, List.cons_append, md, Nat.reducePow, Nat.reduceAdd, Nat.reduceMul]
              refine WL_det rfl (det_conv' Try.underlying5 Try.underlying3 rfl rfl (by simp only [md]; first | omega | exact Nat.or_lt_two_pow (n := 32) (by omega) (by omega) | exact Nat.lt_of_le_of_lt Nat.and_le_left (by omega) | exact Nat.lt_of_le_of_lt Nat.and_le_right (by omega) | exact Nat.xor_lt_two_pow (n := 32) (by omega) (by omega))) ?_
              dsimp only [put, List.set, ev, nth, List.nil_append, List.cons_append, md, Nat.reducePow, Nat.reduceAdd, Nat.reduceMul]
              refine WL_det rfl (det_idxA Try.underlying71 Try.sizeOf5 rfl rfl (rfl) (by omega)) ?_
              dsimp only [put, List.set, ev, nth, List.nil_append, List.cons_append, md, Nat.reducePow, Nat.reduceAdd, Nat.reduceMul]
              refine WL_chg rfl (chg_storeA 9 Try.sizeOf5 rfl rfl (by omega) rfl) ?_
              rintro _ _ rfl
              dsimp only [put, List.set, ev, nth, List.nil_append, List.cons_append, md, Nat.reducePow, Nat.reduceAdd, Nat.reduceMul]
              refine WL_nil ?_
              refine WC_seq ?_
              refine WC_region ?_
              refine WL_det rfl (det_move) ?_
              dsimp only [put, List.set, ev, nth, List.nil_append, List.cons_append, md, Nat.reducePow, Nat.reduceAdd, Nat.reduceMul]
              refine WL_det rfl (det_muli (p := 2) rfl rfl (by omega)) ?_
              dsimp only [put, List.set, ev, nth, List.nil_append, List.cons_append, md, Nat.reducePow, Nat.reduceAdd, Nat.reduceMul]
              refine WL_det rfl (det_addi (q := 1) rfl rfl (by omega)) ?_
              dsimp only [put, List.set, ev, nth, List.nil_append, List.cons_append, md, Nat.reducePow, Nat.reduceAdd, Nat.reduceMul]
              refine WL_det rfl (det_move) ?_
              dsimp only [put, List.set, ev, nth, List.nil_append, List.cons_append, md, Nat.reducePow, Nat.reduceAdd, Nat.reduceMul]
              refine WL_det rfl (det_quoi (q := 256) rfl rfl (by omega) (.inr ⟨rfl, by omega⟩) (.inl rfl)) ?_
              dsimp only [put, List.set, ev, nth, List.nil_append, List.cons_append, md, Nat.reducePow, Nat.reduceAdd, Nat.reduceMul]
              refine WL_det rfl (det_remi (q := 256) rfl rfl (by omega)) ?_
              dsimp only [put, List.set, ev, nth, List.nil_append, List.cons_append, md, Nat.reducePow, Nat.reduceAdd, Nat.reduceMul]
              refine WL_det rfl (det_conv' Try.underlying5 Try.underlying3 rfl rfl (by simp only [md]; first | omega | exact Nat.or_lt_two_pow (n := 32) (by omega) (by omega) | exact Nat.lt_of_le_of_lt Nat.and_le_left (by omega) | exact Nat.lt_of_le_of_lt Nat.and_le_right (by omega) | exact Nat.xor_lt_two_pow (n := 32) (by omega) (by omega))) ?_
              dsimp only [put, List.set, ev, nth, List.nil_append, List.cons_append, md, Nat.reducePow, Nat.reduceAdd, Nat.reduceMul]
              refine WL_det rfl (det_idxA Try.underlying71 Try.sizeOf5 rfl rfl (rfl) (by omega)) ?_
              dsimp only [put, List.set, ev, nth, List.nil_append, List.cons_append, md, Nat.reducePow, Nat.reduceAdd, Nat.reduceMul]
              refine WL_chg rfl (chg_storeA 9 Try.sizeOf5 rfl rfl (by omega) rfl) ?_
              rintro _ _ rfl
              dsimp only [put, List.set, ev, nth, List.nil_append, List.cons_append, md, Nat.reducePow, Nat.reduceAdd, Nat.reduceMul]
              refine WL_nil ?_
              refine WC_region ?_
              refine WL_det rfl (det_move) ?_
              dsimp only [put, List.set, ev, nth, List.nil_append, List.cons_append, md, Nat.reducePow, Nat.reduceAdd, Nat.reduceMul]
              refine WL_det rfl (det_quoi (q := 65536) rfl rfl (by omega) (.inr ⟨rfl, by omega⟩) (.inl rfl)) ?_
              dsimp only [put, List.set, ev, nth, List.nil_append, List.cons_append, md, Nat.reducePow, Nat.reduceAdd, Nat.reduceMul]
              refine WL_det rfl (det_assign) ?_
              dsimp only [put, List.set, ev, nth, List.nil_append, List.cons_append, md, Nat.reducePow, Nat.reduceAdd, Nat.reduceMul]
              refine WL_nil ?_
              refine WC_region ?_
              refine WL_det rfl (det_move) ?_
              dsimp only [put, List.set, ev, nth, List.nil_append, List.cons_append, md, Nat.reducePow, Nat.reduceAdd, Nat.reduceMul]
              refine WL_det rfl (det_addi (q := 1) rfl rfl (by omega)) ?_
              dsimp only [put, List.set, ev, nth, List.nil_append, List.cons_append, md, Nat.reducePow, Nat.reduceAdd, Nat.reduceMul]
              refine WL_det rfl (det_assign) ?_
              dsimp only [put, List.set, ev, nth, List.nil_append, List.cons_append, md, Nat.reducePow, Nat.reduceAdd, Nat.reduceMul]
              refine WL_nil ?_
              refine ⟨k + 1, ?_, ?_, ?_, ?_⟩
              · rw [ad_carry]
                try rfl
              · rw [ad_step]
                try rfl
              · omega
              · omega
            · have hc3 := of_decide_eq_false hc3
              refine WC_exit ?_
              refine inB_same ?_
              refine WC_seq ?_
              refine WC_region ?_
              refine WL_det rfl (det_loadWA 9 Try.underlying71 rfl i71 rfl rfl) ?_
              dsimp only [put, List.set, ev, nth, List.nil_append, List.cons_append, md, Nat.reducePow, Nat.reduceAdd, Nat.reduceMul]
              refine WL_chg rfl (chg_storeWA 1 Try.sizeOf71 rfl rfl rfl) ?_
              rintro _ _ rfl
              dsimp only [put, List.set, ev, nth, List.nil_append, List.cons_append, md, Nat.reducePow, Nat.reduceAdd, Nat.reduceMul]
              refine WL_nil ?_
              refine WC_ret ?_
              obtain rfl : k = 8 := by omega
              rw [arr_congr (f := fun i => if i < 2 * 8 then byt (A + S) i else 0) (g := byt (A + S)) (fun i hi => if_pos hi), hA, hS, accZ F n K hF]
              refine fin_cell 1 Try.results45 rfl rfl Try.underlying71 rfl i71 (arr_size _ _ _) ([]) (List.nil_sublist _) ?_
              exact ⟨rfl, rfl⟩

end Go.Proofs.Ytpmldkhgdpchjaa

set_option linter.unusedVariables false
namespace Go.Proofs.Ytpmldkhgdpchjaa
open Go.MW
def offOf (tn : Nat → Nat) : Nat → Nat
  | 0 => 0
  | k + 1 => offOf tn k + tn k
/-- The tag of texts that a literal lists. -/
theorem tag_list (K q : Nat) (c : Array Value) (tv : Nat → Value) (tn : Nat → Nat) (tf : Nat → Nat → Nat) (F : Nat → Nat) (hF : ∀ i, i < q → ∀ j, j < tn i → F (offOf tn i + j) = tf i j) (hN : offOf tn q ≤ 1000000) (hq : q ≤ 1000) (hb : ∀ i, i < offOf tn q → F i < 256) (hc : ∀ i, i < q → c[i]? = some (tv i))
    {w0 w : World} {mm mi : Mem} {vs : Value} (hw : Has w0 mm w) (hs : mi.Sublist mm) (h : IsSl q c 35 vs mi) (ht : ∀ i, i < q → Rd w .u8 (tn i) (tf i) (tv i)) :
    Calls Try.prog 46 [.agg (arr .u8 32 (byt K)), vs].toArray w (PostV w (.agg (arr .u8 16 (byt (tagZ F (offOf tn q) K))))) := by
  obtain ⟨b, rfl, rfl⟩ := h
  have hw' := hw.sub hs
  exact tag_spec K (some ⟨b, 0, none⟩) q q b 0 tv tn (offOf tn) tf F (fun _ => rfl) rfl (fun _ => rfl) hF hN hq hb w (fun i hi => by simp [World.cell?, hw'.at 0 rfl, hc i hi]) ht
theorem same_true (n : Nat) (f g : Nat → Nat) (h : ∀ i, i < n → f i = g i) (hn : n ≤ maxLen) (va vb : Value) (w : World) (ha : Rd w .u8 n f va) (hb : Rd w .u8 n g vb) : Calls Try.prog 20 [va, vb].toArray w (PostV w (.bool true)) := by
  have hh := same_spec n n f g va vb w ha hb hn
  rwa [sameB_eq h] at hh

end Go.Proofs.Ytpmldkhgdpchjaa

set_option linter.unusedVariables false
namespace Go.Proofs.Ytpmldkhgdpchjaa
open Go.MW
end Go.Proofs.Ytpmldkhgdpchjaa
