/- Walks of the Go functions, printed by a program of this claim. Conditions: none. -/
import Derived.Test.YtpmldkhgdpchjaaS15
import Derived.Test.YtpmldkhgdpchjaaM8
set_option linter.unusedVariables false
namespace Go.Proofs.Ytpmldkhgdpchjaa
open Go.MW
theorem once_modQ {A Q : Nat} (h : Q ≤ A) (h2 : A < 2 * Q) : A % Q = A - Q := by
  rw [Nat.mod_eq_sub_mod h, Nat.mod_eq_of_lt (by omega)]
theorem byt_even (N k : Nat) (h : k % 2 = 0) : dig N (k / 2) % 256 = byt N k := by
  rw [dig_byt, show 2 * (k / 2) = k by omega]
  have h1 := byt_lt N k
  omega
theorem byt_odd (N k : Nat) (h : k % 2 = 1) : dig N (k / 2) / 256 % 256 = byt N k := by
  rw [dig_byt, show 2 * (k / 2) + 1 = k by omega]
  have h1 := byt_lt N (2 * (k / 2))
  have h2 := byt_lt N k
  omega
theorem P10 : Pp < 65536 ^ 10 := by decide
theorem P10' {N : Nat} (h : N < Pp) : N < 65536 ^ 10 := Nat.lt_trans h P10
theorem clf_a (f : Nat → Nat) (k : Nat) (h : k = 3 ∨ k = 7 ∨ k = 11 ∨ k = 15) : clf f k = f k % 16 := by
  unfold clf; rw [if_pos (by omega)]; exact Nat.and_two_pow_sub_one_eq_mod (f k) 4
set_option maxRecDepth 100000 in
theorem and252 : ∀ x, x < 256 → x &&& 252 = x / 4 * 4 := by decide
theorem clf_b (f : Nat → Nat) (k : Nat) (hf : f k < 256) (h : k = 4 ∨ k = 8 ∨ k = 12) : clf f k = f k / 4 * 4 := by
  unfold clf; rw [if_neg (by omega), if_pos (by omega)]; exact and252 _ hf
theorem clf_c (f : Nat → Nat) (k : Nat) (hk : k < 16) (h : ¬ (k = 3 ∨ k = 7 ∨ k = 11 ∨ k = 15)) (h2 : ¬ (k = 4 ∨ k = 8 ∨ k = 12)) : clf f k = f k := by
  unfold clf; rw [if_neg (by omega), if_neg (by omega)]

set_option maxRecDepth 100000 in
set_option maxHeartbeats 400000 in
theorem p_spec  (w : World) :
    Calls Try.prog 80 [].toArray w (Post w (IsSl 10 (arr .i64 10 (dig Pp)) 3)) := by
  refine calls_of_WC Try.func80 rfl ?_
  simp only [Try.ntmps80, List.length_nil, Nat.reduceSub, List.replicate, List.nil_append]
  refine WC_seq ?_
  refine WC_region ?_
  refine WL_det rfl (det_assign) ?_
  dsimp only [put, List.set, ev, nth, List.nil_append, List.cons_append, md, Nat.reducePow, Nat.reduceAdd, Nat.reduceMul]
  refine WL_nil ?_
  refine WC_seq ?_
  refine WC_region ?_
  refine WL_rel rfl (rel_lit (c := arr .i64 10 (dig Pp)) Try.underlying47 Try.zeroValue3 Try.sizeOf3 (by decide) (by decide) (by kernel_rfl)) ?_
  rintro _ _ ⟨b0, rfl, rfl⟩
  dsimp only [put, List.set, ev, nth, List.nil_append, List.cons_append, md, Nat.reducePow, Nat.reduceAdd, Nat.reduceMul]
  refine WL_det rfl (det_assign) ?_
  dsimp only [put, List.set, ev, nth, List.nil_append, List.cons_append, md, Nat.reducePow, Nat.reduceAdd, Nat.reduceMul]
  refine WL_nil ?_
  refine WC_ret ?_
  refine fin_tmp Try.results80 rfl ([_]) (List.Sublist.refl _) ?_
  exact ⟨_, rfl, rfl⟩

set_option maxRecDepth 100000 in
set_option maxHeartbeats 1000000 in
theorem pmod_spec (n : Nat) (f : Nat → Nat) (hf : ∀ i, i < n → f i < 65536) (hn : n ≤ 1000) (va : Value) (w : World) (ha : Rd w .i64 n f va) :
    Calls Try.prog 47 [va].toArray w (Post w (fun v m => ∃ e, RowN .i64 3 10 (dig (psum f n % Pp)) v e ∧ m = [e])) := by
  obtain ⟨p1, c1, b1, o1, rfl, hp1, hx1⟩ := ha
  have hQ17 : 2 * Pp ≤ 65536 ^ 10 := by decide
  refine calls_of_WC Try.func47 rfl ?_
  simp only [Try.ntmps47, List.length_cons, List.length_nil, Nat.reduceAdd, Nat.reduceSub, List.replicate, List.cons_append, List.nil_append]
  refine WC_seq ?_
  refine WC_region ?_
  refine WL_det rfl (det_assign) ?_
  dsimp only [put, List.set, ev, nth, List.nil_append, List.cons_append, md, Nat.reducePow, Nat.reduceAdd, Nat.reduceMul]
  refine WL_nil ?_
  refine WC_seq ?_
  refine WC_region ?_
  refine WL_rel rfl (rel_make Try.underlying47 ei3 rfl rfl (by decide) (by decide)) ?_
  rintro _ _ ⟨b0, rfl, rfl⟩
  dsimp only [put, List.set, ev, nth, List.nil_append, List.cons_append, md, Nat.reducePow, Nat.reduceAdd, Nat.reduceMul]
  refine WL_det rfl (det_assign) ?_
  dsimp only [put, List.set, ev, nth, List.nil_append, List.cons_append, md, Nat.reducePow, Nat.reduceAdd, Nat.reduceMul]
  refine WL_nil ?_
  refine WC_seq ?_
  refine WC_seq ?_
  refine WC_region ?_
  refine WL_det rfl (det_move) ?_
  dsimp only [put, List.set, ev, nth, List.nil_append, List.cons_append, md, Nat.reducePow, Nat.reduceAdd, Nat.reduceMul]
  refine WL_det rfl (det_len Try.underlying47 rfl) ?_
  dsimp only [put, List.set, ev, nth, List.nil_append, List.cons_append, md, Nat.reducePow, Nat.reduceAdd, Nat.reduceMul]
  refine WL_det rfl (det_subz rfl rfl rfl (by omega) (by omega)) ?_
  dsimp only [put, List.set, ev, nth, List.nil_append, List.cons_append, md, Nat.reducePow, Nat.reduceAdd, Nat.reduceMul]
  refine WL_det rfl (det_assign) ?_
  dsimp only [put, List.set, ev, nth, List.nil_append, List.cons_append, md, Nat.reducePow, Nat.reduceAdd, Nat.reduceMul]
  refine WL_nil ?_
  refine WC_block ?_
  refine WC_loopS (ι := Nat × Value × (Option Nat × Obj)) [13, 14, 5, 17, 18, 21, 22, 23, 24, 25, 26, 27, 6, 7, 28, 29, 32, 33, 34, 35, 36, 37, 38, 8, 39, 40, 41, 42, 43, 44, 45, 30, 31, 46, 47, 48, 49, 50, 51, 19, 20, 15, 16] (fun x => [(4, .int .i64 ((x.1 : Int) - 1)), (3, x.2.1)]) (fun x => [(0, x.2.2)]) (fun x => x.1 ≤ n ∧ RowN .i64 3 10 (dig (psum f n / 2 ^ (16 * x.1) % Pp)) x.2.1 x.2.2) (fun x => x.1) (n, .slice (some ⟨b0, 0, none⟩) 10 10, (some b0, .cells (arr .i64 10 fun _ => 0) 3 (0, 0))) ?_ ?_ ?_ ?_
  · rfl
  · rfl
  · exact ⟨Nat.le_refl _, by rw [psum_small f n hf, Nat.zero_mod]; exact RowN.congr (RowN.ofArr (by decide)) fun i _ => (dig_zero i).symm⟩
  · rintro ⟨j, v4, e4⟩ g ⟨hj, hr4⟩
    dsimp only [setAll, setG, setM, List.set]
    refine WC_seq ?_
    refine WC_seq ?_
    refine WC_region ?_
    refine WL_det rfl (det_move) ?_
    dsimp only [put, List.set, ev, nth, List.nil_append, List.cons_append, md, Nat.reducePow, Nat.reduceAdd, Nat.reduceMul]
    refine WL_det rfl (det_geqz rfl rfl) ?_
    dsimp only [put, List.set, ev, nth, List.nil_append, List.cons_append, md, Nat.reducePow, Nat.reduceAdd, Nat.reduceMul]
    refine WL_nil ?_
    refine WC_cond rfl (fun hc0 => ?_) (fun hc0 => ?_)
    · have hc0 := of_decide_eq_true hc0
      obtain ⟨j, rfl⟩ : ∃ j', j = j' + 1 := ⟨j - 1, by omega⟩
      rw [show ((j + 1 : Nat) : Int) - 1 = (j : Int) from by omega]
      have hfj := hf j (by omega)
      refine WC_skip ?_
      refine WC_seq ?_
      refine WC_block ?_
      refine WC_seq ?_
      refine WC_region ?_
      refine WL_det rfl (det_assign) ?_
      dsimp only [put, List.set, ev, nth, List.nil_append, List.cons_append, md, Nat.reducePow, Nat.reduceAdd, Nat.reduceMul]
      refine WL_nil ?_
      refine WC_block ?_
      refine WC_loopS (ι := Nat × Value × (Option Nat × Obj)) [17, 18, 21, 22, 23, 24, 25, 26, 27, 6, 7, 28, 29, 32, 33, 34, 35, 36, 37, 38, 8, 39, 40, 41, 42, 43, 44, 45, 30, 31, 46, 47, 48, 49, 50, 51, 19, 20] (fun x => [(5, vn .i64 (bt x.1)), (3, x.2.1)]) (fun x => [(0, x.2.2)]) (fun x => x.1 ≤ 16 ∧ RowN .i64 3 10 (dig (psum f n / 2 ^ (16 * j + x.1) % Pp)) x.2.1 x.2.2) (fun x => x.1) (16, v4, e4) ?_ ?_ ?_ ?_
      · dsimp only
        rw [show bt 16 = 32768 from rfl]
        try rfl
      · rfl
      · exact ⟨Nat.le_refl _, hr4⟩
      · rintro ⟨t, v4, e4⟩ g ⟨ht, hr4⟩
        dsimp only [setAll, setG, setM, List.set]
        refine WC_seq ?_
        refine WC_seq ?_
        refine WC_region ?_
        refine WL_det rfl (det_move) ?_
        dsimp only [put, List.set, ev, nth, List.nil_append, List.cons_append, md, Nat.reducePow, Nat.reduceAdd, Nat.reduceMul]
        refine WL_det rfl (det_gtr (q := 0) rfl rfl) ?_
        dsimp only [put, List.set, ev, nth, List.nil_append, List.cons_append, md, Nat.reducePow, Nat.reduceAdd, Nat.reduceMul]
        refine WL_nil ?_
        refine WC_cond rfl (fun hc1 => ?_) (fun hc1 => ?_)
        · have hc1 := of_decide_eq_true hc1
          obtain ⟨t, rfl⟩ := bt_pos hc1
          rw [bt_succ]
          refine WC_skip ?_
          refine WC_seq ?_
          refine WC_block ?_
          refine WC_seq ?_
          refine WC_region ?_
          have hp2 := Nat.two_pow_pos t
          have hp3 : 2 ^ t ≤ 2 ^ 15 := Nat.pow_le_pow_right (by decide) (by omega)
          have hfj2 : f j / 2 ^ t ≤ f j := Nat.div_le_self _ _
          refine WL_det rfl (det_move) ?_
          dsimp only [put, List.set, ev, nth, List.nil_append, List.cons_append, md, Nat.reducePow, Nat.reduceAdd, Nat.reduceMul]
          refine WL_det rfl (det_move) ?_
          dsimp only [put, List.set, ev, nth, List.nil_append, List.cons_append, md, Nat.reducePow, Nat.reduceAdd, Nat.reduceMul]
          refine WL_det rfl (det_idxS Try.underlying47 Try.sizeOf3 rfl rfl (rfl) (by omega) (hp1 (by omega))) ?_
          dsimp only [put, List.set, ev, nth, List.nil_append, List.cons_append, md, Nat.reducePow, Nat.reduceAdd, Nat.reduceMul]
          refine WL_det rfl (det_loadF Try.isAgg3 rfl (hx1 _ (by omega))) ?_
          dsimp only [put, List.set, ev, nth, List.nil_append, List.cons_append, md, Nat.reducePow, Nat.reduceAdd, Nat.reduceMul]
          refine WL_det rfl (det_move) ?_
          dsimp only [put, List.set, ev, nth, List.nil_append, List.cons_append, md, Nat.reducePow, Nat.reduceAdd, Nat.reduceMul]
          refine WL_det rfl (det_quoi rfl rfl (by omega) (.inr ⟨rfl, by omega⟩) (.inl rfl)) ?_
          dsimp only [put, List.set, ev, nth, List.nil_append, List.cons_append, md, Nat.reducePow, Nat.reduceAdd, Nat.reduceMul]
          refine WL_det rfl (det_remi (q := 2) rfl rfl (by omega)) ?_
          dsimp only [put, List.set, ev, nth, List.nil_append, List.cons_append, md, Nat.reducePow, Nat.reduceAdd, Nat.reduceMul]
          refine WL_det rfl (det_assign) ?_
          dsimp only [put, List.set, ev, nth, List.nil_append, List.cons_append, md, Nat.reducePow, Nat.reduceAdd, Nat.reduceMul]
          refine WL_nil ?_
          refine WC_seq ?_
          refine WC_seq ?_
          refine WC_region ?_
          refine WL_det rfl (det_assign) ?_
          dsimp only [put, List.set, ev, nth, List.nil_append, List.cons_append, md, Nat.reducePow, Nat.reduceAdd, Nat.reduceMul]
          refine WL_nil ?_
          refine WC_block ?_
          obtain ⟨b4, c4, cur4, rfl, rfl, hle4, hmx4, hsz4, hcur4⟩ := RowV.pos hr4 (by decide)
          obtain ⟨X, hX⟩ : ∃ X, X = psum f n / 2 ^ (16 * j + t + 1) % Pp := ⟨_, rfl⟩
          obtain ⟨bit, hbit⟩ : ∃ bit, bit = f j / 2 ^ t % 2 := ⟨_, rfl⟩
          rw [← hbit]
          have hcurX : ∀ i, i < 10 → cur4[i]? = some (vn .i64 (dig X i)) := fun i hi => by rw [hX]; exact hcur4 i hi
          have hXQ : X < Pp := by rw [hX]; exact Nat.mod_lt _ Pp_pos
          have hbit2 : bit < 2 := by rw [hbit]; exact Nat.mod_lt _ (by decide)
          have hlt : 2 * X + bit < 2 * Pp := by omega
          refine WC_loopS (ι := Nat × Array Value) [28, 29, 32, 33, 34, 35, 36, 37, 38, 8, 39, 40, 41, 42, 43, 44, 45, 30, 31] (fun x => [(7, vn .i64 (x.1)), (6, vn .i64 (mcc 2 X bit x.1))]) (fun x => [(0, (some b4, .cells x.2 3 (0, 0)))]) (fun x => x.1 ≤ 10 ∧ x.2.size = c4 ∧ ∀ i, i < 10 → x.2[i]? = some (vn .i64 (mcf 2 X bit x.1 i))) (fun x => 10 - x.1) (0, cur4) ?_ ?_ ?_ ?_
          · rw [mcc_zero]
            try rfl
          · rfl
          · exact ⟨Nat.zero_le _, hsz4, fun i hi => by rw [mcf_zero]; exact hcurX i hi⟩
          · rintro ⟨k, cur⟩ g ⟨hk, hsz, hcur⟩
            dsimp only [setAll, setG, setM, List.set]
            dsimp only at hk hsz hcur
            have hd := dig_lt X k
            have hcc := mcc_lt 2 X bit k hbit2
            refine WC_seq ?_
            refine WC_seq ?_
            refine WC_region ?_
            refine WL_det rfl (det_move) ?_
            dsimp only [put, List.set, ev, nth, List.nil_append, List.cons_append, md, Nat.reducePow, Nat.reduceAdd, Nat.reduceMul]
            refine WL_det rfl (det_lss (q := 10) rfl rfl) ?_
            dsimp only [put, List.set, ev, nth, List.nil_append, List.cons_append, md, Nat.reducePow, Nat.reduceAdd, Nat.reduceMul]
            refine WL_nil ?_
            refine WC_cond rfl (fun hc2 => ?_) (fun hc2 => ?_)
            · have hc2 := of_decide_eq_true hc2
              refine WC_skip ?_
              refine WC_seq ?_
              refine WC_block ?_
              refine WC_seq ?_
              refine WC_region ?_
              refine WL_det rfl (det_move) ?_
              dsimp only [put, List.set, ev, nth, List.nil_append, List.cons_append, md, Nat.reducePow, Nat.reduceAdd, Nat.reduceMul]
              refine WL_det rfl (det_move) ?_
              dsimp only [put, List.set, ev, nth, List.nil_append, List.cons_append, md, Nat.reducePow, Nat.reduceAdd, Nat.reduceMul]
              refine WL_det rfl (det_idxS0 Try.underlying47 Try.sizeOf3 rfl rfl (rfl) (by omega)) ?_
              dsimp only [put, List.set, ev, nth, List.nil_append, List.cons_append, md, Nat.reducePow, Nat.reduceAdd, Nat.reduceMul]
              refine WL_det rfl (det_load 0 Try.isAgg3 rfl rfl (hcur _ (by omega))) ?_
              dsimp only [put, List.set, ev, nth, List.nil_append, List.cons_append, md, Nat.reducePow, Nat.reduceAdd, Nat.reduceMul]
              rw [mcf_at]
              refine WL_det rfl (det_muli (p := 2) rfl rfl (by omega)) ?_
              dsimp only [put, List.set, ev, nth, List.nil_append, List.cons_append, md, Nat.reducePow, Nat.reduceAdd, Nat.reduceMul]
              refine WL_det rfl (det_move) ?_
              dsimp only [put, List.set, ev, nth, List.nil_append, List.cons_append, md, Nat.reducePow, Nat.reduceAdd, Nat.reduceMul]
              refine WL_det rfl (det_addi rfl rfl (by omega)) ?_
              dsimp only [put, List.set, ev, nth, List.nil_append, List.cons_append, md, Nat.reducePow, Nat.reduceAdd, Nat.reduceMul]
              refine WL_det rfl (det_assign) ?_
              dsimp only [put, List.set, ev, nth, List.nil_append, List.cons_append, md, Nat.reducePow, Nat.reduceAdd, Nat.reduceMul]
              refine WL_nil ?_
              refine WC_seq ?_
              refine WC_region ?_
              refine WL_det rfl (det_move) ?_
              dsimp only [put, List.set, ev, nth, List.nil_append, List.cons_append, md, Nat.reducePow, Nat.reduceAdd, Nat.reduceMul]
              refine WL_det rfl (det_move) ?_
              dsimp only [put, List.set, ev, nth, List.nil_append, List.cons_append, md, Nat.reducePow, Nat.reduceAdd, Nat.reduceMul]
              refine WL_det rfl (det_move) ?_
              dsimp only [put, List.set, ev, nth, List.nil_append, List.cons_append, md, Nat.reducePow, Nat.reduceAdd, Nat.reduceMul]
              refine WL_det rfl (det_remi (q := 65536) rfl rfl (by omega)) ?_
              dsimp only [put, List.set, ev, nth, List.nil_append, List.cons_append, md, Nat.reducePow, Nat.reduceAdd, Nat.reduceMul]
              refine WL_det rfl (det_idxS0 Try.underlying47 Try.sizeOf3 rfl rfl (rfl) (by omega)) ?_
              dsimp only [put, List.set, ev, nth, List.nil_append, List.cons_append, md, Nat.reducePow, Nat.reduceAdd, Nat.reduceMul]
              refine WL_chg rfl (chg_store 0 Try.sizeOf3 rfl rfl (by omega) rfl rfl) ?_
              rintro _ _ rfl
              dsimp only [put, List.set, ev, nth, List.nil_append, List.cons_append, md, Nat.reducePow, Nat.reduceAdd, Nat.reduceMul]
              refine WL_nil ?_
              refine WC_region ?_
              refine WL_det rfl (det_move) ?_
              dsimp only [put, List.set, ev, nth, List.nil_append, List.cons_append, md, Nat.reducePow, Nat.reduceAdd, Nat.reduceMul]
              refine WL_det rfl (det_quoi (q := 65536) rfl rfl (by omega) (.inr ⟨rfl, by omega⟩) (.inl rfl)) ?_
              dsimp only [put, List.set, ev, nth, List.nil_append, List.cons_append, md, Nat.reducePow, Nat.reduceAdd, Nat.reduceMul]
              refine WL_det rfl (det_assign) ?_
              dsimp only [put, List.set, ev, nth, List.nil_append, List.cons_append, md, Nat.reducePow, Nat.reduceAdd, Nat.reduceMul]
              refine WL_nil ?_
              refine WC_region ?_
              refine WL_det rfl (det_move) ?_
              dsimp only [put, List.set, ev, nth, List.nil_append, List.cons_append, md, Nat.reducePow, Nat.reduceAdd, Nat.reduceMul]
              refine WL_det rfl (det_addi (q := 1) rfl rfl (by omega)) ?_
              dsimp only [put, List.set, ev, nth, List.nil_append, List.cons_append, md, Nat.reducePow, Nat.reduceAdd, Nat.reduceMul]
              refine WL_det rfl (det_assign) ?_
              dsimp only [put, List.set, ev, nth, List.nil_append, List.cons_append, md, Nat.reducePow, Nat.reduceAdd, Nat.reduceMul]
              refine WL_nil ?_
              refine ⟨(k + 1, cur.setIfInBounds k (vn .i64 ((2 * dig X k + mcc 2 X bit k) % 65536))), ?_, ?_, ?_, ?_⟩
              · rw [mc_carry]
                try rfl
              · rfl
              · exact ⟨by omega, by simp only [Array.size_setIfInBounds]; exact hsz, by have h := cur_set (p := (2 * dig X k + mcc 2 X bit k) % 65536) hle4 hsz (show k < 10 by omega) hcur; rw [mc_dig, mcf_succ] at h; rw [mc_dig]; exact h⟩
              · omega
            · have hc2 := of_decide_eq_false hc2
              obtain rfl : k = 10 := by omega
              have hrow : RowN .i64 3 10 (dig (2 * X + bit)) (.slice (some ⟨b4, 0, none⟩) 10 c4) (some b4, .cells cur 3 (0, 0)) := RowN.mk hle4 hmx4 hsz fun i hi => by rw [hcur i hi]; unfold mcf; rw [if_pos hi]
              refine WC_exit ?_
              refine inB_same ?_
              refine WC_seq ?_
              refine WC_region ?_
              refine WL_det rfl (det_move) ?_
              dsimp only [put, List.set, ev, nth, List.nil_append, List.cons_append, md, Nat.reducePow, Nat.reduceAdd, Nat.reduceMul]
              refine WL_rel rfl (Rel_call rfl Try.call80 (fun w hw => p_spec w)) ?_
              rintro _ _ ⟨bP, rfl, rfl⟩
              dsimp only [put, List.append_nil, List.set, ev, nth, List.nil_append, List.cons_append, md, Nat.reducePow, Nat.reduceAdd, Nat.reduceMul]
              refine WL_rel rfl (Rel_call rfl Try.call28 (fun w hw => atleast_spec (2 * X + bit) Pp 10 (by omega) P10 (by decide) _ _ w (Rd.row hw 0 rfl hrow) (Rd.arr hw 1 rfl (Nat.le_refl _)))) ?_
              rintro _ _ ⟨rfl, rfl⟩
              dsimp only [put, List.append_nil, List.set, ev, nth, List.nil_append, List.cons_append, md, Nat.reducePow, Nat.reduceAdd, Nat.reduceMul]
              refine WL.forget (.cons_cons _ (.cons _ .slnil)) ?_
              refine WL_nil ?_
              refine WC_cond rfl (fun hc3 => ?_) (fun hc3 => ?_)
              · have hc3 := of_decide_eq_true hc3
                refine WC_region ?_
                refine WL_det rfl (det_move) ?_
                dsimp only [put, List.set, ev, nth, List.nil_append, List.cons_append, md, Nat.reducePow, Nat.reduceAdd, Nat.reduceMul]
                refine WL_rel rfl (Rel_call rfl Try.call80 (fun w hw => p_spec w)) ?_
                rintro _ _ ⟨bP, rfl, rfl⟩
                dsimp only [put, List.append_nil, List.set, ev, nth, List.nil_append, List.cons_append, md, Nat.reducePow, Nat.reduceAdd, Nat.reduceMul]
                refine WL_rel rfl (Rel_call rfl Try.call81 (fun w hw => rless_spec (2 * X + bit) Pp 10 hc3 (by decide) _ _ w (Rd.row hw 0 rfl hrow) (Rd.arr hw 1 rfl (Nat.le_refl _)))) ?_
                rintro v56 _ ⟨e56, hr56, rfl⟩
                have hr56 : RowN .i64 3 10 (dig ((2 * X + bit) % Pp)) v56 e56 := by rw [once_modQ hc3 hlt]; exact hr56
                dsimp only [put, List.append_nil, List.set, ev, nth, List.nil_append, List.cons_append, md, Nat.reducePow, Nat.reduceAdd, Nat.reduceMul]
                refine WL.forget (.cons _ (.cons _ (.cons_cons _ .slnil))) ?_
                refine WL_det rfl (det_assign) ?_
                dsimp only [put, List.set, ev, nth, List.nil_append, List.cons_append, md, Nat.reducePow, Nat.reduceAdd, Nat.reduceMul]
                refine WL_nil ?_
                refine WC_region ?_
                refine WL_det rfl (det_move) ?_
                dsimp only [put, List.set, ev, nth, List.nil_append, List.cons_append, md, Nat.reducePow, Nat.reduceAdd, Nat.reduceMul]
                refine WL_det rfl (det_quoi (q := 2) rfl rfl (by omega) (.inr ⟨rfl, by omega⟩) (.inl rfl)) ?_
                dsimp only [put, List.set, ev, nth, List.nil_append, List.cons_append, md, Nat.reducePow, Nat.reduceAdd, Nat.reduceMul]
                refine WL_det rfl (det_assign) ?_
                dsimp only [put, List.set, ev, nth, List.nil_append, List.cons_append, md, Nat.reducePow, Nat.reduceAdd, Nat.reduceMul]
                refine WL_nil ?_
                refine ⟨(t, v56, e56), ?_, ?_, ?_, ?_⟩
                · rfl
                · rfl
                · exact ⟨by omega, by rw [hX, hbit, tk_step _ _ _ _ (bit_psum f n j t hf (by omega) (by omega))] at hr56; exact hr56⟩
                · omega
              · have hc3 := of_decide_eq_false hc3
                obtain ⟨v56, hv56⟩ : ∃ v, v = Value.slice (some ⟨b4, 0, none⟩) 10 c4 := ⟨_, rfl⟩
                obtain ⟨e56, he56⟩ : ∃ e : Option Nat × Obj, e = (some b4, Obj.cells cur 3 (0, 0)) := ⟨_, rfl⟩
                have hr56 : RowN .i64 3 10 (dig ((2 * X + bit) % Pp)) v56 e56 := by subst hv56 he56; rw [Nat.mod_eq_of_lt (by omega)]; exact hrow
                rw [← hv56, ← he56]
                refine WC_skip ?_
                refine WC_region ?_
                refine WL_det rfl (det_move) ?_
                dsimp only [put, List.set, ev, nth, List.nil_append, List.cons_append, md, Nat.reducePow, Nat.reduceAdd, Nat.reduceMul]
                refine WL_det rfl (det_quoi (q := 2) rfl rfl (by omega) (.inr ⟨rfl, by omega⟩) (.inl rfl)) ?_
                dsimp only [put, List.set, ev, nth, List.nil_append, List.cons_append, md, Nat.reducePow, Nat.reduceAdd, Nat.reduceMul]
                refine WL_det rfl (det_assign) ?_
                dsimp only [put, List.set, ev, nth, List.nil_append, List.cons_append, md, Nat.reducePow, Nat.reduceAdd, Nat.reduceMul]
                refine WL_nil ?_
                refine ⟨(t, v56, e56), ?_, ?_, ?_, ?_⟩
                · rfl
                · rfl
                · exact ⟨by omega, by rw [hX, hbit, tk_step _ _ _ _ (bit_psum f n j t hf (by omega) (by omega))] at hr56; exact hr56⟩
                · omega
        · have hc1 := of_decide_eq_false hc1
          obtain rfl := bt_none hc1
          refine WC_exit ?_
          refine inB_same ?_
          refine WC_region ?_
          refine WL_det rfl (det_move) ?_
          dsimp only [put, List.set, ev, nth, List.nil_append, List.cons_append, md, Nat.reducePow, Nat.reduceAdd, Nat.reduceMul]
          refine WL_det rfl (det_subz rfl rfl rfl (by omega) (by omega)) ?_
          dsimp only [put, List.set, ev, nth, List.nil_append, List.cons_append, md, Nat.reducePow, Nat.reduceAdd, Nat.reduceMul]
          refine WL_det rfl (det_assign) ?_
          dsimp only [put, List.set, ev, nth, List.nil_append, List.cons_append, md, Nat.reducePow, Nat.reduceAdd, Nat.reduceMul]
          refine WL_nil ?_
          refine ⟨(j, v4, e4), ?_, ?_, ?_, ?_⟩
          · rfl
          · rfl
          · exact ⟨by omega, hr4⟩
          · omega
    · have hc0 := of_decide_eq_false hc0
      obtain rfl : j = 0 := by omega
      rw [Nat.mul_zero, Nat.pow_zero, Nat.div_one] at hr4
      refine WC_exit ?_
      refine inB_same ?_
      refine WC_seq ?_
      refine WC_region ?_
      refine WL_det rfl (det_move) ?_
      dsimp only [put, List.set, ev, nth, List.nil_append, List.cons_append, md, Nat.reducePow, Nat.reduceAdd, Nat.reduceMul]
      refine WL_det rfl (det_assign) ?_
      dsimp only [put, List.set, ev, nth, List.nil_append, List.cons_append, md, Nat.reducePow, Nat.reduceAdd, Nat.reduceMul]
      refine WL_nil ?_
      refine WC_ret ?_
      refine fin_tmp Try.results47 rfl ([e4]) (List.Sublist.refl _) ?_
      exact ⟨_, hr4, rfl⟩

set_option maxRecDepth 100000 in
set_option maxHeartbeats 400000 in
theorem pdigits_spec (n : Nat) (f : Nat → Nat) (hf : ∀ i, i < n → f i < 256) (hn : n ≤ 1000) (va : Value) (w : World) (ha : Rd w .u8 n f va) :
    Calls Try.prog 48 [va].toArray w (Post w (fun v m => ∃ e, RowN .i64 3 ((n + 1) / 2) (dig (lev f n)) v e ∧ m = [e])) := by
  obtain ⟨p1, c1, b1, o1, rfl, hp1, hx1⟩ := ha
  refine calls_of_WC Try.func48 rfl ?_
  simp only [Try.ntmps48, List.length_cons, List.length_nil, Nat.reduceAdd, Nat.reduceSub, List.replicate, List.cons_append, List.nil_append]
  refine WC_seq ?_
  refine WC_region ?_
  refine WL_det rfl (det_assign) ?_
  dsimp only [put, List.set, ev, nth, List.nil_append, List.cons_append, md, Nat.reducePow, Nat.reduceAdd, Nat.reduceMul]
  refine WL_nil ?_
  refine WC_seq ?_
  refine WC_region ?_
  refine WL_det rfl (det_assign) ?_
  dsimp only [put, List.set, ev, nth, List.nil_append, List.cons_append, md, Nat.reducePow, Nat.reduceAdd, Nat.reduceMul]
  refine WL_nil ?_
  refine WC_seq ?_
  refine WC_seq ?_
  refine WC_region ?_
  refine WL_det rfl (det_assign) ?_
  dsimp only [put, List.set, ev, nth, List.nil_append, List.cons_append, md, Nat.reducePow, Nat.reduceAdd, Nat.reduceMul]
  refine WL_nil ?_
  refine WC_block ?_
  refine WC.addNone (.cells #[] 3 (0, 0)) ?_
  dsimp only [List.cons_append, List.nil_append]
  refine WC_loopS (ι := Nat × Value × (Option Nat × Obj)) [6, 7, 8, 9, 12, 13, 14, 15, 16, 5, 17, 18, 19, 20, 21, 22, 23, 24, 25, 26, 27, 28, 29, 30, 31, 32, 33, 34, 10, 11] (fun x => [(4, vn .i64 (2 * x.1)), (3, x.2.1)]) (fun x => [(0, x.2.2)]) (fun x => 2 * x.1 ≤ n + 1 ∧ RowN .i64 3 x.1 (dig (lev f n)) x.2.1 x.2.2) (fun x => n + 1 - 2 * x.1) (0, .slice none 0 0, (none, .cells #[] 3 (0, 0))) ?_ ?_ ?_ ?_
  · rfl
  · rfl
  · exact ⟨Nat.zero_le _, RowV.nil _ _ _⟩
  · rintro ⟨k, v3, e3⟩ g ⟨hk, hr3⟩
    dsimp only [setAll, setG, setM, List.set]
    dsimp only at hk hr3
    refine WC_seq ?_
    refine WC_seq ?_
    refine WC_region ?_
    refine WL_det rfl (det_move) ?_
    dsimp only [put, List.set, ev, nth, List.nil_append, List.cons_append, md, Nat.reducePow, Nat.reduceAdd, Nat.reduceMul]
    refine WL_det rfl (det_move) ?_
    dsimp only [put, List.set, ev, nth, List.nil_append, List.cons_append, md, Nat.reducePow, Nat.reduceAdd, Nat.reduceMul]
    refine WL_det rfl (det_len Try.underlying35 rfl) ?_
    dsimp only [put, List.set, ev, nth, List.nil_append, List.cons_append, md, Nat.reducePow, Nat.reduceAdd, Nat.reduceMul]
    refine WL_det rfl (det_lss rfl rfl) ?_
    dsimp only [put, List.set, ev, nth, List.nil_append, List.cons_append, md, Nat.reducePow, Nat.reduceAdd, Nat.reduceMul]
    refine WL_nil ?_
    refine WC_cond rfl (fun hc0 => ?_) (fun hc0 => ?_)
    · have hc0 := of_decide_eq_true hc0
      have h1 := hf (2 * k) (by omega)
      refine WC_skip ?_
      refine WC_seq ?_
      refine WC_block ?_
      refine WC_seq ?_
      refine WC_region ?_
      refine WL_det rfl (det_move) ?_
      dsimp only [put, List.set, ev, nth, List.nil_append, List.cons_append, md, Nat.reducePow, Nat.reduceAdd, Nat.reduceMul]
      refine WL_det rfl (det_move) ?_
      dsimp only [put, List.set, ev, nth, List.nil_append, List.cons_append, md, Nat.reducePow, Nat.reduceAdd, Nat.reduceMul]
      refine WL_det rfl (det_idxS Try.underlying35 Try.sizeOf5 rfl rfl (rfl) (by omega) (hp1 (by omega))) ?_
      dsimp only [put, List.set, ev, nth, List.nil_append, List.cons_append, md, Nat.reducePow, Nat.reduceAdd, Nat.reduceMul]
      refine WL_det rfl (det_loadF Try.isAgg5 rfl (hx1 _ (by omega))) ?_
      dsimp only [put, List.set, ev, nth, List.nil_append, List.cons_append, md, Nat.reducePow, Nat.reduceAdd, Nat.reduceMul]
      refine WL_det rfl (det_convi Try.underlying3 Try.underlying5 rfl (by omega)) ?_
      dsimp only [put, List.set, ev, nth, List.nil_append, List.cons_append, md, Nat.reducePow, Nat.reduceAdd, Nat.reduceMul]
      refine WL_det rfl (det_assign) ?_
      dsimp only [put, List.set, ev, nth, List.nil_append, List.cons_append, md, Nat.reducePow, Nat.reduceAdd, Nat.reduceMul]
      refine WL_nil ?_
      refine WC_seq ?_
      refine WC_seq ?_
      refine WC_region ?_
      refine WL_det rfl (det_move) ?_
      dsimp only [put, List.set, ev, nth, List.nil_append, List.cons_append, md, Nat.reducePow, Nat.reduceAdd, Nat.reduceMul]
      refine WL_det rfl (det_addi (q := 1) rfl rfl (by omega)) ?_
      dsimp only [put, List.set, ev, nth, List.nil_append, List.cons_append, md, Nat.reducePow, Nat.reduceAdd, Nat.reduceMul]
      refine WL_det rfl (det_move) ?_
      dsimp only [put, List.set, ev, nth, List.nil_append, List.cons_append, md, Nat.reducePow, Nat.reduceAdd, Nat.reduceMul]
      refine WL_det rfl (det_len Try.underlying35 rfl) ?_
      dsimp only [put, List.set, ev, nth, List.nil_append, List.cons_append, md, Nat.reducePow, Nat.reduceAdd, Nat.reduceMul]
      refine WL_det rfl (det_lss rfl rfl) ?_
      dsimp only [put, List.set, ev, nth, List.nil_append, List.cons_append, md, Nat.reducePow, Nat.reduceAdd, Nat.reduceMul]
      refine WL_nil ?_
      refine WC_cond rfl (fun hc1 => ?_) (fun hc1 => ?_)
      · have hc1 := of_decide_eq_true hc1
        have h2 := hf (2 * k + 1) (by omega)
        refine WC_region ?_
        refine WL_det rfl (det_move) ?_
        dsimp only [put, List.set, ev, nth, List.nil_append, List.cons_append, md, Nat.reducePow, Nat.reduceAdd, Nat.reduceMul]
        refine WL_det rfl (det_move) ?_
        dsimp only [put, List.set, ev, nth, List.nil_append, List.cons_append, md, Nat.reducePow, Nat.reduceAdd, Nat.reduceMul]
        refine WL_det rfl (det_move) ?_
        dsimp only [put, List.set, ev, nth, List.nil_append, List.cons_append, md, Nat.reducePow, Nat.reduceAdd, Nat.reduceMul]
        refine WL_det rfl (det_addi (q := 1) rfl rfl (by omega)) ?_
        dsimp only [put, List.set, ev, nth, List.nil_append, List.cons_append, md, Nat.reducePow, Nat.reduceAdd, Nat.reduceMul]
        refine WL_det rfl (det_idxS Try.underlying35 Try.sizeOf5 rfl rfl (rfl) (by omega) (hp1 (by omega))) ?_
        dsimp only [put, List.set, ev, nth, List.nil_append, List.cons_append, md, Nat.reducePow, Nat.reduceAdd, Nat.reduceMul]
        refine WL_det rfl (det_loadF Try.isAgg5 rfl (hx1 _ (by omega))) ?_
        dsimp only [put, List.set, ev, nth, List.nil_append, List.cons_append, md, Nat.reducePow, Nat.reduceAdd, Nat.reduceMul]
        refine WL_det rfl (det_convi Try.underlying3 Try.underlying5 rfl (by omega)) ?_
        dsimp only [put, List.set, ev, nth, List.nil_append, List.cons_append, md, Nat.reducePow, Nat.reduceAdd, Nat.reduceMul]
        refine WL_det rfl (det_muli (p := 256) rfl rfl (by omega)) ?_
        dsimp only [put, List.set, ev, nth, List.nil_append, List.cons_append, md, Nat.reducePow, Nat.reduceAdd, Nat.reduceMul]
        refine WL_det rfl (det_addi rfl rfl (by omega)) ?_
        dsimp only [put, List.set, ev, nth, List.nil_append, List.cons_append, md, Nat.reducePow, Nat.reduceAdd, Nat.reduceMul]
        refine WL_det rfl (det_assign) ?_
        dsimp only [put, List.set, ev, nth, List.nil_append, List.cons_append, md, Nat.reducePow, Nat.reduceAdd, Nat.reduceMul]
        refine WL_nil ?_
        refine WC_region ?_
        refine WL_det rfl (det_move) ?_
        dsimp only [put, List.set, ev, nth, List.nil_append, List.cons_append, md, Nat.reducePow, Nat.reduceAdd, Nat.reduceMul]
        refine WL_det rfl (det_move) ?_
        dsimp only [put, List.set, ev, nth, List.nil_append, List.cons_append, md, Nat.reducePow, Nat.reduceAdd, Nat.reduceMul]
        refine WL_rel rfl (rel_lit1 Try.underlying47 Try.zeroValue3 Try.sizeOf3 rfl rfl) ?_
        rintro _ _ ⟨bl, rfl, rfl⟩
        dsimp only [put, List.set, ev, nth, List.nil_append, List.cons_append, md, Nat.reducePow, Nat.reduceAdd, Nat.reduceMul]
        refine WL_chg rfl (chg_append1 0 1 rfl (hr3) rfl rfl rfl rfl Try.underlying47 ei3 rfl (by omega) (by decide)) ?_
        rintro v34 _ ⟨e34, hr34, rfl⟩
        dsimp only [put, List.eraseIdx, List.set, ev, nth, List.nil_append, List.cons_append, md, Nat.reducePow, Nat.reduceAdd, Nat.reduceMul]
        have hr34 : RowN .i64 3 (k + 1) (dig (lev f n)) v34 e34 := RowN.snoc hr34 (by rw [dig_lev f n hf k hc0]; split <;> omega)
        refine WL_det rfl (det_assign) ?_
        dsimp only [put, List.set, ev, nth, List.nil_append, List.cons_append, md, Nat.reducePow, Nat.reduceAdd, Nat.reduceMul]
        refine WL_nil ?_
        refine WC_region ?_
        refine WL_det rfl (det_move) ?_
        dsimp only [put, List.set, ev, nth, List.nil_append, List.cons_append, md, Nat.reducePow, Nat.reduceAdd, Nat.reduceMul]
        refine WL_det rfl (det_addi (q := 2) rfl rfl (by omega)) ?_
        dsimp only [put, List.set, ev, nth, List.nil_append, List.cons_append, md, Nat.reducePow, Nat.reduceAdd, Nat.reduceMul]
        refine WL_det rfl (det_assign) ?_
        dsimp only [put, List.set, ev, nth, List.nil_append, List.cons_append, md, Nat.reducePow, Nat.reduceAdd, Nat.reduceMul]
        refine WL_nil ?_
        refine ⟨(k + 1, v34, e34), ?_, ?_, ?_, ?_⟩
        · rfl
        · rfl
        · exact ⟨by dsimp only; omega, hr34⟩
        · dsimp only; omega
      · have hc1 := of_decide_eq_false hc1
        refine WC_skip ?_
        refine WC_region ?_
        refine WL_det rfl (det_move) ?_
        dsimp only [put, List.set, ev, nth, List.nil_append, List.cons_append, md, Nat.reducePow, Nat.reduceAdd, Nat.reduceMul]
        refine WL_det rfl (det_move) ?_
        dsimp only [put, List.set, ev, nth, List.nil_append, List.cons_append, md, Nat.reducePow, Nat.reduceAdd, Nat.reduceMul]
        refine WL_rel rfl (rel_lit1 Try.underlying47 Try.zeroValue3 Try.sizeOf3 rfl rfl) ?_
        rintro _ _ ⟨bl, rfl, rfl⟩
        dsimp only [put, List.set, ev, nth, List.nil_append, List.cons_append, md, Nat.reducePow, Nat.reduceAdd, Nat.reduceMul]
        refine WL_chg rfl (chg_append1 0 1 rfl (hr3) rfl rfl rfl rfl Try.underlying47 ei3 rfl (by omega) (by decide)) ?_
        rintro v34 _ ⟨e34, hr34, rfl⟩
        dsimp only [put, List.eraseIdx, List.set, ev, nth, List.nil_append, List.cons_append, md, Nat.reducePow, Nat.reduceAdd, Nat.reduceMul]
        have hr34 : RowN .i64 3 (k + 1) (dig (lev f n)) v34 e34 := RowN.snoc hr34 (by rw [dig_lev f n hf k hc0]; split <;> omega)
        refine WL_det rfl (det_assign) ?_
        dsimp only [put, List.set, ev, nth, List.nil_append, List.cons_append, md, Nat.reducePow, Nat.reduceAdd, Nat.reduceMul]
        refine WL_nil ?_
        refine WC_region ?_
        refine WL_det rfl (det_move) ?_
        dsimp only [put, List.set, ev, nth, List.nil_append, List.cons_append, md, Nat.reducePow, Nat.reduceAdd, Nat.reduceMul]
        refine WL_det rfl (det_addi (q := 2) rfl rfl (by omega)) ?_
        dsimp only [put, List.set, ev, nth, List.nil_append, List.cons_append, md, Nat.reducePow, Nat.reduceAdd, Nat.reduceMul]
        refine WL_det rfl (det_assign) ?_
        dsimp only [put, List.set, ev, nth, List.nil_append, List.cons_append, md, Nat.reducePow, Nat.reduceAdd, Nat.reduceMul]
        refine WL_nil ?_
        refine ⟨(k + 1, v34, e34), ?_, ?_, ?_, ?_⟩
        · rfl
        · rfl
        · exact ⟨by dsimp only; omega, hr34⟩
        · dsimp only; omega
    · have hc0 := of_decide_eq_false hc0
      obtain rfl : (n + 1) / 2 = k := by omega
      refine WC_exit ?_
      refine inB_same ?_
      refine WC_seq ?_
      refine WC_region ?_
      refine WL_det rfl (det_move) ?_
      dsimp only [put, List.set, ev, nth, List.nil_append, List.cons_append, md, Nat.reducePow, Nat.reduceAdd, Nat.reduceMul]
      refine WL_det rfl (det_assign) ?_
      dsimp only [put, List.set, ev, nth, List.nil_append, List.cons_append, md, Nat.reducePow, Nat.reduceAdd, Nat.reduceMul]
      refine WL_nil ?_
      refine WC_ret ?_
      refine fin_tmp Try.results48 rfl ([e3]) (List.Sublist.refl _) ?_
      exact ⟨_, hr3, rfl⟩

set_option maxRecDepth 100000 in
set_option maxHeartbeats 400000 in
theorem pbytes_spec (N : Nat) (va : Value) (w : World) (ha : Rd w .i64 10 (dig N) va) :
    Calls Try.prog 50 [va].toArray w (PostV w (.agg (arr .u8 17 (byt N)))) := by
  obtain ⟨p1, c1, b1, o1, rfl, hp1, hx1⟩ := ha
  refine calls_of_WC Try.func50 rfl ?_
  simp only [Try.ntmps50, List.length_cons, List.length_nil, Nat.reduceAdd, Nat.reduceSub, List.replicate, List.cons_append, List.nil_append]
  refine WC_seq ?_
  refine WC_region ?_
  refine WL_rel rfl (rel_alloc z75 rfl) ?_
  rintro _ _ ⟨b0, rfl, rfl⟩
  dsimp only [put, List.set, ev, nth, List.nil_append, List.cons_append, md, Nat.reducePow, Nat.reduceAdd, Nat.reduceMul]
  refine WL_nil ?_
  refine WC_seq ?_
  refine WC_region ?_
  refine WL_rel rfl (rel_alloc z75 rfl) ?_
  rintro _ _ ⟨b1, rfl, rfl⟩
  dsimp only [put, List.set, ev, nth, List.nil_append, List.cons_append, md, Nat.reducePow, Nat.reduceAdd, Nat.reduceMul]
  refine WL_nil ?_
  refine WC_seq ?_
  refine WC_seq ?_
  refine WC_region ?_
  refine WL_det rfl (det_assign) ?_
  dsimp only [put, List.set, ev, nth, List.nil_append, List.cons_append, md, Nat.reducePow, Nat.reduceAdd, Nat.reduceMul]
  refine WL_nil ?_
  refine WC_block ?_
  refine WC_loopS (ι := Nat) [6, 7, 10, 11, 12, 13, 14, 5, 15, 16, 17, 18, 19, 20, 21, 22, 23, 24, 8, 9] (fun k => [(4, vn .i64 (k))]) (fun k => [(1, (some b1, .cells (arr .u8 17 (fun i => if i < k then byt N i else 0)) 75 (0, 0)))]) (fun k => k ≤ 17) (fun k => 17 - k) 0 ?_ ?_ ?_ ?_
  · rfl
  · simp only [Nat.not_lt_zero, if_false]
    try rfl
  · exact (by omega)
  · intro k g hI
    dsimp only [setAll, setG, setM, List.set]
    have hd := dig_lt N (k / 2)
    refine WC_seq ?_
    refine WC_seq ?_
    refine WC_region ?_
    refine WL_det rfl (det_move) ?_
    dsimp only [put, List.set, ev, nth, List.nil_append, List.cons_append, md, Nat.reducePow, Nat.reduceAdd, Nat.reduceMul]
    refine WL_det rfl (det_lss (q := 17) rfl rfl) ?_
    dsimp only [put, List.set, ev, nth, List.nil_append, List.cons_append, md, Nat.reducePow, Nat.reduceAdd, Nat.reduceMul]
    refine WL_nil ?_
    refine WC_cond rfl (fun hc0 => ?_) (fun hc0 => ?_)
    · have hc0 := of_decide_eq_true hc0
      refine WC_skip ?_
      refine WC_seq ?_
      refine WC_block ?_
      refine WC_seq ?_
      refine WC_region ?_
      refine WL_det rfl (det_move) ?_
      dsimp only [put, List.set, ev, nth, List.nil_append, List.cons_append, md, Nat.reducePow, Nat.reduceAdd, Nat.reduceMul]
      refine WL_det rfl (det_move) ?_
      dsimp only [put, List.set, ev, nth, List.nil_append, List.cons_append, md, Nat.reducePow, Nat.reduceAdd, Nat.reduceMul]
      refine WL_det rfl (det_quoi (q := 2) rfl rfl (by omega) (.inr ⟨rfl, by omega⟩) (.inl rfl)) ?_
      dsimp only [put, List.set, ev, nth, List.nil_append, List.cons_append, md, Nat.reducePow, Nat.reduceAdd, Nat.reduceMul]
      refine WL_det rfl (det_idxS Try.underlying47 Try.sizeOf3 rfl rfl (rfl) (by omega) (hp1 (by omega))) ?_
      dsimp only [put, List.set, ev, nth, List.nil_append, List.cons_append, md, Nat.reducePow, Nat.reduceAdd, Nat.reduceMul]
      refine WL_det rfl (det_loadF Try.isAgg3 rfl (hx1 _ (by omega))) ?_
      dsimp only [put, List.set, ev, nth, List.nil_append, List.cons_append, md, Nat.reducePow, Nat.reduceAdd, Nat.reduceMul]
      refine WL_det rfl (det_assign) ?_
      dsimp only [put, List.set, ev, nth, List.nil_append, List.cons_append, md, Nat.reducePow, Nat.reduceAdd, Nat.reduceMul]
      refine WL_nil ?_
      refine WC_seq ?_
      refine WC_seq ?_
      refine WC_region ?_
      refine WL_det rfl (det_move) ?_
      dsimp only [put, List.set, ev, nth, List.nil_append, List.cons_append, md, Nat.reducePow, Nat.reduceAdd, Nat.reduceMul]
      refine WL_det rfl (det_remi (q := 2) rfl rfl (by omega)) ?_
      dsimp only [put, List.set, ev, nth, List.nil_append, List.cons_append, md, Nat.reducePow, Nat.reduceAdd, Nat.reduceMul]
      refine WL_det rfl (det_eql (q := 1) rfl rfl) ?_
      dsimp only [put, List.set, ev, nth, List.nil_append, List.cons_append, md, Nat.reducePow, Nat.reduceAdd, Nat.reduceMul]
      refine WL_nil ?_
      refine WC_cond rfl (fun hc1 => ?_) (fun hc1 => ?_)
      · have hc1 := of_decide_eq_true hc1
        refine WC_region ?_
        refine WL_det rfl (det_move) ?_
        dsimp only [put, List.set, ev, nth, List.nil_append, List.cons_append, md, Nat.reducePow, Nat.reduceAdd, Nat.reduceMul]
        refine WL_det rfl (det_quoi (q := 256) rfl rfl (by omega) (.inr ⟨rfl, by omega⟩) (.inl rfl)) ?_
        dsimp only [put, List.set, ev, nth, List.nil_append, List.cons_append, md, Nat.reducePow, Nat.reduceAdd, Nat.reduceMul]
        refine WL_det rfl (det_assign) ?_
        dsimp only [put, List.set, ev, nth, List.nil_append, List.cons_append, md, Nat.reducePow, Nat.reduceAdd, Nat.reduceMul]
        refine WL_nil ?_
        refine WC_region ?_
        refine WL_det rfl (det_move) ?_
        dsimp only [put, List.set, ev, nth, List.nil_append, List.cons_append, md, Nat.reducePow, Nat.reduceAdd, Nat.reduceMul]
        refine WL_det rfl (det_move) ?_
        dsimp only [put, List.set, ev, nth, List.nil_append, List.cons_append, md, Nat.reducePow, Nat.reduceAdd, Nat.reduceMul]
        refine WL_det rfl (det_remi (q := 256) rfl rfl (by omega)) ?_
        dsimp only [put, List.set, ev, nth, List.nil_append, List.cons_append, md, Nat.reducePow, Nat.reduceAdd, Nat.reduceMul]
        refine WL_det rfl (det_conv' Try.underlying5 Try.underlying3 rfl rfl (by simp only [md]; first | omega | exact Nat.or_lt_two_pow (n := 32) (by omega) (by omega) | exact Nat.lt_of_le_of_lt Nat.and_le_left (by omega) | exact Nat.lt_of_le_of_lt Nat.and_le_right (by omega) | exact Nat.xor_lt_two_pow (n := 32) (by omega) (by omega))) ?_
        dsimp only [put, List.set, ev, nth, List.nil_append, List.cons_append, md, Nat.reducePow, Nat.reduceAdd, Nat.reduceMul]
        refine WL_det rfl (det_idxA Try.underlying75 Try.sizeOf5 rfl rfl (rfl) (by omega)) ?_
        dsimp only [put, List.set, ev, nth, List.nil_append, List.cons_append, md, Nat.reducePow, Nat.reduceAdd, Nat.reduceMul]
        refine WL_chg rfl (chg_storeA 1 Try.sizeOf5 rfl rfl (by omega) rfl) ?_
        rintro _ _ rfl
        dsimp only [put, List.set, ev, nth, List.nil_append, List.cons_append, md, Nat.reducePow, Nat.reduceAdd, Nat.reduceMul]
        refine WL_nil ?_
        refine WC_region ?_
        refine WL_det rfl (det_move) ?_
        dsimp only [put, List.set, ev, nth, List.nil_append, List.cons_append, md, Nat.reducePow, Nat.reduceAdd, Nat.reduceMul]
        refine WL_det rfl (det_addi (q := 1) rfl rfl (by omega)) ?_
        dsimp only [put, List.set, ev, nth, List.nil_append, List.cons_append, md, Nat.reducePow, Nat.reduceAdd, Nat.reduceMul]
        refine WL_det rfl (det_assign) ?_
        dsimp only [put, List.set, ev, nth, List.nil_append, List.cons_append, md, Nat.reducePow, Nat.reduceAdd, Nat.reduceMul]
        refine WL_nil ?_
        refine ⟨k + 1, ?_, ?_, ?_, ?_⟩
        · rfl
        · first | rw [byt_odd N k hc1, upd_fill] | rw [byt_even N k (by omega), upd_fill]
          try rfl
        · omega
        · omega
      · have hc1 := of_decide_eq_false hc1
        refine WC_skip ?_
        refine WC_region ?_
        refine WL_det rfl (det_move) ?_
        dsimp only [put, List.set, ev, nth, List.nil_append, List.cons_append, md, Nat.reducePow, Nat.reduceAdd, Nat.reduceMul]
        refine WL_det rfl (det_move) ?_
        dsimp only [put, List.set, ev, nth, List.nil_append, List.cons_append, md, Nat.reducePow, Nat.reduceAdd, Nat.reduceMul]
        refine WL_det rfl (det_remi (q := 256) rfl rfl (by omega)) ?_
        dsimp only [put, List.set, ev, nth, List.nil_append, List.cons_append, md, Nat.reducePow, Nat.reduceAdd, Nat.reduceMul]
        refine WL_det rfl (det_conv' Try.underlying5 Try.underlying3 rfl rfl (by simp only [md]; first | omega | exact Nat.or_lt_two_pow (n := 32) (by omega) (by omega) | exact Nat.lt_of_le_of_lt Nat.and_le_left (by omega) | exact Nat.lt_of_le_of_lt Nat.and_le_right (by omega) | exact Nat.xor_lt_two_pow (n := 32) (by omega) (by omega))) ?_
        dsimp only [put, List.set, ev, nth, List.nil_append, List.cons_append, md, Nat.reducePow, Nat.reduceAdd, Nat.reduceMul]
        refine WL_det rfl (det_idxA Try.underlying75 Try.sizeOf5 rfl rfl (rfl) (by omega)) ?_
        dsimp only [put, List.set, ev, nth, List.nil_append, List.cons_append, md, Nat.reducePow, Nat.reduceAdd, Nat.reduceMul]
        refine WL_chg rfl (chg_storeA 1 Try.sizeOf5 rfl rfl (by omega) rfl) ?_
        rintro _ _ rfl
        dsimp only [put, List.set, ev, nth, List.nil_append, List.cons_append, md, Nat.reducePow, Nat.reduceAdd, Nat.reduceMul]
        refine WL_nil ?_
        refine WC_region ?_
        refine WL_det rfl (det_move) ?_
        dsimp only [put, List.set, ev, nth, List.nil_append, List.cons_append, md, Nat.reducePow, Nat.reduceAdd, Nat.reduceMul]
        refine WL_det rfl (det_addi (q := 1) rfl rfl (by omega)) ?_
        dsimp only [put, List.set, ev, nth, List.nil_append, List.cons_append, md, Nat.reducePow, Nat.reduceAdd, Nat.reduceMul]
        refine WL_det rfl (det_assign) ?_
        dsimp only [put, List.set, ev, nth, List.nil_append, List.cons_append, md, Nat.reducePow, Nat.reduceAdd, Nat.reduceMul]
        refine WL_nil ?_
        refine ⟨k + 1, ?_, ?_, ?_, ?_⟩
        · rfl
        · first | rw [byt_odd N k hc1, upd_fill] | rw [byt_even N k (by omega), upd_fill]
          try rfl
        · omega
        · omega
    · have hc0 := of_decide_eq_false hc0
      refine WC_exit ?_
      refine inB_same ?_
      refine WC_seq ?_
      refine WC_region ?_
      refine WL_det rfl (det_loadWA 1 Try.underlying75 rfl i75 rfl rfl) ?_
      dsimp only [put, List.set, ev, nth, List.nil_append, List.cons_append, md, Nat.reducePow, Nat.reduceAdd, Nat.reduceMul]
      refine WL_chg rfl (chg_storeWA 0 Try.sizeOf75 rfl rfl rfl) ?_
      rintro _ _ rfl
      dsimp only [put, List.set, ev, nth, List.nil_append, List.cons_append, md, Nat.reducePow, Nat.reduceAdd, Nat.reduceMul]
      refine WL_nil ?_
      refine WC_ret ?_
      obtain rfl : k = 17 := by omega
      rw [arr_congr (f := fun i => if i < 17 then byt N i else 0) (g := byt N) (fun i hi => if_pos hi)]
      refine fin_cell 0 Try.results50 rfl rfl Try.underlying75 rfl i75 (arr_size _ _ _) ([]) (List.nil_sublist _) ?_
      exact ⟨rfl, rfl⟩

set_option maxRecDepth 100000 in
set_option maxHeartbeats 400000 in
theorem padd_spec (A N : Nat) (hA : A < Pp) (hN : N < Pp) (va vb : Value) (w : World) (ha : Rd w .i64 10 (dig A) va) (hb : Rd w .i64 10 (dig N) vb) :
    Calls Try.prog 52 [va, vb].toArray w (Post w (fun v m => ∃ e, RowN .i64 3 10 (dig ((A + N) % Pp)) v e ∧ m = [e])) := by
  obtain ⟨p1, c1, b1, o1, rfl, hp1, hx1⟩ := ha
  obtain ⟨p2, c2, b2, o2, rfl, hp2, hx2⟩ := hb
  refine calls_of_WC Try.func52 rfl ?_
  simp only [Try.ntmps52, List.length_cons, List.length_nil, Nat.reduceAdd, Nat.reduceSub, List.replicate, List.cons_append, List.nil_append]
  refine WC_seq ?_
  refine WC_region ?_
  refine WL_det rfl (det_assign) ?_
  dsimp only [put, List.set, ev, nth, List.nil_append, List.cons_append, md, Nat.reducePow, Nat.reduceAdd, Nat.reduceMul]
  refine WL_nil ?_
  refine WC_seq ?_
  refine WC_region ?_
  refine WL_det rfl (det_assign) ?_
  dsimp only [put, List.set, ev, nth, List.nil_append, List.cons_append, md, Nat.reducePow, Nat.reduceAdd, Nat.reduceMul]
  refine WL_nil ?_
  refine WC_seq ?_
  refine WC_region ?_
  refine WL_det rfl (det_assign) ?_
  dsimp only [put, List.set, ev, nth, List.nil_append, List.cons_append, md, Nat.reducePow, Nat.reduceAdd, Nat.reduceMul]
  refine WL_nil ?_
  refine WC_seq ?_
  refine WC_seq ?_
  refine WC_region ?_
  refine WL_det rfl (det_assign) ?_
  dsimp only [put, List.set, ev, nth, List.nil_append, List.cons_append, md, Nat.reducePow, Nat.reduceAdd, Nat.reduceMul]
  refine WL_nil ?_
  refine WC_block ?_
  refine WC.addNone (.cells #[] 3 (0, 0)) ?_
  dsimp only [List.cons_append, List.nil_append]
  refine WC_loopS (ι := Nat × Value × (Option Nat × Obj)) [9, 10, 13, 14, 15, 16, 17, 18, 19, 20, 21, 22, 23, 8, 24, 25, 26, 27, 28, 29, 30, 11, 12] (fun x => [(7, vn .i64 (x.1)), (6, vn .i64 (adc A N x.1)), (5, x.2.1)]) (fun x => [(0, x.2.2)]) (fun x => x.1 ≤ 10 ∧ RowN .i64 3 x.1 (dig (A + N)) x.2.1 x.2.2) (fun x => 10 - x.1) (0, .slice none 0 0, (none, .cells #[] 3 (0, 0))) ?_ ?_ ?_ ?_
  · rw [adc_zero]
    try rfl
  · rfl
  · exact ⟨Nat.zero_le _, RowV.nil _ _ _⟩
  · rintro ⟨k, v5, e5⟩ g ⟨hk, hr5⟩
    dsimp only [setAll, setG, setM, List.set]
    dsimp only at hk hr5
    have hd1 := dig_lt A k
    have hd2 := dig_lt N k
    have hd3 := adc_lt A N k
    refine WC_seq ?_
    refine WC_seq ?_
    refine WC_region ?_
    refine WL_det rfl (det_move) ?_
    dsimp only [put, List.set, ev, nth, List.nil_append, List.cons_append, md, Nat.reducePow, Nat.reduceAdd, Nat.reduceMul]
    refine WL_det rfl (det_lss (q := 10) rfl rfl) ?_
    dsimp only [put, List.set, ev, nth, List.nil_append, List.cons_append, md, Nat.reducePow, Nat.reduceAdd, Nat.reduceMul]
    refine WL_nil ?_
    refine WC_cond rfl (fun hc0 => ?_) (fun hc0 => ?_)
    · have hc0 := of_decide_eq_true hc0
      refine WC_skip ?_
      refine WC_seq ?_
      refine WC_block ?_
      refine WC_seq ?_
      refine WC_draw [[], [], [0, 1], [0, 1, 2], [], [], [4, 5], [4, 5, 6], [0, 1, 2, 3, 4, 5, 6, 7], [], [0, 1, 2, 3, 4, 5, 6, 7, 8, 9], [0, 1, 2, 3, 4, 5, 6, 7, 8, 9, 10]] [] 33 [] (List.nil_sublist _) mixed rfl (by decide) ?_
      refine RW.pure rfl rfl (fun _ => rfl) (fun V hV => det_move) (fun _ _ _ => rfl) ?_
      dsimp only [put, List.set, ev, nth, List.nil_append, List.cons_append, md, Nat.reducePow, Nat.reduceAdd, Nat.reduceMul]
      refine RW.pure rfl rfl (fun _ => rfl) (fun V hV => det_move) (fun _ _ _ => rfl) ?_
      dsimp only [put, List.set, ev, nth, List.nil_append, List.cons_append, md, Nat.reducePow, Nat.reduceAdd, Nat.reduceMul]
      refine RW.pure rfl rfl (fun _ => rfl) (fun V hV => det_idxS Try.underlying47 Try.sizeOf3 rfl rfl (rfl) (by omega) (hp1 (by omega))) (fun _ _ _ => rfl) ?_
      dsimp only [put, List.set, ev, nth, List.nil_append, List.cons_append, md, Nat.reducePow, Nat.reduceAdd, Nat.reduceMul]
      refine RW.det [] rfl rfl rfl rfl (fun _ => rfl) (fun V hV => Det.rel (det_loadF Try.isAgg3 rfl (hx1 _ (by omega)))) (fun _ _ _ => rfl) ?_
      dsimp only [put, List.set, ev, nth, List.nil_append, List.cons_append, md, Nat.reducePow, Nat.reduceAdd, Nat.reduceMul]
      refine RW.pure rfl rfl (fun _ => rfl) (fun V hV => det_move) (fun _ _ _ => rfl) ?_
      dsimp only [put, List.set, ev, nth, List.nil_append, List.cons_append, md, Nat.reducePow, Nat.reduceAdd, Nat.reduceMul]
      refine RW.pure rfl rfl (fun _ => rfl) (fun V hV => det_move) (fun _ _ _ => rfl) ?_
      dsimp only [put, List.set, ev, nth, List.nil_append, List.cons_append, md, Nat.reducePow, Nat.reduceAdd, Nat.reduceMul]
      refine RW.pure rfl rfl (fun _ => rfl) (fun V hV => det_idxS Try.underlying47 Try.sizeOf3 rfl rfl (rfl) (by omega) (hp2 (by omega))) (fun _ _ _ => rfl) ?_
      dsimp only [put, List.set, ev, nth, List.nil_append, List.cons_append, md, Nat.reducePow, Nat.reduceAdd, Nat.reduceMul]
      refine RW.det [] rfl rfl rfl rfl (fun _ => rfl) (fun V hV => Det.rel (det_loadF Try.isAgg3 rfl (hx2 _ (by omega)))) (fun _ _ _ => rfl) ?_
      dsimp only [put, List.set, ev, nth, List.nil_append, List.cons_append, md, Nat.reducePow, Nat.reduceAdd, Nat.reduceMul]
      refine RW.pure rfl rfl (fun _ => rfl) (fun V hV => det_addi rfl rfl (by omega)) (fun _ _ _ => rfl) ?_
      dsimp only [put, List.set, ev, nth, List.nil_append, List.cons_append, md, Nat.reducePow, Nat.reduceAdd, Nat.reduceMul]
      refine RW.pure rfl rfl (fun _ => rfl) (fun V hV => det_move) (fun _ _ _ => rfl) ?_
      dsimp only [put, List.set, ev, nth, List.nil_append, List.cons_append, md, Nat.reducePow, Nat.reduceAdd, Nat.reduceMul]
      refine RW.pure rfl rfl (fun _ => rfl) (fun V hV => det_addi rfl rfl (by omega)) (fun _ _ _ => rfl) ?_
      dsimp only [put, List.set, ev, nth, List.nil_append, List.cons_append, md, Nat.reducePow, Nat.reduceAdd, Nat.reduceMul]
      refine RW.pure rfl rfl (fun _ => rfl) (fun V hV => det_assign) (fun _ _ _ => rfl) ?_
      dsimp only [put, List.set, ev, nth, List.nil_append, List.cons_append, md, Nat.reducePow, Nat.reduceAdd, Nat.reduceMul]
      refine RW.done (fun V => _ ++ flat [] V) rfl rfl (fun _ => rfl) (fun V hV => ?_)
      try dsimp only [put, blk, flat_nil, List.append_nil, List.append, List.eraseIdx, List.set, ev, nth, List.nil_append, List.cons_append, md, Nat.reducePow, Nat.reduceAdd, Nat.reduceMul]
      refine WC_seq ?_
      refine WC_region ?_
      refine WL_det rfl (det_move) ?_
      dsimp only [put, List.set, ev, nth, List.nil_append, List.cons_append, md, Nat.reducePow, Nat.reduceAdd, Nat.reduceMul]
      refine WL_det rfl (det_move) ?_
      dsimp only [put, List.set, ev, nth, List.nil_append, List.cons_append, md, Nat.reducePow, Nat.reduceAdd, Nat.reduceMul]
      refine WL_det rfl (det_remi (q := 65536) rfl rfl (by omega)) ?_
      dsimp only [put, List.set, ev, nth, List.nil_append, List.cons_append, md, Nat.reducePow, Nat.reduceAdd, Nat.reduceMul]
      refine WL_rel rfl (rel_lit1 Try.underlying47 Try.zeroValue3 Try.sizeOf3 rfl rfl) ?_
      rintro _ _ ⟨bl, rfl, rfl⟩
      dsimp only [put, List.set, ev, nth, List.nil_append, List.cons_append, md, Nat.reducePow, Nat.reduceAdd, Nat.reduceMul]
      refine WL_chg rfl (chg_append1 0 1 rfl (hr5) rfl rfl rfl rfl Try.underlying47 ei3 rfl (by omega) (by decide)) ?_
      rintro v28 _ ⟨e28, hr28, rfl⟩
      dsimp only [put, List.eraseIdx, List.set, ev, nth, List.nil_append, List.cons_append, md, Nat.reducePow, Nat.reduceAdd, Nat.reduceMul]
      have hr28 : RowN .i64 3 (k + 1) (dig (A + N)) v28 e28 := RowN.snoc hr28 (by rw [← and_ffff, ad_dig])
      refine WL_det rfl (det_assign) ?_
      dsimp only [put, List.set, ev, nth, List.nil_append, List.cons_append, md, Nat.reducePow, Nat.reduceAdd, Nat.reduceMul]
      refine WL_nil ?_
      refine WC_region ?_
      refine WL_det rfl (det_move) ?_
      dsimp only [put, List.set, ev, nth, List.nil_append, List.cons_append, md, Nat.reducePow, Nat.reduceAdd, Nat.reduceMul]
      refine WL_det rfl (det_quoi (q := 65536) rfl rfl (by omega) (.inr ⟨rfl, by omega⟩) (.inl rfl)) ?_
      dsimp only [put, List.set, ev, nth, List.nil_append, List.cons_append, md, Nat.reducePow, Nat.reduceAdd, Nat.reduceMul]
      refine WL_det rfl (det_assign) ?_
      dsimp only [put, List.set, ev, nth, List.nil_append, List.cons_append, md, Nat.reducePow, Nat.reduceAdd, Nat.reduceMul]
      refine WL_nil ?_
      refine WC_region ?_
      refine WL_det rfl (det_move) ?_
      dsimp only [put, List.set, ev, nth, List.nil_append, List.cons_append, md, Nat.reducePow, Nat.reduceAdd, Nat.reduceMul]
      refine WL_det rfl (det_addi (q := 1) rfl rfl (by omega)) ?_
      dsimp only [put, List.set, ev, nth, List.nil_append, List.cons_append, md, Nat.reducePow, Nat.reduceAdd, Nat.reduceMul]
      refine WL_det rfl (det_assign) ?_
      dsimp only [put, List.set, ev, nth, List.nil_append, List.cons_append, md, Nat.reducePow, Nat.reduceAdd, Nat.reduceMul]
      refine WL_nil ?_
      refine ⟨(k + 1, v28, e28), ?_, ?_, ?_, ?_⟩
      · rw [ad_carry]
        try rfl
      · rfl
      · exact ⟨by dsimp only; omega, hr28⟩
      · dsimp only; omega
    · have hc0 := of_decide_eq_false hc0
      obtain rfl : k = 10 := by omega
      refine WC_exit ?_
      refine inB_same ?_
      refine WC_seq ?_
      refine WC_region ?_
      refine WL_det rfl (det_move) ?_
      dsimp only [put, List.set, ev, nth, List.nil_append, List.cons_append, md, Nat.reducePow, Nat.reduceAdd, Nat.reduceMul]
      refine WL_rel rfl (Rel_call rfl Try.call47 (fun w hw => pmod_spec 10 (dig (A + N)) (fun i _ => dig_lt _ i) (by decide) _ w (Rd.row hw 0 rfl hr5))) ?_
      rintro vm _ ⟨em, hrm, rfl⟩
      rw [psum_digA _ _ (by have h1 : 2 * Pp ≤ 65536 ^ 10 := (by decide); omega)] at hrm
      dsimp only [put, List.append_nil, List.set, ev, nth, List.nil_append, List.cons_append, md, Nat.reducePow, Nat.reduceAdd, Nat.reduceMul]
      refine WL_det rfl (det_assign) ?_
      dsimp only [put, List.set, ev, nth, List.nil_append, List.cons_append, md, Nat.reducePow, Nat.reduceAdd, Nat.reduceMul]
      refine WL_nil ?_
      refine WC_ret ?_
      refine fin_tmp Try.results52 rfl ([em]) (.cons _ (List.Sublist.refl _)) ?_
      exact ⟨_, hrm, rfl⟩

set_option maxRecDepth 100000 in
set_option maxHeartbeats 400000 in
theorem pmul_spec (A N : Nat) (hA : A < Pp) (hN : N < Pp) (va vb : Value) (w : World) (ha : Rd w .i64 10 (dig A) va) (hb : Rd w .i64 10 (dig N) vb) :
    Calls Try.prog 54 [va, vb].toArray w (Post w (fun v m => ∃ e, RowN .i64 3 10 (dig (A * N % Pp)) v e ∧ m = [e])) := by
  obtain ⟨p1, c1, b1, o1, rfl, hp1, hx1⟩ := ha
  obtain ⟨p2, c2, b2, o2, rfl, hp2, hx2⟩ := hb
  refine calls_of_WC Try.func54 rfl ?_
  simp only [Try.ntmps54, List.length_cons, List.length_nil, Nat.reduceAdd, Nat.reduceSub, List.replicate, List.cons_append, List.nil_append]
  refine WC_seq ?_
  refine WC_region ?_
  refine WL_det rfl (det_assign) ?_
  dsimp only [put, List.set, ev, nth, List.nil_append, List.cons_append, md, Nat.reducePow, Nat.reduceAdd, Nat.reduceMul]
  refine WL_nil ?_
  refine WC_seq ?_
  refine WC_region ?_
  refine WL_rel rfl (rel_make Try.underlying47 ei3 rfl rfl (by decide) (by decide)) ?_
  rintro _ _ ⟨b0, rfl, rfl⟩
  dsimp only [put, List.set, ev, nth, List.nil_append, List.cons_append, md, Nat.reducePow, Nat.reduceAdd, Nat.reduceMul]
  refine WL_det rfl (det_assign) ?_
  dsimp only [put, List.set, ev, nth, List.nil_append, List.cons_append, md, Nat.reducePow, Nat.reduceAdd, Nat.reduceMul]
  refine WL_nil ?_
  refine WC_seq ?_
  refine WC_seq ?_
  refine WC_region ?_
  refine WL_det rfl (det_assign) ?_
  dsimp only [put, List.set, ev, nth, List.nil_append, List.cons_append, md, Nat.reducePow, Nat.reduceAdd, Nat.reduceMul]
  refine WL_nil ?_
  refine WC_block ?_
  refine WC_loopS (ι := Nat) [11, 12, 7, 8, 15, 16, 19, 20, 21, 22, 23, 24, 25, 26, 27, 28, 29, 30, 31, 32, 33, 34, 35, 36, 9, 37, 38, 39, 40, 41, 42, 43, 44, 45, 17, 18, 46, 47, 48, 49, 50, 51, 52, 53, 54, 55, 56, 13, 14] (fun i => [(6, vn .i64 (i))]) (fun i => [(0, (some b0, .cells (arr .i64 20 (dig (prw A N i))) 3 (0, 0)))]) (fun i => i ≤ 10) (fun i => 10 - i) 0 ?_ ?_ ?_ ?_
  · rfl
  · rw [prw_zero, arr_congr (f := dig 0) (g := fun _ => 0) (fun i _ => dig_zero i)]
    try rfl
  · exact (by omega)
  · intro i g hI
    dsimp only [setAll, setG, setM, List.set]
    have hdi := dig_lt A i
    refine WC_seq ?_
    refine WC_seq ?_
    refine WC_region ?_
    refine WL_det rfl (det_move) ?_
    dsimp only [put, List.set, ev, nth, List.nil_append, List.cons_append, md, Nat.reducePow, Nat.reduceAdd, Nat.reduceMul]
    refine WL_det rfl (det_lss (q := 10) rfl rfl) ?_
    dsimp only [put, List.set, ev, nth, List.nil_append, List.cons_append, md, Nat.reducePow, Nat.reduceAdd, Nat.reduceMul]
    refine WL_nil ?_
    refine WC_cond rfl (fun hc0 => ?_) (fun hc0 => ?_)
    · have hc0 := of_decide_eq_true hc0
      refine WC_skip ?_
      refine WC_seq ?_
      refine WC_block ?_
      refine WC_seq ?_
      refine WC_region ?_
      refine WL_det rfl (det_assign) ?_
      dsimp only [put, List.set, ev, nth, List.nil_append, List.cons_append, md, Nat.reducePow, Nat.reduceAdd, Nat.reduceMul]
      refine WL_nil ?_
      refine WC_seq ?_
      refine WC_seq ?_
      refine WC_region ?_
      refine WL_det rfl (det_assign) ?_
      dsimp only [put, List.set, ev, nth, List.nil_append, List.cons_append, md, Nat.reducePow, Nat.reduceAdd, Nat.reduceMul]
      refine WL_nil ?_
      refine WC_block ?_
      refine WC_loopS (ι := Nat) [15, 16, 19, 20, 21, 22, 23, 24, 25, 26, 27, 28, 29, 30, 31, 32, 33, 34, 35, 36, 9, 37, 38, 39, 40, 41, 42, 43, 44, 45, 17, 18] (fun j => [(8, vn .i64 (j)), (7, vn .i64 (prc A N i j))]) (fun j => [(0, (some b0, .cells (arr .i64 20 (prf A N i j)) 3 (0, 0)))]) (fun j => j ≤ 10) (fun j => 10 - j) 0 ?_ ?_ ?_ ?_
      · rw [show prc A N i 0 = 0 from mac_zero _ _ _]
        try rfl
      · rw [prf_zero]
        try rfl
      · exact (by omega)
      · intro j g hI
        dsimp only [setAll, setG, setM, List.set]
        have hdj := dig_lt N j
        have hpf : prf A N i j (i + j) < 65536 := by rw [prf_at]; exact dig_lt _ _
        have hcc : prc A N i j < 65536 := mac_lt _ _ _ _ hdi
        have hpr : dig A i * dig N j ≤ 4294836225 := (by have := Nat.mul_le_mul (show dig A i ≤ 65535 by omega) (show dig N j ≤ 65535 by omega); omega)
        refine WC_seq ?_
        refine WC_seq ?_
        refine WC_region ?_
        refine WL_det rfl (det_move) ?_
        dsimp only [put, List.set, ev, nth, List.nil_append, List.cons_append, md, Nat.reducePow, Nat.reduceAdd, Nat.reduceMul]
        refine WL_det rfl (det_lss (q := 10) rfl rfl) ?_
        dsimp only [put, List.set, ev, nth, List.nil_append, List.cons_append, md, Nat.reducePow, Nat.reduceAdd, Nat.reduceMul]
        refine WL_nil ?_
        refine WC_cond rfl (fun hc1 => ?_) (fun hc1 => ?_)
        · have hc1 := of_decide_eq_true hc1
          refine WC_skip ?_
          refine WC_seq ?_
          refine WC_block ?_
          refine WC_seq ?_
          refine WC_draw [[], [], [], [1, 2], [0, 1, 2, 3], [0, 1, 2, 3, 4], [], [], [6, 7], [6, 7, 8], [], [], [10, 11], [10, 11, 12], [6, 7, 8, 9, 10, 11, 12, 13], [0, 1, 2, 3, 4, 5, 6, 7, 8, 9, 10, 11, 12, 13, 14], [], [0, 1, 2, 3, 4, 5, 6, 7, 8, 9, 10, 11, 12, 13, 14, 15, 16], [0, 1, 2, 3, 4, 5, 6, 7, 8, 9, 10, 11, 12, 13, 14, 15, 16, 17]] [] 59 [] (List.nil_sublist _) mixed rfl (by decide) ?_
          refine RW.pure rfl rfl (fun _ => rfl) (fun V hV => det_move) (fun _ _ _ => rfl) ?_
          dsimp only [put, List.set, ev, nth, List.nil_append, List.cons_append, md, Nat.reducePow, Nat.reduceAdd, Nat.reduceMul]
          refine RW.pure rfl rfl (fun _ => rfl) (fun V hV => det_move) (fun _ _ _ => rfl) ?_
          dsimp only [put, List.set, ev, nth, List.nil_append, List.cons_append, md, Nat.reducePow, Nat.reduceAdd, Nat.reduceMul]
          refine RW.pure rfl rfl (fun _ => rfl) (fun V hV => det_move) (fun _ _ _ => rfl) ?_
          dsimp only [put, List.set, ev, nth, List.nil_append, List.cons_append, md, Nat.reducePow, Nat.reduceAdd, Nat.reduceMul]
          refine RW.pure rfl rfl (fun _ => rfl) (fun V hV => det_addi rfl rfl (by omega)) (fun _ _ _ => rfl) ?_
          dsimp only [put, List.set, ev, nth, List.nil_append, List.cons_append, md, Nat.reducePow, Nat.reduceAdd, Nat.reduceMul]
          refine RW.pure rfl rfl (fun _ => rfl) (fun V hV => det_idxS0 Try.underlying47 Try.sizeOf3 rfl rfl (rfl) (by omega)) (fun _ _ _ => rfl) ?_
          dsimp only [put, List.set, ev, nth, List.nil_append, List.cons_append, md, Nat.reducePow, Nat.reduceAdd, Nat.reduceMul]
          refine RW.det [] rfl rfl rfl rfl (fun _ => rfl) (fun V hV => Det.rel (det_loadA 0 Try.isAgg3 rfl rfl (by omega))) (fun _ _ _ => rfl) ?_
          dsimp only [put, List.set, ev, nth, List.nil_append, List.cons_append, md, Nat.reducePow, Nat.reduceAdd, Nat.reduceMul]
          refine RW.pure rfl rfl (fun _ => rfl) (fun V hV => det_move) (fun _ _ _ => rfl) ?_
          dsimp only [put, List.set, ev, nth, List.nil_append, List.cons_append, md, Nat.reducePow, Nat.reduceAdd, Nat.reduceMul]
          refine RW.pure rfl rfl (fun _ => rfl) (fun V hV => det_move) (fun _ _ _ => rfl) ?_
          dsimp only [put, List.set, ev, nth, List.nil_append, List.cons_append, md, Nat.reducePow, Nat.reduceAdd, Nat.reduceMul]
          refine RW.pure rfl rfl (fun _ => rfl) (fun V hV => det_idxS Try.underlying47 Try.sizeOf3 rfl rfl (rfl) (by omega) (hp1 (by omega))) (fun _ _ _ => rfl) ?_
          dsimp only [put, List.set, ev, nth, List.nil_append, List.cons_append, md, Nat.reducePow, Nat.reduceAdd, Nat.reduceMul]
          refine RW.det [] rfl rfl rfl rfl (fun _ => rfl) (fun V hV => Det.rel (det_loadF Try.isAgg3 rfl (hx1 _ (by omega)))) (fun _ _ _ => rfl) ?_
          dsimp only [put, List.set, ev, nth, List.nil_append, List.cons_append, md, Nat.reducePow, Nat.reduceAdd, Nat.reduceMul]
          refine RW.pure rfl rfl (fun _ => rfl) (fun V hV => det_move) (fun _ _ _ => rfl) ?_
          dsimp only [put, List.set, ev, nth, List.nil_append, List.cons_append, md, Nat.reducePow, Nat.reduceAdd, Nat.reduceMul]
          refine RW.pure rfl rfl (fun _ => rfl) (fun V hV => det_move) (fun _ _ _ => rfl) ?_
          dsimp only [put, List.set, ev, nth, List.nil_append, List.cons_append, md, Nat.reducePow, Nat.reduceAdd, Nat.reduceMul]
          refine RW.pure rfl rfl (fun _ => rfl) (fun V hV => det_idxS Try.underlying47 Try.sizeOf3 rfl rfl (rfl) (by omega) (hp2 (by omega))) (fun _ _ _ => rfl) ?_
          dsimp only [put, List.set, ev, nth, List.nil_append, List.cons_append, md, Nat.reducePow, Nat.reduceAdd, Nat.reduceMul]
          refine RW.det [] rfl rfl rfl rfl (fun _ => rfl) (fun V hV => Det.rel (det_loadF Try.isAgg3 rfl (hx2 _ (by omega)))) (fun _ _ _ => rfl) ?_
          dsimp only [put, List.set, ev, nth, List.nil_append, List.cons_append, md, Nat.reducePow, Nat.reduceAdd, Nat.reduceMul]
          refine RW.pure rfl rfl (fun _ => rfl) (fun V hV => det_muli rfl rfl (by omega)) (fun _ _ _ => rfl) ?_
          dsimp only [put, List.set, ev, nth, List.nil_append, List.cons_append, md, Nat.reducePow, Nat.reduceAdd, Nat.reduceMul]
          refine RW.pure rfl rfl (fun _ => rfl) (fun V hV => det_addi rfl rfl (by omega)) (fun _ _ _ => rfl) ?_
          dsimp only [put, List.set, ev, nth, List.nil_append, List.cons_append, md, Nat.reducePow, Nat.reduceAdd, Nat.reduceMul]
          refine RW.pure rfl rfl (fun _ => rfl) (fun V hV => det_move) (fun _ _ _ => rfl) ?_
          dsimp only [put, List.set, ev, nth, List.nil_append, List.cons_append, md, Nat.reducePow, Nat.reduceAdd, Nat.reduceMul]
          refine RW.pure rfl rfl (fun _ => rfl) (fun V hV => det_addi rfl rfl (by omega)) (fun _ _ _ => rfl) ?_
          dsimp only [put, List.set, ev, nth, List.nil_append, List.cons_append, md, Nat.reducePow, Nat.reduceAdd, Nat.reduceMul]
          refine RW.pure rfl rfl (fun _ => rfl) (fun V hV => det_assign) (fun _ _ _ => rfl) ?_
          dsimp only [put, List.set, ev, nth, List.nil_append, List.cons_append, md, Nat.reducePow, Nat.reduceAdd, Nat.reduceMul]
          refine RW.done (fun V => _ ++ flat [] V) rfl rfl (fun _ => rfl) (fun V hV => ?_)
          try dsimp only [put, blk, flat_nil, List.append_nil, List.append, List.eraseIdx, List.set, ev, nth, List.nil_append, List.cons_append, md, Nat.reducePow, Nat.reduceAdd, Nat.reduceMul]
          refine WC_seq ?_
          refine WC_region ?_
          refine WL_det rfl (det_move) ?_
          dsimp only [put, List.set, ev, nth, List.nil_append, List.cons_append, md, Nat.reducePow, Nat.reduceAdd, Nat.reduceMul]
          refine WL_det rfl (det_move) ?_
          dsimp only [put, List.set, ev, nth, List.nil_append, List.cons_append, md, Nat.reducePow, Nat.reduceAdd, Nat.reduceMul]
          refine WL_det rfl (det_move) ?_
          dsimp only [put, List.set, ev, nth, List.nil_append, List.cons_append, md, Nat.reducePow, Nat.reduceAdd, Nat.reduceMul]
          refine WL_det rfl (det_addi rfl rfl (by omega)) ?_
          dsimp only [put, List.set, ev, nth, List.nil_append, List.cons_append, md, Nat.reducePow, Nat.reduceAdd, Nat.reduceMul]
          refine WL_det rfl (det_move) ?_
          dsimp only [put, List.set, ev, nth, List.nil_append, List.cons_append, md, Nat.reducePow, Nat.reduceAdd, Nat.reduceMul]
          refine WL_det rfl (det_remi (q := 65536) rfl rfl (by omega)) ?_
          dsimp only [put, List.set, ev, nth, List.nil_append, List.cons_append, md, Nat.reducePow, Nat.reduceAdd, Nat.reduceMul]
          refine WL_det rfl (det_idxS0 Try.underlying47 Try.sizeOf3 rfl rfl (rfl) (by omega)) ?_
          dsimp only [put, List.set, ev, nth, List.nil_append, List.cons_append, md, Nat.reducePow, Nat.reduceAdd, Nat.reduceMul]
          refine WL_chg rfl (chg_storeA 0 Try.sizeOf3 rfl rfl (by omega) rfl) ?_
          rintro _ _ rfl
          dsimp only [put, List.set, ev, nth, List.nil_append, List.cons_append, md, Nat.reducePow, Nat.reduceAdd, Nat.reduceMul]
          refine WL_nil ?_
          refine WC_region ?_
          refine WL_det rfl (det_move) ?_
          dsimp only [put, List.set, ev, nth, List.nil_append, List.cons_append, md, Nat.reducePow, Nat.reduceAdd, Nat.reduceMul]
          refine WL_det rfl (det_quoi (q := 65536) rfl rfl (by omega) (.inr ⟨rfl, by omega⟩) (.inl rfl)) ?_
          dsimp only [put, List.set, ev, nth, List.nil_append, List.cons_append, md, Nat.reducePow, Nat.reduceAdd, Nat.reduceMul]
          refine WL_det rfl (det_assign) ?_
          dsimp only [put, List.set, ev, nth, List.nil_append, List.cons_append, md, Nat.reducePow, Nat.reduceAdd, Nat.reduceMul]
          refine WL_nil ?_
          refine WC_region ?_
          refine WL_det rfl (det_move) ?_
          dsimp only [put, List.set, ev, nth, List.nil_append, List.cons_append, md, Nat.reducePow, Nat.reduceAdd, Nat.reduceMul]
          refine WL_det rfl (det_addi (q := 1) rfl rfl (by omega)) ?_
          dsimp only [put, List.set, ev, nth, List.nil_append, List.cons_append, md, Nat.reducePow, Nat.reduceAdd, Nat.reduceMul]
          refine WL_det rfl (det_assign) ?_
          dsimp only [put, List.set, ev, nth, List.nil_append, List.cons_append, md, Nat.reducePow, Nat.reduceAdd, Nat.reduceMul]
          refine WL_nil ?_
          refine ⟨j + 1, ?_, ?_, ?_, ?_⟩
          · rw [pr_carry]
            try rfl
          · rw [pr_dig, prf_succ]
            try rfl
          · omega
          · omega
        · have hc1 := of_decide_eq_false hc1
          obtain rfl : j = 10 := by omega
          have hpf16 : prf A N i 10 (i + 10) < 65536 := by rw [prf_at]; exact dig_lt _ _
          refine WC_exit ?_
          refine inB_same ?_
          refine WC_region ?_
          refine WL_det rfl (det_move) ?_
          dsimp only [put, List.set, ev, nth, List.nil_append, List.cons_append, md, Nat.reducePow, Nat.reduceAdd, Nat.reduceMul]
          refine WL_det rfl (det_move) ?_
          dsimp only [put, List.set, ev, nth, List.nil_append, List.cons_append, md, Nat.reducePow, Nat.reduceAdd, Nat.reduceMul]
          refine WL_det rfl (det_addi (q := 10) rfl rfl (by omega)) ?_
          dsimp only [put, List.set, ev, nth, List.nil_append, List.cons_append, md, Nat.reducePow, Nat.reduceAdd, Nat.reduceMul]
          refine WL_det rfl (det_move) ?_
          dsimp only [put, List.set, ev, nth, List.nil_append, List.cons_append, md, Nat.reducePow, Nat.reduceAdd, Nat.reduceMul]
          refine WL_det rfl (det_move) ?_
          dsimp only [put, List.set, ev, nth, List.nil_append, List.cons_append, md, Nat.reducePow, Nat.reduceAdd, Nat.reduceMul]
          refine WL_det rfl (det_addi (q := 10) rfl rfl (by omega)) ?_
          dsimp only [put, List.set, ev, nth, List.nil_append, List.cons_append, md, Nat.reducePow, Nat.reduceAdd, Nat.reduceMul]
          refine WL_det rfl (det_idxS0 Try.underlying47 Try.sizeOf3 rfl rfl (rfl) (by omega)) ?_
          dsimp only [put, List.set, ev, nth, List.nil_append, List.cons_append, md, Nat.reducePow, Nat.reduceAdd, Nat.reduceMul]
          refine WL_det rfl (det_loadA 0 Try.isAgg3 rfl rfl (by omega)) ?_
          dsimp only [put, List.set, ev, nth, List.nil_append, List.cons_append, md, Nat.reducePow, Nat.reduceAdd, Nat.reduceMul]
          refine WL_det rfl (det_move) ?_
          dsimp only [put, List.set, ev, nth, List.nil_append, List.cons_append, md, Nat.reducePow, Nat.reduceAdd, Nat.reduceMul]
          refine WL_det rfl (det_addi rfl rfl (by omega)) ?_
          dsimp only [put, List.set, ev, nth, List.nil_append, List.cons_append, md, Nat.reducePow, Nat.reduceAdd, Nat.reduceMul]
          refine WL_det rfl (det_idxS0 Try.underlying47 Try.sizeOf3 rfl rfl (rfl) (by omega)) ?_
          dsimp only [put, List.set, ev, nth, List.nil_append, List.cons_append, md, Nat.reducePow, Nat.reduceAdd, Nat.reduceMul]
          refine WL_chg rfl (chg_storeA 0 Try.sizeOf3 rfl rfl (by omega) rfl) ?_
          rintro _ _ rfl
          dsimp only [put, List.set, ev, nth, List.nil_append, List.cons_append, md, Nat.reducePow, Nat.reduceAdd, Nat.reduceMul]
          refine WL_nil ?_
          refine WC_region ?_
          refine WL_det rfl (det_move) ?_
          dsimp only [put, List.set, ev, nth, List.nil_append, List.cons_append, md, Nat.reducePow, Nat.reduceAdd, Nat.reduceMul]
          refine WL_det rfl (det_addi (q := 1) rfl rfl (by omega)) ?_
          dsimp only [put, List.set, ev, nth, List.nil_append, List.cons_append, md, Nat.reducePow, Nat.reduceAdd, Nat.reduceMul]
          refine WL_det rfl (det_assign) ?_
          dsimp only [put, List.set, ev, nth, List.nil_append, List.cons_append, md, Nat.reducePow, Nat.reduceAdd, Nat.reduceMul]
          refine WL_nil ?_
          refine ⟨i + 1, ?_, ?_, ?_, ?_⟩
          · rfl
          · rw [pr_last A N i (P10' hN)]
            try rfl
          · omega
          · omega
    · have hc0 := of_decide_eq_false hc0
      obtain rfl : i = 10 := by omega
      rw [prw_full A N (P10' hA)]
      refine WC_exit ?_
      refine inB_same ?_
      refine WC_seq ?_
      refine WC_region ?_
      refine WL_det rfl (det_move) ?_
      dsimp only [put, List.set, ev, nth, List.nil_append, List.cons_append, md, Nat.reducePow, Nat.reduceAdd, Nat.reduceMul]
      refine WL_rel rfl (Rel_call rfl Try.call47 (fun w hw => pmod_spec 20 (dig (A * N)) (fun i _ => dig_lt _ i) (by decide) _ w (Rd.arr hw 0 rfl (Nat.le_refl _)))) ?_
      rintro vm _ ⟨em, hrm, rfl⟩
      rw [psum_digA _ _ (Nat.mul_lt_mul_of_lt_of_le (P10' hA) (Nat.le_of_lt (P10' hN)) (by decide))] at hrm
      dsimp only [put, List.append_nil, List.set, ev, nth, List.nil_append, List.cons_append, md, Nat.reducePow, Nat.reduceAdd, Nat.reduceMul]
      refine WL_det rfl (det_assign) ?_
      dsimp only [put, List.set, ev, nth, List.nil_append, List.cons_append, md, Nat.reducePow, Nat.reduceAdd, Nat.reduceMul]
      refine WL_nil ?_
      refine WC_ret ?_
      refine fin_tmp Try.results54 rfl ([em]) (.cons _ (List.Sublist.refl _)) ?_
      exact ⟨_, hrm, rfl⟩

end Go.Proofs.Ytpmldkhgdpchjaa
