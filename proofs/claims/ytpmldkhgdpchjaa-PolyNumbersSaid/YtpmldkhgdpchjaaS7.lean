/- Walks of the Go functions, printed by a program of this claim. Conditions: none. -/
import Derived.Test.YtpmldkhgdpchjaaS6
set_option linter.unusedVariables false
namespace Go.Proofs.Ytpmldkhgdpchjaa
open Go.MW
set_option maxRecDepth 100000 in
set_option maxHeartbeats 1000000 in
theorem mod_spec (n : Nat) (f : Nat → Nat) (hf : ∀ i, i < n → f i < 65536) (hn : n ≤ 1000) (va : Value) (w : World) (ha : Rd w .i64 n f va) :
    Calls Try.prog 72 [va].toArray w (Post w (fun v m => ∃ e, RowN .i64 3 16 (dig (psum f n % Qn)) v e ∧ m = [e])) := by
  obtain ⟨p1, c1, b1, o1, rfl, hp1, hx1⟩ := ha
  have hQ17 : 2 * Qn ≤ 65536 ^ 17 := by decide +kernel
  refine calls_of_WC Try.func72 rfl ?_
  simp only [Try.ntmps72, List.length_cons, List.length_nil, Nat.reduceAdd, Nat.reduceSub, List.replicate, List.cons_append, List.nil_append]
  refine WC_seq ?_
  refine WC_region ?_
  refine WL_det rfl (det_assign) ?_
  dsimp only [put, List.set, ev, nth, List.nil_append, List.cons_append, md, Nat.reducePow, Nat.reduceAdd, Nat.reduceMul]
  refine WL_nil ?_
  refine WC_seq ?_
  refine WC_region ?_
  refine WL_rel rfl (Rel_call rfl Try.call26 (fun w hw => q_spec w)) ?_
  rintro _ _ ⟨b0, rfl, rfl⟩
  dsimp only [put, List.append_nil, List.set, ev, nth, List.nil_append, List.cons_append, md, Nat.reducePow, Nat.reduceAdd, Nat.reduceMul]
  refine WL_det rfl (det_assign) ?_
  dsimp only [put, List.set, ev, nth, List.nil_append, List.cons_append, md, Nat.reducePow, Nat.reduceAdd, Nat.reduceMul]
  refine WL_nil ?_
  refine WC_seq ?_
  refine WC_region ?_
  refine WL_det rfl (det_move) ?_
  dsimp only [put, List.set, ev, nth, List.nil_append, List.cons_append, md, Nat.reducePow, Nat.reduceAdd, Nat.reduceMul]
  refine WL_rel rfl (rel_lit1 Try.underlying47 Try.zeroValue3 Try.sizeOf3 rfl rfl) ?_
  rintro _ _ ⟨bl, rfl, rfl⟩
  dsimp only [put, List.set, ev, nth, List.nil_append, List.cons_append, md, Nat.reducePow, Nat.reduceAdd, Nat.reduceMul]
  refine WL_chg rfl (chg_append1 0 1 rfl (RowN.ofArr (by decide)) rfl rfl rfl rfl Try.underlying47 ei3 rfl (by decide) (by decide)) ?_
  rintro v13 _ ⟨e13, hr13, rfl⟩
  dsimp only [put, List.eraseIdx, List.set, ev, nth, List.nil_append, List.cons_append, md, Nat.reducePow, Nat.reduceAdd, Nat.reduceMul]
  have hr13 : RowN .i64 3 17 (dig Qn) v13 e13 := RowN.snoc hr13 (q_top 16 (by decide)).symm
  refine WL_det rfl (det_assign) ?_
  dsimp only [put, List.set, ev, nth, List.nil_append, List.cons_append, md, Nat.reducePow, Nat.reduceAdd, Nat.reduceMul]
  refine WL_nil ?_
  refine WC_seq ?_
  refine WC_region ?_
  refine WL_rel rfl (rel_make Try.underlying47 ei3 rfl rfl (by decide) (by decide)) ?_
  rintro _ _ ⟨b1, rfl, rfl⟩
  dsimp only [put, List.set, ev, nth, List.nil_append, List.cons_append, md, Nat.reducePow, Nat.reduceAdd, Nat.reduceMul]
  refine WL_det rfl (det_assign) ?_
  dsimp only [put, List.set, ev, nth, List.nil_append, List.cons_append, md, Nat.reducePow, Nat.reduceAdd, Nat.reduceMul]
  refine WL_nil ?_
  refine WC_seq ?_
  refine WC_seq ?_
  refine WC_region ?_
  refine WL_det rfl (det_move) ?_
  dsimp only [put, List.set, ev, nth, List.nil_append, List.cons_append, md, Nat.reducePow, Nat.reduceAdd, Nat.reduceMul]
  refine WL_det rfl (det_len Try.underlying47 rfl) ?_
  dsimp only [put, List.set, ev, nth, List.nil_append, List.cons_append, md, Nat.reducePow, Nat.reduceAdd, Nat.reduceMul]
  refine WL_det rfl (det_subz rfl rfl rfl (by omega) (by omega)) ?_
  dsimp only [put, List.set, ev, nth, List.nil_append, List.cons_append, md, Nat.reducePow, Nat.reduceAdd, Nat.reduceMul]
  refine WL_det rfl (det_assign) ?_
  dsimp only [put, List.set, ev, nth, List.nil_append, List.cons_append, md, Nat.reducePow, Nat.reduceAdd, Nat.reduceMul]
  refine WL_nil ?_
  refine WC_block ?_
  refine WC_loopS (ι := Nat × Value × (Option Nat × Obj)) [18, 19, 6, 22, 23, 26, 27, 28, 29, 30, 31, 32, 7, 8, 33, 34, 37, 38, 39, 40, 41, 42, 43, 9, 44, 45, 46, 47, 48, 49, 50, 35, 36, 51, 52, 53, 54, 55, 56, 24, 25, 20, 21] (fun x => [(5, .int .i64 ((x.1 : Int) - 1)), (4, x.2.1)]) (fun x => [(1, x.2.2)]) (fun x => x.1 ≤ n ∧ RowN .i64 3 17 (dig (psum f n / 2 ^ (16 * x.1) % Qn)) x.2.1 x.2.2) (fun x => x.1) (n, .slice (some ⟨b1, 0, none⟩) 17 17, (some b1, .cells (arr .i64 17 fun _ => 0) 3 (0, 0))) ?_ ?_ ?_ ?_
  · rfl
  · rfl
  · exact ⟨Nat.le_refl _, by rw [psum_small f n hf, Nat.zero_mod]; exact RowN.congr (RowN.ofArr (by decide)) fun i _ => (dig_zero i).symm⟩
  · rintro ⟨j, v4, e4⟩ g ⟨hj, hr4⟩
    dsimp only [setAll, setG, setM, List.set]
    refine WC_seq ?_
    refine WC_seq ?_
    refine WC_region ?_
    refine WL_det rfl (det_move) ?_
    dsimp only [put, List.set, ev, nth, List.nil_append, List.cons_append, md, Nat.reducePow, Nat.reduceAdd, Nat.reduceMul]
    refine WL_det rfl (det_geqz rfl rfl) ?_
    dsimp only [put, List.set, ev, nth, List.nil_append, List.cons_append, md, Nat.reducePow, Nat.reduceAdd, Nat.reduceMul]
    refine WL_nil ?_
    refine WC_cond rfl (fun hc0 => ?_) (fun hc0 => ?_)
    · have hc0 := of_decide_eq_true hc0
      obtain ⟨j, rfl⟩ : ∃ j', j = j' + 1 := ⟨j - 1, by omega⟩
      rw [show ((j + 1 : Nat) : Int) - 1 = (j : Int) from by omega]
      have hfj := hf j (by omega)
      refine WC_skip ?_
      refine WC_seq ?_
      refine WC_block ?_
      refine WC_seq ?_
      refine WC_region ?_
      refine WL_det rfl (det_assign) ?_
      dsimp only [put, List.set, ev, nth, List.nil_append, List.cons_append, md, Nat.reducePow, Nat.reduceAdd, Nat.reduceMul]
      refine WL_nil ?_
      refine WC_block ?_
      refine WC_loopS (ι := Nat × Value × (Option Nat × Obj)) [22, 23, 26, 27, 28, 29, 30, 31, 32, 7, 8, 33, 34, 37, 38, 39, 40, 41, 42, 43, 9, 44, 45, 46, 47, 48, 49, 50, 35, 36, 51, 52, 53, 54, 55, 56, 24, 25] (fun x => [(6, vn .i64 (bt x.1)), (4, x.2.1)]) (fun x => [(1, x.2.2)]) (fun x => x.1 ≤ 16 ∧ RowN .i64 3 17 (dig (psum f n / 2 ^ (16 * j + x.1) % Qn)) x.2.1 x.2.2) (fun x => x.1) (16, v4, e4) ?_ ?_ ?_ ?_
      · dsimp only
        rw [show bt 16 = 32768 from rfl]
        try rfl
      · rfl
      · exact ⟨Nat.le_refl _, hr4⟩
      · rintro ⟨t, v4, e4⟩ g ⟨ht, hr4⟩
        dsimp only [setAll, setG, setM, List.set]
        refine WC_seq ?_
        refine WC_seq ?_
        refine WC_region ?_
        refine WL_det rfl (det_move) ?_
        dsimp only [put, List.set, ev, nth, List.nil_append, List.cons_append, md, Nat.reducePow, Nat.reduceAdd, Nat.reduceMul]
        refine WL_det rfl (det_gtr (q := 0) rfl rfl) ?_
        dsimp only [put, List.set, ev, nth, List.nil_append, List.cons_append, md, Nat.reducePow, Nat.reduceAdd, Nat.reduceMul]
        refine WL_nil ?_
        refine WC_cond rfl (fun hc1 => ?_) (fun hc1 => ?_)
        · have hc1 := of_decide_eq_true hc1
          obtain ⟨t, rfl⟩ := bt_pos hc1
          rw [bt_succ]
          refine WC_skip ?_
          refine WC_seq ?_
          refine WC_block ?_
          refine WC_seq ?_
          refine WC_region ?_
          have hp2 := Nat.two_pow_pos t
          have hp3 : 2 ^ t ≤ 2 ^ 15 := Nat.pow_le_pow_right (by decide) (by omega)
          have hfj2 : f j / 2 ^ t ≤ f j := Nat.div_le_self _ _
          refine WL_det rfl (det_move) ?_
          dsimp only [put, List.set, ev, nth, List.nil_append, List.cons_append, md, Nat.reducePow, Nat.reduceAdd, Nat.reduceMul]
          refine WL_det rfl (det_move) ?_
          dsimp only [put, List.set, ev, nth, List.nil_append, List.cons_append, md, Nat.reducePow, Nat.reduceAdd, Nat.reduceMul]
          refine WL_det rfl (det_idxS Try.underlying47 Try.sizeOf3 rfl rfl (rfl) (by omega) (hp1 (by omega))) ?_
          dsimp only [put, List.set, ev, nth, List.nil_append, List.cons_append, md, Nat.reducePow, Nat.reduceAdd, Nat.reduceMul]
          refine WL_det rfl (det_loadF Try.isAgg3 rfl (hx1 _ (by omega))) ?_
          dsimp only [put, List.set, ev, nth, List.nil_append, List.cons_append, md, Nat.reducePow, Nat.reduceAdd, Nat.reduceMul]
          refine WL_det rfl (det_move) ?_
          dsimp only [put, List.set, ev, nth, List.nil_append, List.cons_append, md, Nat.reducePow, Nat.reduceAdd, Nat.reduceMul]
          refine WL_det rfl (det_quoi rfl rfl (by omega) (.inr ⟨rfl, by omega⟩) (.inl rfl)) ?_
          dsimp only [put, List.set, ev, nth, List.nil_append, List.cons_append, md, Nat.reducePow, Nat.reduceAdd, Nat.reduceMul]
          refine WL_det rfl (det_remi (q := 2) rfl rfl (by omega)) ?_
          dsimp only [put, List.set, ev, nth, List.nil_append, List.cons_append, md, Nat.reducePow, Nat.reduceAdd, Nat.reduceMul]
          refine WL_det rfl (det_assign) ?_
          dsimp only [put, List.set, ev, nth, List.nil_append, List.cons_append, md, Nat.reducePow, Nat.reduceAdd, Nat.reduceMul]
          refine WL_nil ?_
          refine WC_seq ?_
          refine WC_seq ?_
          refine WC_region ?_
          refine WL_det rfl (det_assign) ?_
          dsimp only [put, List.set, ev, nth, List.nil_append, List.cons_append, md, Nat.reducePow, Nat.reduceAdd, Nat.reduceMul]
          refine WL_nil ?_
          refine WC_block ?_
          obtain ⟨b4, c4, cur4, rfl, rfl, hle4, hmx4, hsz4, hcur4⟩ := RowV.pos hr4 (by decide)
          obtain ⟨X, hX⟩ : ∃ X, X = psum f n / 2 ^ (16 * j + t + 1) % Qn := ⟨_, rfl⟩
          obtain ⟨bit, hbit⟩ : ∃ bit, bit = f j / 2 ^ t % 2 := ⟨_, rfl⟩
          rw [← hbit]
          have hcurX : ∀ i, i < 17 → cur4[i]? = some (vn .i64 (dig X i)) := fun i hi => by rw [hX]; exact hcur4 i hi
          have hXQ : X < Qn := by rw [hX]; exact Nat.mod_lt _ Qn_pos
          have hbit2 : bit < 2 := by rw [hbit]; exact Nat.mod_lt _ (by decide)
          have hlt : 2 * X + bit < 2 * Qn := by omega
          refine WC_loopS (ι := Nat × Array Value) [33, 34, 37, 38, 39, 40, 41, 42, 43, 9, 44, 45, 46, 47, 48, 49, 50, 35, 36] (fun x => [(8, vn .i64 (x.1)), (7, vn .i64 (mcc 2 X bit x.1))]) (fun x => [(1, (some b4, .cells x.2 3 (0, 0)))]) (fun x => x.1 ≤ 17 ∧ x.2.size = c4 ∧ ∀ i, i < 17 → x.2[i]? = some (vn .i64 (mcf 2 X bit x.1 i))) (fun x => 17 - x.1) (0, cur4) ?_ ?_ ?_ ?_
          · rw [mcc_zero]
            try rfl
          · rfl
          · exact ⟨Nat.zero_le _, hsz4, fun i hi => by rw [mcf_zero]; exact hcurX i hi⟩
          · rintro ⟨k, cur⟩ g ⟨hk, hsz, hcur⟩
            dsimp only [setAll, setG, setM, List.set]
            dsimp only at hk hsz hcur
            have hd := dig_lt X k
            have hcc := mcc_lt 2 X bit k hbit2
            refine WC_seq ?_
            refine WC_seq ?_
            refine WC_region ?_
            refine WL_det rfl (det_move) ?_
            dsimp only [put, List.set, ev, nth, List.nil_append, List.cons_append, md, Nat.reducePow, Nat.reduceAdd, Nat.reduceMul]
            refine WL_det rfl (det_lss (q := 17) rfl rfl) ?_
            dsimp only [put, List.set, ev, nth, List.nil_append, List.cons_append, md, Nat.reducePow, Nat.reduceAdd, Nat.reduceMul]
            refine WL_nil ?_
            refine WC_cond rfl (fun hc2 => ?_) (fun hc2 => ?_)
            · have hc2 := of_decide_eq_true hc2
              refine WC_skip ?_
              refine WC_seq ?_
              refine WC_block ?_
              refine WC_seq ?_
              refine WC_region ?_
              refine WL_det rfl (det_move) ?_
              dsimp only [put, List.set, ev, nth, List.nil_append, List.cons_append, md, Nat.reducePow, Nat.reduceAdd, Nat.reduceMul]
              refine WL_det rfl (det_move) ?_
              dsimp only [put, List.set, ev, nth, List.nil_append, List.cons_append, md, Nat.reducePow, Nat.reduceAdd, Nat.reduceMul]
              refine WL_det rfl (det_idxS0 Try.underlying47 Try.sizeOf3 rfl rfl (rfl) (by omega)) ?_
              dsimp only [put, List.set, ev, nth, List.nil_append, List.cons_append, md, Nat.reducePow, Nat.reduceAdd, Nat.reduceMul]
              refine WL_det rfl (det_load 1 Try.isAgg3 rfl rfl (hcur _ (by omega))) ?_
              dsimp only [put, List.set, ev, nth, List.nil_append, List.cons_append, md, Nat.reducePow, Nat.reduceAdd, Nat.reduceMul]
              rw [mcf_at]
              refine WL_det rfl (det_muli (p := 2) rfl rfl (by omega)) ?_
              dsimp only [put, List.set, ev, nth, List.nil_append, List.cons_append, md, Nat.reducePow, Nat.reduceAdd, Nat.reduceMul]
              refine WL_det rfl (det_move) ?_
              dsimp only [put, List.set, ev, nth, List.nil_append, List.cons_append, md, Nat.reducePow, Nat.reduceAdd, Nat.reduceMul]
              refine WL_det rfl (det_addi rfl rfl (by omega)) ?_
              dsimp only [put, List.set, ev, nth, List.nil_append, List.cons_append, md, Nat.reducePow, Nat.reduceAdd, Nat.reduceMul]
              refine WL_det rfl (det_assign) ?_
              dsimp only [put, List.set, ev, nth, List.nil_append, List.cons_append, md, Nat.reducePow, Nat.reduceAdd, Nat.reduceMul]
              refine WL_nil ?_
              refine WC_seq ?_
              refine WC_region ?_
              refine WL_det rfl (det_move) ?_
              dsimp only [put, List.set, ev, nth, List.nil_append, List.cons_append, md, Nat.reducePow, Nat.reduceAdd, Nat.reduceMul]
              refine WL_det rfl (det_move) ?_
              dsimp only [put, List.set, ev, nth, List.nil_append, List.cons_append, md, Nat.reducePow, Nat.reduceAdd, Nat.reduceMul]
              refine WL_det rfl (det_move) ?_
              dsimp only [put, List.set, ev, nth, List.nil_append, List.cons_append, md, Nat.reducePow, Nat.reduceAdd, Nat.reduceMul]
              refine WL_det rfl (det_remi (q := 65536) rfl rfl (by omega)) ?_
              dsimp only [put, List.set, ev, nth, List.nil_append, List.cons_append, md, Nat.reducePow, Nat.reduceAdd, Nat.reduceMul]
              refine WL_det rfl (det_idxS0 Try.underlying47 Try.sizeOf3 rfl rfl (rfl) (by omega)) ?_
              dsimp only [put, List.set, ev, nth, List.nil_append, List.cons_append, md, Nat.reducePow, Nat.reduceAdd, Nat.reduceMul]
              refine WL_chg rfl (chg_store 1 Try.sizeOf3 rfl rfl (by omega) rfl rfl) ?_
              rintro _ _ rfl
              dsimp only [put, List.set, ev, nth, List.nil_append, List.cons_append, md, Nat.reducePow, Nat.reduceAdd, Nat.reduceMul]
              refine WL_nil ?_
              refine WC_region ?_
              refine WL_det rfl (det_move) ?_
              dsimp only [put, List.set, ev, nth, List.nil_append, List.cons_append, md, Nat.reducePow, Nat.reduceAdd, Nat.reduceMul]
              refine WL_det rfl (det_quoi (q := 65536) rfl rfl (by omega) (.inr ⟨rfl, by omega⟩) (.inl rfl)) ?_
              dsimp only [put, List.set, ev, nth, List.nil_append, List.cons_append, md, Nat.reducePow, Nat.reduceAdd, Nat.reduceMul]
              refine WL_det rfl (det_assign) ?_
              dsimp only [put, List.set, ev, nth, List.nil_append, List.cons_append, md, Nat.reducePow, Nat.reduceAdd, Nat.reduceMul]
              refine WL_nil ?_
              refine WC_region ?_
              refine WL_det rfl (det_move) ?_
              dsimp only [put, List.set, ev, nth, List.nil_append, List.cons_append, md, Nat.reducePow, Nat.reduceAdd, Nat.reduceMul]
              refine WL_det rfl (det_addi (q := 1) rfl rfl (by omega)) ?_
              dsimp only [put, List.set, ev, nth, List.nil_append, List.cons_append, md, Nat.reducePow, Nat.reduceAdd, Nat.reduceMul]
              refine WL_det rfl (det_assign) ?_
              dsimp only [put, List.set, ev, nth, List.nil_append, List.cons_append, md, Nat.reducePow, Nat.reduceAdd, Nat.reduceMul]
              refine WL_nil ?_
              refine ⟨(k + 1, cur.setIfInBounds k (vn .i64 ((2 * dig X k + mcc 2 X bit k) % 65536))), ?_, ?_, ?_, ?_⟩
              · rw [mc_carry]
                try rfl
              · rfl
              · exact ⟨by omega, by simp only [Array.size_setIfInBounds]; exact hsz, by have h := cur_set (p := (2 * dig X k + mcc 2 X bit k) % 65536) hle4 hsz (show k < 17 by omega) hcur; rw [mc_dig, mcf_succ] at h; rw [mc_dig]; exact h⟩
              · omega
            · have hc2 := of_decide_eq_false hc2
              obtain rfl : k = 17 := by omega
              have hrow : RowN .i64 3 17 (dig (2 * X + bit)) (.slice (some ⟨b4, 0, none⟩) 17 c4) (some b4, .cells cur 3 (0, 0)) := RowN.mk hle4 hmx4 hsz fun i hi => by rw [hcur i hi]; unfold mcf; rw [if_pos hi]
              refine WC_exit ?_
              refine inB_same ?_
              refine WC_seq ?_
              refine WC_region ?_
              refine WL_det rfl (det_move) ?_
              dsimp only [put, List.set, ev, nth, List.nil_append, List.cons_append, md, Nat.reducePow, Nat.reduceAdd, Nat.reduceMul]
              refine WL_det rfl (det_move) ?_
              dsimp only [put, List.set, ev, nth, List.nil_append, List.cons_append, md, Nat.reducePow, Nat.reduceAdd, Nat.reduceMul]
              refine WL_rel rfl (Rel_call rfl Try.call28 (fun w hw => atleast_spec (2 * X + bit) Qn 17 (by omega) (by omega) (by decide) _ _ w (Rd.row hw 1 rfl hrow) (Rd.row hw 0 rfl hr13))) ?_
              rintro _ _ ⟨rfl, rfl⟩
              dsimp only [put, List.append_nil, List.set, ev, nth, List.nil_append, List.cons_append, md, Nat.reducePow, Nat.reduceAdd, Nat.reduceMul]
              refine WL_nil ?_
              refine WC_cond rfl (fun hc3 => ?_) (fun hc3 => ?_)
              · have hc3 := of_decide_eq_true hc3
                refine WC_region ?_
                refine WL_det rfl (det_move) ?_
                dsimp only [put, List.set, ev, nth, List.nil_append, List.cons_append, md, Nat.reducePow, Nat.reduceAdd, Nat.reduceMul]
                refine WL_det rfl (det_move) ?_
                dsimp only [put, List.set, ev, nth, List.nil_append, List.cons_append, md, Nat.reducePow, Nat.reduceAdd, Nat.reduceMul]
                refine WL_rel rfl (Rel_call rfl Try.call81 (fun w hw => rless_spec (2 * X + bit) Qn 17 hc3 (by decide) _ _ w (Rd.row hw 1 rfl hrow) (Rd.row hw 0 rfl hr13))) ?_
                rintro v56 _ ⟨e56, hr56, rfl⟩
                have hr56 : RowN .i64 3 17 (dig ((2 * X + bit) % Qn)) v56 e56 := by rw [once_mod _ hc3 hlt]; exact hr56
                dsimp only [put, List.append_nil, List.set, ev, nth, List.nil_append, List.cons_append, md, Nat.reducePow, Nat.reduceAdd, Nat.reduceMul]
                refine WL.forget (.cons_cons _ (.cons _ (.cons_cons _ .slnil))) ?_
                refine WL_det rfl (det_assign) ?_
                dsimp only [put, List.set, ev, nth, List.nil_append, List.cons_append, md, Nat.reducePow, Nat.reduceAdd, Nat.reduceMul]
                refine WL_nil ?_
                refine WC_region ?_
                refine WL_det rfl (det_move) ?_
                dsimp only [put, List.set, ev, nth, List.nil_append, List.cons_append, md, Nat.reducePow, Nat.reduceAdd, Nat.reduceMul]
                refine WL_det rfl (det_quoi (q := 2) rfl rfl (by omega) (.inr ⟨rfl, by omega⟩) (.inl rfl)) ?_
                dsimp only [put, List.set, ev, nth, List.nil_append, List.cons_append, md, Nat.reducePow, Nat.reduceAdd, Nat.reduceMul]
                refine WL_det rfl (det_assign) ?_
                dsimp only [put, List.set, ev, nth, List.nil_append, List.cons_append, md, Nat.reducePow, Nat.reduceAdd, Nat.reduceMul]
                refine WL_nil ?_
                refine ⟨(t, v56, e56), ?_, ?_, ?_, ?_⟩
                · rfl
                · rfl
                · exact ⟨by omega, by rw [hX, hbit, tk_step _ _ _ _ (bit_psum f n j t hf (by omega) (by omega))] at hr56; exact hr56⟩
                · omega
              · have hc3 := of_decide_eq_false hc3
                obtain ⟨v56, hv56⟩ : ∃ v, v = Value.slice (some ⟨b4, 0, none⟩) 17 c4 := ⟨_, rfl⟩
                obtain ⟨e56, he56⟩ : ∃ e : Option Nat × Obj, e = (some b4, Obj.cells cur 3 (0, 0)) := ⟨_, rfl⟩
                have hr56 : RowN .i64 3 17 (dig ((2 * X + bit) % Qn)) v56 e56 := by subst hv56 he56; rw [Nat.mod_eq_of_lt (by omega)]; exact hrow
                rw [← hv56, ← he56]
                refine WC_skip ?_
                refine WC_region ?_
                refine WL_det rfl (det_move) ?_
                dsimp only [put, List.set, ev, nth, List.nil_append, List.cons_append, md, Nat.reducePow, Nat.reduceAdd, Nat.reduceMul]
                refine WL_det rfl (det_quoi (q := 2) rfl rfl (by omega) (.inr ⟨rfl, by omega⟩) (.inl rfl)) ?_
                dsimp only [put, List.set, ev, nth, List.nil_append, List.cons_append, md, Nat.reducePow, Nat.reduceAdd, Nat.reduceMul]
                refine WL_det rfl (det_assign) ?_
                dsimp only [put, List.set, ev, nth, List.nil_append, List.cons_append, md, Nat.reducePow, Nat.reduceAdd, Nat.reduceMul]
                refine WL_nil ?_
                refine ⟨(t, v56, e56), ?_, ?_, ?_, ?_⟩
                · rfl
                · rfl
                · exact ⟨by omega, by rw [hX, hbit, tk_step _ _ _ _ (bit_psum f n j t hf (by omega) (by omega))] at hr56; exact hr56⟩
                · omega
        · have hc1 := of_decide_eq_false hc1
          obtain rfl := bt_none hc1
          refine WC_exit ?_
          refine inB_same ?_
          refine WC_region ?_
          refine WL_det rfl (det_move) ?_
          dsimp only [put, List.set, ev, nth, List.nil_append, List.cons_append, md, Nat.reducePow, Nat.reduceAdd, Nat.reduceMul]
          refine WL_det rfl (det_subz rfl rfl rfl (by omega) (by omega)) ?_
          dsimp only [put, List.set, ev, nth, List.nil_append, List.cons_append, md, Nat.reducePow, Nat.reduceAdd, Nat.reduceMul]
          refine WL_det rfl (det_assign) ?_
          dsimp only [put, List.set, ev, nth, List.nil_append, List.cons_append, md, Nat.reducePow, Nat.reduceAdd, Nat.reduceMul]
          refine WL_nil ?_
          refine ⟨(j, v4, e4), ?_, ?_, ?_, ?_⟩
          · rfl
          · rfl
          · exact ⟨by omega, hr4⟩
          · omega
    · have hc0 := of_decide_eq_false hc0
      obtain rfl : j = 0 := by omega
      rw [Nat.mul_zero, Nat.pow_zero, Nat.div_one] at hr4
      obtain ⟨b4, c4, cur4, rfl, rfl, hle4, hmx4, hsz4, hcur4⟩ := RowV.pos hr4 (by decide)
      refine WC_exit ?_
      refine inB_same ?_
      refine WC_seq ?_
      refine WC_region ?_
      refine WL_det rfl (det_move) ?_
      dsimp only [put, List.set, ev, nth, List.nil_append, List.cons_append, md, Nat.reducePow, Nat.reduceAdd, Nat.reduceMul]
      refine WL_det rfl (det_cutTo (h := 16) Try.underlying47 Try.sizeOf3 rfl rfl (by omega)) ?_
      dsimp only [put, List.set, ev, nth, List.nil_append, List.cons_append, md, Nat.reducePow, Nat.reduceAdd, Nat.reduceMul]
      refine WL_det rfl (det_assign) ?_
      dsimp only [put, List.set, ev, nth, List.nil_append, List.cons_append, md, Nat.reducePow, Nat.reduceAdd, Nat.reduceMul]
      refine WL_nil ?_
      refine WC_ret ?_
      refine fin_tmp Try.results72 rfl ([(some b4, .cells cur4 3 (0, 0))]) (.cons _ (List.Sublist.refl _)) ?_
      exact ⟨_, RowN.mk (by omega) hmx4 hsz4 (fun i hi => hcur4 i (by omega)), rfl⟩

end Go.Proofs.Ytpmldkhgdpchjaa
