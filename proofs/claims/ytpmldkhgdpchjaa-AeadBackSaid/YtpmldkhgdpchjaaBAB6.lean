/- What the claim of this folder needs of its texts, put together by a program of this claim. Conditions: none. -/
import Derived.Test.YtpmldkhgdpchjaaBAB5
set_option linter.unusedVariables false
namespace Go.Proofs.Ytpmldkhgdpchjaa
open Go.MW
set_option maxRecDepth 100000 in
set_option maxHeartbeats 400000 in
theorem stream_spec (K N C : Nat) (w : World) :
    Calls Try.prog 21 [.agg (arr .u8 32 (byt K)), .agg (arr .u8 12 (byt N)), vn .u32 C].toArray w (Post w (fun v m => ∃ b0 b1 b2, v = .func (.func 67) #[] #[.pointer (some ⟨b2, 0, none⟩), .pointer (some ⟨b0, 0, none⟩), .pointer (some ⟨b1, 0, none⟩)] ∧ m = [(some b0, .cells (arr .u8 32 (byt K)) 22 (0, 0)), (some b1, .cells (arr .u8 12 (byt N)) 23 (0, 0)), (some b2, .cells #[vn .u32 C] 24 (0, 0))])) := by
  refine calls_of_WC Try.func21 rfl ?_
  simp only [Try.ntmps21, List.length_cons, List.length_nil, Nat.reduceAdd, Nat.reduceSub, List.replicate, List.cons_append, List.nil_append]
  refine WC_seq ?_
  refine WC_region ?_
  refine WL_rel rfl (rel_box rfl rfl) ?_
  rintro _ _ ⟨b0, rfl, rfl⟩
  dsimp only [put, List.set, ev, nth, List.nil_append, List.cons_append, md, Nat.reducePow, Nat.reduceAdd, Nat.reduceMul]
  refine WL_rel rfl (rel_box rfl rfl) ?_
  rintro _ _ ⟨b1, rfl, rfl⟩
  dsimp only [put, List.set, ev, nth, List.nil_append, List.cons_append, md, Nat.reducePow, Nat.reduceAdd, Nat.reduceMul]
  refine WL_rel rfl (rel_box rfl rfl) ?_
  rintro _ _ ⟨b2, rfl, rfl⟩
  dsimp only [put, List.set, ev, nth, List.nil_append, List.cons_append, md, Nat.reducePow, Nat.reduceAdd, Nat.reduceMul]
  refine WL_det rfl (det_assign) ?_
  dsimp only [put, List.set, ev, nth, List.nil_append, List.cons_append, md, Nat.reducePow, Nat.reduceAdd, Nat.reduceMul]
  refine WL_nil ?_
  refine WC_seq ?_
  refine WC_region ?_
  refine WL_det rfl (det_makeFunc) ?_
  dsimp only [put, List.set, ev, nth, List.nil_append, List.cons_append, md, Nat.reducePow, Nat.reduceAdd, Nat.reduceMul]
  refine WL_det rfl (det_assign) ?_
  dsimp only [put, List.set, ev, nth, List.nil_append, List.cons_append, md, Nat.reducePow, Nat.reduceAdd, Nat.reduceMul]
  refine WL_nil ?_
  refine WC_ret ?_
  refine fin_tmp Try.results21 rfl (_) (List.Sublist.refl _) ?_
  exact ⟨b0, b1, b2, rfl, rfl⟩

end Go.Proofs.Ytpmldkhgdpchjaa

namespace Go.Proofs.Ytpmldkhgdpchjaa
open Go.MW

/-- The i-th byte of the stream from count C on. -/
def strm (K N C i : Nat) : Nat := blkb K N (C + i / 64) (i % 64)
theorem strm_lt (K N C i : Nat) : strm K N C i < 256 := b4_lt _ _
abbrev B8 := {x : Nat // x < 256}
def upTo (K N C k : Nat) : List B8 := (List.range k).map fun i => ⟨strm K N C i, strm_lt K N C i⟩
theorem upTo_succ (K N C k : Nat) : upTo K N C (k + 1) = upTo K N C k ++ [⟨strm K N C k, strm_lt K N C k⟩] := by simp [upTo, List.range_succ]
/-- The i-th of what has come. -/
def gd (l : List B8) (i : Nat) : Nat := match l[i]? with | some x => x.1 | none => 0
theorem gd_old (l : List B8) (a : B8) {i : Nat} (h : i < l.length) : gd (l ++ [a]) i = gd l i := by unfold gd; rw [List.getElem?_append_left h]
theorem gd_new (l : List B8) (a : B8) : gd (l ++ [a]) l.length = a.1 := by simp [gd]
theorem gd_upTo (K N C k : Nat) {i : Nat} (h : i < k) : gd (upTo K N C k) i = strm K N C i := by simp [gd, upTo, h]
theorem upTo_len (K N C k : Nat) : (upTo K N C k).length = k := by simp [upTo]

set_option maxRecDepth 100000 in
set_option maxHeartbeats 1000000 in
theorem stream_seq (K N C : Nat) (hC : C < 4294967296) (b0 b1 b2 : Nat) (w : World) (h0 : w.heap[b0]? = some (.cells (arr .u8 32 (byt K)) 22 (0, 0))) (h1 : w.heap[b1]? = some (.cells (arr .u8 12 (byt N)) 23 (0, 0))) (h2 : w.heap[b2]? = some (.cells #[vn .u32 C] 24 (0, 0))) :
    SeqStopsK Fence.wide 2 Try.prog 67 #[.pointer (some ⟨b2, 0, none⟩), .pointer (some ⟨b0, 0, none⟩), .pointer (some ⟨b1, 0, none⟩)] (fun x : B8 => #[vn .u8 x.1]) (CapK [b0, b1, b2])
      (fun xs => xs = upTo K N C (64 * (4294967296 - C))) (fun pre => ∃ k, k ≤ 64 * (4294967296 - C) ∧ pre = upTo K N C k) (64 * (4294967296 - C)) w := by
  intro l J Jx W hW hJ hJx hY hJ0
  refine callsIn_of_SC [.func (.yield l) #[] #[], .pointer (some ⟨b2, 0, none⟩), .pointer (some ⟨b0, 0, none⟩), .pointer (some ⟨b1, 0, none⟩)] rfl Try.func67 rfl ?_
  simp only [Try.ntmps67, List.length_cons, List.length_nil, Nat.reduceAdd, Nat.reduceSub, List.replicate, List.cons_append, List.nil_append]
  obtain ⟨St, hSt⟩ : ∃ St : World → Prop, St = fun W' => W'.heap[b0]? = some (.cells (arr .u8 32 (byt K)) 22 (0, 0)) ∧ W'.heap[b1]? = some (.cells (arr .u8 12 (byt N)) 23 (0, 0)) ∧ W'.heap[b2]? = some (.cells #[vn .u32 C] 24 (0, 0)) := ⟨_, rfl⟩
  have S0 : St W := by
    rw [hSt]
    exact ⟨(hW.block b0 (lt_of_heap h0)).trans h0, (hW.block b1 (lt_of_heap h1)).trans h1, (hW.block b2 (lt_of_heap h2)).trans h2⟩
  have Snext : ∀ {W1 W2 : World} {m : Mem}, Has W1 m W2 → St W1 → St W2 := by
    intro W1 W2 m hh hs
    rw [hSt] at hs ⊢
    exact ⟨hh.farBlk hs.1, hh.farBlk hs.2.1, hh.farBlk hs.2.2⟩
  have Scap : ∀ {W1 W2 : World}, CapK [b0, b1, b2] W1 W2 → St W1 → St W2 := by
    intro W1 W2 hh hs
    rw [hSt] at hs ⊢
    exact ⟨(hh b0 (by simp)).trans hs.1, (hh b1 (by simp)).trans hs.2.1, (hh b2 (by simp)).trans hs.2.2⟩
  have e2 : ∀ {W1 : World}, St W1 → W1.cell? ⟨b2, 0, none⟩ = some (vn .u32 C) := by
    intro W1 hs; rw [hSt] at hs; simp [World.cell?, hs.2.2]
  have e0 : ∀ {W1 : World}, St W1 → ∀ w', Has W1 [] w' → ∀ j, j < 32 → w'.cell? ⟨b0, 0 + j, none⟩ = some (vn .u8 (byt K j)) := by
    intro W1 hs w' hw j hj; rw [hSt] at hs; simp [World.cell?, hw.farBlk hs.1, arr_get _ _ _ hj]
  have e1 : ∀ {W1 : World}, St W1 → ∀ w', Has W1 [] w' → ∀ j, j < 12 → w'.cell? ⟨b1, 0 + j, none⟩ = some (vn .u8 (byt N j)) := by
    intro W1 hs w' hw j hj; rw [hSt] at hs; simp [World.cell?, hw.farBlk hs.2.1, arr_get _ _ _ hj]
  refine SC_seq ?_
  refine SC_regionW ?_
  refine WL_det rfl (det_loadF Try.isAgg24 rfl (e2 S0)) ?_
  dsimp only [put, List.set, ev, nth, md]
  refine WL_det rfl (det_conv' Try.underlying99 Try.underlying24 rfl rfl (by simp only [md]; omega)) ?_
  dsimp only [put, List.set, ev, nth, md]
  refine WL_det rfl (det_assign) ?_
  dsimp only [put, List.set, ev, nth, md]
  refine WL_nil ?_
  intro W1 hW1
  have S1 := Snext hW1 S0
  have J1 := abides_of hJ hW1 hJ0
  clear hW1
  refine SC_block ?_
  refine SC_loopS (ι := Nat) [7, 10, 11, 12, 13, 14, 15, 16, 17, 18, 19, 20, 21, 22, 23, 24, 25, 26] (fun k => [(5, vn .u64 (C + k))]) (fun k W' => C + k ≤ 4294967296 ∧ St W' ∧ J (upTo K N C (64 * k)) W') (fun k => 4294967296 - (C + k)) 0 rfl ⟨by omega, S1, J1⟩ ?_
  clear S1 J1 S0 hJ0
  rintro k g W2 ⟨hk, S2, J2⟩
  dsimp only [setAll, setG, List.set]
  refine SC_seq ?_
  refine SC_seq ?_
  refine SC_regionW ?_
  refine WL_det rfl (det_move) ?_
  dsimp only [put, List.set, ev, nth, md]
  refine WL_det rfl (det_leq (q := 4294967295) rfl rfl) ?_
  dsimp only [put, List.set, ev, nth, md]
  refine WL_nil ?_
  intro W3 hW3
  have S3 := Snext hW3 S2
  have J3 := abides_of hJ hW3 J2
  clear hW3 S2 J2
  refine SC_cond rfl (fun hc => ?_) (fun hc => ?_)
  rotate_left
  · have hc := of_decide_eq_false hc
    refine SC_exit ?_
    refine inBS_same ?_
    refine ⟨_, results_none Try.results67 _ _ _, ⟨_, rfl⟩, .inl ⟨_, rfl, ?_⟩⟩
    rw [show 4294967296 - C = k by omega]
    exact J3
  have hc := of_decide_eq_true hc
  refine SC_skip ?_
  refine SC_seq ?_
  refine SC_block ?_
  refine SC_seq ?_
  refine SC_regionW ?_
  refine WL_det rfl (det_loadRd Try.underlying22 i22 rfl (e0 S3)) ?_
  dsimp only [put, List.set, ev, nth, md]
  refine WL_det rfl (det_loadRd Try.underlying23 i23 rfl (e1 S3)) ?_
  dsimp only [put, List.set, ev, nth, md]
  refine WL_det rfl (det_move) ?_
  dsimp only [put, List.set, ev, nth, md]
  refine WL_det rfl (det_conv' (p := C + k) Try.underlying24 Try.underlying99 rfl rfl (by simp only [md]; omega)) ?_
  dsimp only [put, List.set, ev, nth, md]
  refine WL_rel rfl (Rel_call rfl Try.call18 (fun w hw => block_spec K N (C + k) (by omega) w)) ?_
  rintro _ _ ⟨rfl, rfl⟩
  dsimp only [put, List.append_nil, List.set, ev, nth, md]
  refine WL_det rfl (det_move) ?_
  dsimp only [put, List.set, ev, nth, md]
  refine WL_nil ?_
  intro W4 hW4
  have S4 := Snext hW4 S3
  have J4 := abides_of hJ hW4 J3
  clear hW4 S3 J3
  refine SC_block ?_
  refine SC_loopS (ι := Nat) [7, 20, 21, 22, 23, 24, 25, 26] (fun j => [(19, vn .i64 j)]) (fun j W' => j ≤ 64 ∧ St W' ∧ J (upTo K N C (64 * k + j)) W') (fun j => 64 - j) 0 rfl ⟨by omega, S4, J4⟩ ?_
  clear S4 J4
  rintro j g' W5 ⟨hj, S5, J5⟩
  dsimp only [setAll, setG, List.set]
  refine SC_seq ?_
  refine SC_regionW ?_
  refine WL_det rfl (det_lss (q := 64) rfl rfl) ?_
  dsimp only [put, List.set, ev, nth, md]
  refine WL_nil ?_
  intro W6 hW6
  have S6 := Snext hW6 S5
  have J6 := abides_of hJ hW6 J5
  clear hW6 S5 J5
  refine SC_seq ?_
  refine SC_cond rfl (fun hc => ?_) (fun hc => ?_)
  rotate_left
  · have hc := of_decide_eq_false hc
    refine SC_exit ?_
    refine inBS_same ?_
    refine SC_regionW ?_
    refine WL_det rfl (det_move) ?_
    dsimp only [put, List.set, ev, nth, md]
    refine WL_det rfl (det_add' (p := C + k) (q := 1) rfl rfl rfl (by simp only [md]; omega)) ?_
    dsimp only [put, List.set, ev, nth, md]
    refine WL_det rfl (det_assign) ?_
    dsimp only [put, List.set, ev, nth, md]
    refine WL_nil ?_
    intro W7 hW7
    refine ⟨k + 1, rfl, ⟨by omega, Snext hW7 S6, ?_⟩, by omega⟩
    have := abides_of hJ hW7 J6
    rwa [show 64 * k + j = 64 * (k + 1) by omega] at this
  have hc := of_decide_eq_true hc
  refine SC_skip ?_
  refine SC_seq ?_
  refine SC_block ?_
  refine SC_seq ?_
  refine SC_regionW ?_
  refine WL_det rfl (det_index (j := j) Try.underlying33 Try.sizeOf5 Try.isAgg5 rfl rfl rfl (by omega)) ?_
  dsimp only [put, List.set, ev, nth, md]
  refine WL_det rfl (det_assign) ?_
  dsimp only [put, List.set, ev, nth, md]
  refine WL_nil ?_
  intro W7 hW7
  have S7 := Snext hW7 S6
  have J7 := abides_of hJ hW7 J6
  clear hW7 S6 J6
  refine SC_seq ?_
  have hx : strm K N C (64 * k + j) = blkb K N (C + k) j := by
    unfold strm
    rw [show (64 * k + j) / 64 = k by omega, show (64 * k + j) % 64 = j by omega]
  have hY7 := hY _ ⟨strm K N C (64 * k + j), strm_lt K N C (64 * k + j)⟩ W7 J7 (by rw [upTo_len]; omega)
  rw [← upTo_succ] at hY7
  dsimp only at hY7
  rw [hx] at hY7
  refine SC_region ?_
  refine SL_det rfl (det_move) ?_
  dsimp only [put, List.set, ev, nth, md]
  refine SL_det rfl (det_move) ?_
  dsimp only [put, List.set, ev, nth, md]
  refine SL_yield rfl hY7 ?_
  rintro e W8 (⟨rfl, J8, C8⟩ | ⟨rfl, J8⟩)
  · refine ⟨_, rfl, ?_⟩
    dsimp only [put, List.set, ev, nth, md]
    refine SL_det rfl (det_not rfl) ?_
    dsimp only [put, List.set, ev, nth, md]
    refine SL_nil ?_
    refine SC_cond rfl (fun hc => by cases hc) (fun _ => ?_)
    refine SC_skip ?_
    refine SC_regionW ?_
    refine WL_det rfl (det_addi (q := 1) rfl rfl (by omega)) ?_
    dsimp only [put, List.set, ev, nth, md]
    refine WL_det rfl (det_move) ?_
    dsimp only [put, List.set, ev, nth, md]
    refine WL_nil ?_
    intro W9 hW9
    exact ⟨j + 1, rfl, ⟨by omega, Snext hW9 (Scap C8 S7), abides_of hJ hW9 J8⟩, by omega⟩
  · refine ⟨_, rfl, ?_⟩
    dsimp only [put, List.set, ev, nth, md]
    refine SL_det rfl (det_not rfl) ?_
    dsimp only [put, List.set, ev, nth, md]
    refine SL_nil ?_
    refine SC_cond rfl (fun _ => ?_) (fun hc => by cases hc)
    refine SC_ret ?_
    refine inBS_ret ?_
    refine inBS_ret ?_
    refine inBS_ret ?_
    refine inBS_ret ?_
    exact ⟨_, results_none Try.results67 _ _ _, ⟨_, rfl⟩, .inr ⟨_, ⟨64 * k + j + 1, by omega, rfl⟩, J8⟩⟩
end Go.Proofs.Ytpmldkhgdpchjaa

set_option linter.unusedVariables false
namespace Go.Proofs.Ytpmldkhgdpchjaa
open Go.MW
def hidb (K N C : Nat) (f : Nat → Nat) (i : Nat) : Nat := strm K N C i ^^^ f i
theorem at_last (m : Mem) (x : Option Nat × Obj) : (m ++ [x])[m.length]? = some x := by simp
theorem er_tail (mt : Mem) (x : Option Nat × Obj) : (mt ++ [x]).eraseIdx mt.length = mt := by
  rw [List.eraseIdx_append_of_length_le (Nat.le_refl _)]; simp
theorem row_gd {n : Nat} {f : Nat → Nat} {l : List B8} {v : Value} {e : Option Nat × Obj} (a : B8) (h : RowV 5 (l.length + 1) (catV (fun i => vn .u8 (gd l i ^^^ f i)) l.length (fun _ => vn .u8 (a.1 ^^^ f l.length))) v e) : RowN .u8 5 (l ++ [a]).length (fun i => gd (l ++ [a]) i ^^^ f i) v e := by
  rw [List.length_append, List.length_singleton]
  refine RowV.congr h fun i hi => ?_
  unfold catV
  split
  · rename_i h1; dsimp only; rw [gd_old l a h1]
  · dsimp only; rw [show i = l.length by omega, gd_new]

set_option maxRecDepth 100000 in
set_option maxHeartbeats 1000000 in
theorem hide_spec (K N C : Nat) (hC : C < 4294967296) (n : Nat) (f : Nat → Nat) (hf : ∀ i, i < n → f i < 256) (hn : n ≤ 1099511627776) (va : Value) (w : World) (ha : Rd w .u8 n f va) :
    Calls Try.prog 42 [.agg (arr .u8 32 (byt K)), .agg (arr .u8 12 (byt N)), vn .u32 C, va].toArray w (Post w (fun v m => ((1048576 < n ∨ 4294967296 - C < (n + 63) / 64) ∧ v = .tuple #[.slice none 0 0, vn .i64 3] ∧ m = []) ∨ ((n ≤ 1048576 ∧ (n + 63) / 64 ≤ 4294967296 - C) ∧ ∃ v1 e, v = .tuple #[v1, vn .i64 0] ∧ RowN .u8 5 n (hidb K N C f) v1 e ∧ m = [e]))) := by
  obtain ⟨p1, c1, b1, o1, rfl, hp1, hx1⟩ := ha
  refine calls_of_TC Try.func42 rfl ?_
  simp only [Try.ntmps42, List.length_cons, List.length_nil, Nat.reduceAdd, Nat.reduceSub, List.replicate, List.cons_append, List.nil_append]
  refine TC_seq ?_
  refine WC_region ?_
  refine WL_rel rfl (rel_box rfl rfl) ?_
  rintro _ _ ⟨b0, rfl, rfl⟩
  dsimp only [put, List.set, ev, nth, List.nil_append, List.cons_append, md, Nat.reducePow, Nat.reduceAdd, Nat.reduceMul]
  refine WL_rel rfl (rel_box rfl rfl) ?_
  rintro _ _ ⟨b1, rfl, rfl⟩
  dsimp only [put, List.set, ev, nth, List.nil_append, List.cons_append, md, Nat.reducePow, Nat.reduceAdd, Nat.reduceMul]
  refine WL_rel rfl (rel_box rfl rfl) ?_
  rintro _ _ ⟨b2, rfl, rfl⟩
  dsimp only [put, List.set, ev, nth, List.nil_append, List.cons_append, md, Nat.reducePow, Nat.reduceAdd, Nat.reduceMul]
  refine WL_det rfl (det_assign) ?_
  dsimp only [put, List.set, ev, nth, List.nil_append, List.cons_append, md, Nat.reducePow, Nat.reduceAdd, Nat.reduceMul]
  refine WL_det rfl (det_assign) ?_
  dsimp only [put, List.set, ev, nth, List.nil_append, List.cons_append, md, Nat.reducePow, Nat.reduceAdd, Nat.reduceMul]
  refine WL_nil ?_
  refine TC_seq ?_
  refine WC_region ?_
  refine WL_det rfl (det_load 2 Try.isAgg35 rfl rfl rfl) ?_
  dsimp only [put, List.set, ev, nth, List.nil_append, List.cons_append, md, Nat.reducePow, Nat.reduceAdd, Nat.reduceMul]
  refine WL_det rfl (det_len Try.underlying35 rfl) ?_
  dsimp only [put, List.set, ev, nth, List.nil_append, List.cons_append, md, Nat.reducePow, Nat.reduceAdd, Nat.reduceMul]
  refine WL_det rfl (det_addi (q := 64) rfl rfl (by omega)) ?_
  dsimp only [put, List.set, ev, nth, List.nil_append, List.cons_append, md, Nat.reducePow, Nat.reduceAdd, Nat.reduceMul]
  refine WL_det rfl (det_subi (q := 1) rfl rfl (by omega) (by omega)) ?_
  dsimp only [put, List.set, ev, nth, List.nil_append, List.cons_append, md, Nat.reducePow, Nat.reduceAdd, Nat.reduceMul]
  refine WL_det rfl (det_conv' Try.underlying99 Try.underlying3 rfl rfl (by simp only [md]; first | omega | exact Nat.or_lt_two_pow (n := 32) (by omega) (by omega) | exact Nat.lt_of_le_of_lt Nat.and_le_left (by omega) | exact Nat.lt_of_le_of_lt Nat.and_le_right (by omega) | exact Nat.xor_lt_two_pow (n := 32) (by omega) (by omega))) ?_
  dsimp only [put, List.set, ev, nth, List.nil_append, List.cons_append, md, Nat.reducePow, Nat.reduceAdd, Nat.reduceMul]
  refine WL_det rfl (det_quoi (q := 64) rfl rfl (by omega) (.inl rfl) (.inr (by simp only [md]; first | omega | exact Nat.or_lt_two_pow (n := 32) (by omega) (by omega) | exact Nat.lt_of_le_of_lt Nat.and_le_left (by omega) | exact Nat.lt_of_le_of_lt Nat.and_le_right (by omega) | exact Nat.xor_lt_two_pow (n := 32) (by omega) (by omega)))) ?_
  dsimp only [put, List.set, ev, nth, List.nil_append, List.cons_append, md, Nat.reducePow, Nat.reduceAdd, Nat.reduceMul]
  refine WL_det rfl (det_assign) ?_
  dsimp only [put, List.set, ev, nth, List.nil_append, List.cons_append, md, Nat.reducePow, Nat.reduceAdd, Nat.reduceMul]
  refine WL_nil ?_
  refine TC_seq ?_
  refine WC_seq ?_
  by_cases hb : 1048576 < n
  · refine WC_region ?_
    refine WL_det rfl (det_load 2 Try.isAgg35 rfl rfl rfl) ?_
    dsimp only [put, List.set, ev, nth, List.nil_append, List.cons_append, md, Nat.reducePow, Nat.reduceAdd, Nat.reduceMul]
    refine WL_det rfl (det_len Try.underlying35 rfl) ?_
    dsimp only [put, List.set, ev, nth, List.nil_append, List.cons_append, md, Nat.reducePow, Nat.reduceAdd, Nat.reduceMul]
    refine WL_det rfl (Det.bv true (det_gtr (q := 1048576) rfl rfl) (decide_eq_true hb)) ?_
    dsimp only [put, List.set, ev, nth, List.nil_append, List.cons_append, md, Nat.reducePow, Nat.reduceAdd, Nat.reduceMul]
    refine WL_det rfl (det_move) ?_
    dsimp only [put, List.set, ev, nth, List.nil_append, List.cons_append, md, Nat.reducePow, Nat.reduceAdd, Nat.reduceMul]
    refine WL_skipG rfl ?_
    dsimp only [put, List.set, ev, nth, List.nil_append, List.cons_append, md, Nat.reducePow, Nat.reduceAdd, Nat.reduceMul]
    refine WL_skipG rfl ?_
    dsimp only [put, List.set, ev, nth, List.nil_append, List.cons_append, md, Nat.reducePow, Nat.reduceAdd, Nat.reduceMul]
    refine WL_skipG rfl ?_
    dsimp only [put, List.set, ev, nth, List.nil_append, List.cons_append, md, Nat.reducePow, Nat.reduceAdd, Nat.reduceMul]
    refine WL_skipG rfl ?_
    dsimp only [put, List.set, ev, nth, List.nil_append, List.cons_append, md, Nat.reducePow, Nat.reduceAdd, Nat.reduceMul]
    refine WL_skipG rfl ?_
    dsimp only [put, List.set, ev, nth, List.nil_append, List.cons_append, md, Nat.reducePow, Nat.reduceAdd, Nat.reduceMul]
    refine WL_det rfl (det_pick_true rfl) ?_
    dsimp only [put, List.set, ev, nth, List.nil_append, List.cons_append, md, Nat.reducePow, Nat.reduceAdd, Nat.reduceMul]
    refine WL_nil ?_
    refine WC_cond_true rfl ?_
    refine WC_seq ?_
    refine WC_region ?_
    refine WL_det rfl (det_assign) ?_
    dsimp only [put, List.set, ev, nth, List.nil_append, List.cons_append, md, Nat.reducePow, Nat.reduceAdd, Nat.reduceMul]
    refine WL_det rfl (det_assign) ?_
    dsimp only [put, List.set, ev, nth, List.nil_append, List.cons_append, md, Nat.reducePow, Nat.reduceAdd, Nat.reduceMul]
    refine WL_nil ?_
    refine WC_ret ?_
    refine fin_tmp2 Try.results42 rfl rfl ([]) (List.nil_sublist _) ?_
    exact .inl ⟨by omega, rfl, rfl⟩
  · refine WC_region ?_
    refine WL_det rfl (det_load 2 Try.isAgg35 rfl rfl rfl) ?_
    dsimp only [put, List.set, ev, nth, List.nil_append, List.cons_append, md, Nat.reducePow, Nat.reduceAdd, Nat.reduceMul]
    refine WL_det rfl (det_len Try.underlying35 rfl) ?_
    dsimp only [put, List.set, ev, nth, List.nil_append, List.cons_append, md, Nat.reducePow, Nat.reduceAdd, Nat.reduceMul]
    refine WL_det rfl (Det.bv false (det_gtr (q := 1048576) rfl rfl) (decide_eq_false hb)) ?_
    dsimp only [put, List.set, ev, nth, List.nil_append, List.cons_append, md, Nat.reducePow, Nat.reduceAdd, Nat.reduceMul]
    refine WL_det rfl (det_move) ?_
    dsimp only [put, List.set, ev, nth, List.nil_append, List.cons_append, md, Nat.reducePow, Nat.reduceAdd, Nat.reduceMul]
    refine WL_detG rfl (det_move) ?_
    dsimp only [put, List.set, ev, nth, List.nil_append, List.cons_append, md, Nat.reducePow, Nat.reduceAdd, Nat.reduceMul]
    refine WL_detG rfl (det_move) ?_
    dsimp only [put, List.set, ev, nth, List.nil_append, List.cons_append, md, Nat.reducePow, Nat.reduceAdd, Nat.reduceMul]
    refine WL_detG rfl (det_conv' Try.underlying99 Try.underlying24 rfl rfl (by simp only [md]; first | omega | exact Nat.or_lt_two_pow (n := 32) (by omega) (by omega) | exact Nat.lt_of_le_of_lt Nat.and_le_left (by omega) | exact Nat.lt_of_le_of_lt Nat.and_le_right (by omega) | exact Nat.xor_lt_two_pow (n := 32) (by omega) (by omega))) ?_
    dsimp only [put, List.set, ev, nth, List.nil_append, List.cons_append, md, Nat.reducePow, Nat.reduceAdd, Nat.reduceMul]
    refine WL_detG rfl (det_sub' (p := 4294967296) rfl rfl rfl (by omega) (by simp only [md]; omega)) ?_
    dsimp only [put, List.set, ev, nth, List.nil_append, List.cons_append, md, Nat.reducePow, Nat.reduceAdd, Nat.reduceMul]
    refine WL_detG rfl (det_gtr rfl rfl) ?_
    dsimp only [put, List.set, ev, nth, List.nil_append, List.cons_append, md, Nat.reducePow, Nat.reduceAdd, Nat.reduceMul]
    refine WL_det rfl (det_pick_false rfl) ?_
    dsimp only [put, List.set, ev, nth, List.nil_append, List.cons_append, md, Nat.reducePow, Nat.reduceAdd, Nat.reduceMul]
    refine WL_nil ?_
    refine WC_cond rfl (fun hc0 => ?_) (fun hc0 => ?_)
    · have hc0 := of_decide_eq_true hc0
      refine WC_seq ?_
      refine WC_region ?_
      refine WL_det rfl (det_assign) ?_
      dsimp only [put, List.set, ev, nth, List.nil_append, List.cons_append, md, Nat.reducePow, Nat.reduceAdd, Nat.reduceMul]
      refine WL_det rfl (det_assign) ?_
      dsimp only [put, List.set, ev, nth, List.nil_append, List.cons_append, md, Nat.reducePow, Nat.reduceAdd, Nat.reduceMul]
      refine WL_nil ?_
      refine WC_ret ?_
      refine fin_tmp2 Try.results42 rfl rfl ([]) (List.nil_sublist _) ?_
      exact .inl ⟨by omega, rfl, rfl⟩
    · have hc0 := of_decide_eq_false hc0
      refine WC_skip ?_
      refine TC_seq ?_
      refine WC_region ?_
      refine WL_det rfl (det_load 2 Try.isAgg35 rfl rfl rfl) ?_
      dsimp only [put, List.set, ev, nth, List.nil_append, List.cons_append, md, Nat.reducePow, Nat.reduceAdd, Nat.reduceMul]
      refine WL_det rfl (det_len Try.underlying35 rfl) ?_
      dsimp only [put, List.set, ev, nth, List.nil_append, List.cons_append, md, Nat.reducePow, Nat.reduceAdd, Nat.reduceMul]
      refine WL_rel rfl (rel_make0 (n := n) Try.underlying35 ei5 rfl rfl (by omega) (by simp only [maxLen]; omega)) ?_
      rintro _ _ ⟨b3, rfl, rfl⟩
      dsimp only [put, List.append_nil, List.set, ev, nth, List.nil_append, List.cons_append, md, Nat.reducePow, Nat.reduceAdd, Nat.reduceMul]
      refine WL_rel rfl (rel_alloc Try.zeroValue35 rfl) ?_
      rintro _ _ ⟨b4, rfl, rfl⟩
      dsimp only [put, List.set, ev, nth, List.nil_append, List.cons_append, md, Nat.reducePow, Nat.reduceAdd, Nat.reduceMul]
      refine WL_chg rfl (chg_storeBox 4 Try.sizeOf35 rfl rfl rfl (rfl)) ?_
      rintro _ _ rfl
      dsimp only [put, List.set, ev, nth, List.nil_append, List.cons_append, md, Nat.reducePow, Nat.reduceAdd, Nat.reduceMul]
      refine WL_nil ?_
      refine TC_seq ?_
      refine WC_seq ?_
      refine WC_region ?_
      refine WL_det rfl (det_load 2 Try.isAgg35 rfl rfl rfl) ?_
      dsimp only [put, List.set, ev, nth, List.nil_append, List.cons_append, md, Nat.reducePow, Nat.reduceAdd, Nat.reduceMul]
      refine WL_det rfl (det_len Try.underlying35 rfl) ?_
      dsimp only [put, List.set, ev, nth, List.nil_append, List.cons_append, md, Nat.reducePow, Nat.reduceAdd, Nat.reduceMul]
      refine WL_det rfl (det_eql (q := 0) rfl rfl) ?_
      dsimp only [put, List.set, ev, nth, List.nil_append, List.cons_append, md, Nat.reducePow, Nat.reduceAdd, Nat.reduceMul]
      refine WL_nil ?_
      refine WC_cond rfl (fun hc1 => ?_) (fun hc1 => ?_)
      · have hc1 := of_decide_eq_true hc1
        refine WC_seq ?_
        refine WC_region ?_
        refine WL_det rfl (det_load 4 Try.isAgg35 rfl rfl rfl) ?_
        dsimp only [put, List.set, ev, nth, List.nil_append, List.cons_append, md, Nat.reducePow, Nat.reduceAdd, Nat.reduceMul]
        refine WL_det rfl (det_assign) ?_
        dsimp only [put, List.set, ev, nth, List.nil_append, List.cons_append, md, Nat.reducePow, Nat.reduceAdd, Nat.reduceMul]
        refine WL_det rfl (det_assign) ?_
        dsimp only [put, List.set, ev, nth, List.nil_append, List.cons_append, md, Nat.reducePow, Nat.reduceAdd, Nat.reduceMul]
        refine WL_nil ?_
        refine WC_ret ?_
        subst hc1
        refine fin_tmp2 Try.results42 rfl rfl ([_]) (.cons _ (.cons _ (.cons _ (.cons_cons _ (List.nil_sublist _))))) ?_
        exact .inr ⟨by omega, _, _, rfl, .inr ⟨b3, 0, _, rfl, rfl, Nat.le_refl _, Nat.zero_le _, arr_size _ _ _, fun i hi => absurd hi (Nat.not_lt_zero _)⟩, rfl⟩
      · have hc1 := of_decide_eq_false hc1
        refine WC_skip ?_
        refine TC_seqB ?_
        refine WC_region ?_
        refine WL_det rfl (det_loadWA 0 Try.underlying22 rfl i22 rfl rfl) ?_
        dsimp only [put, List.set, ev, nth, List.nil_append, List.cons_append, md, Nat.reducePow, Nat.reduceAdd, Nat.reduceMul]
        refine WL_det rfl (det_loadWA 1 Try.underlying23 rfl i23 rfl rfl) ?_
        dsimp only [put, List.set, ev, nth, List.nil_append, List.cons_append, md, Nat.reducePow, Nat.reduceAdd, Nat.reduceMul]
        refine WL_det rfl (det_move) ?_
        dsimp only [put, List.set, ev, nth, List.nil_append, List.cons_append, md, Nat.reducePow, Nat.reduceAdd, Nat.reduceMul]
        refine WL_rel rfl (Rel_call rfl Try.call21 (fun w hw => stream_spec K N C w)) ?_
        rintro _ _ ⟨c0, c1q, c2, rfl, rfl⟩
        dsimp only [put, List.append_nil, List.set, ev, nth, List.nil_append, List.cons_append, md, Nat.reducePow, Nat.reduceAdd, Nat.reduceMul]
        refine WL_nil ?_
        refine TC_range1 (α := B8) (ι := Value × (Option Nat × Obj)) (ve := fun x : B8 => vn .u8 x.1) (S := fun xs => xs = upTo K N C (64 * (4294967296 - C))) (Sp := fun pre => ∃ k, k ≤ 64 * (4294967296 - C) ∧ pre = upTo K N C k) (N := 64 * (4294967296 - C)) (t := 40) (d := 12) [c0, c1q, c2] rfl Try.call67 (fun w hw => stream_seq K N C hC c0 c1q c2 w (hw.at 5 rfl) (hw.at 6 rfl) (hw.at 7 rfl)) (fun pre x => pre.length ≤ n ∧ RowN .u8 5 pre.length (fun i => gd pre i ^^^ f i) x.1 x.2) (fun xs x => ∃ pre a, xs = pre ++ [a] ∧ pre.length = n ∧ RowN .u8 5 n (fun i => gd xs i ^^^ f i) x.1 x.2) (fun x => [(some b0, .cells (arr .u8 32 (byt K)) 22 (0, 0)), (some b1, .cells (arr .u8 12 (byt N)) 23 (0, 0)), (some b2, .cells #[.slice p1 n c1] 35 (0, 0)), x.2, (some b4, .cells #[x.1] 35 (0, 0)), (some c0, .cells (arr .u8 32 (byt K)) 22 (0, 0)), (some c1q, .cells (arr .u8 12 (byt N)) 23 (0, 0)), (some c2, .cells #[vn .u32 C] 24 (0, 0))]) (.slice (some ⟨b3, 0, none⟩) 0 n, (some b3, .cells (arr .u8 n fun _ => 0) 5 (0, 0))) rfl (⟨Nat.zero_le _, .inr ⟨b3, n, _, rfl, rfl, Nat.zero_le _, by simp only [maxLen]; omega, arr_size _ _ _, fun i hi => absurd hi (Nat.not_lt_zero _)⟩⟩) (fun pre x h b o hb => by
          have hr : ∃ k g, RowV 5 k g x.1 x.2 := by
            rcases h with ⟨_, h⟩ | ⟨_, _, _, _, h⟩
            · exact ⟨_, _, h⟩
            · exact ⟨_, _, h⟩
          obtain ⟨_, _, hr⟩ := hr
          simp only [List.mem_cons, List.not_mem_nil, or_false] at hb
          rcases hb with hb | hb | hb | hb | hb | hb | hb | hb <;> first | exact hr.cells hb | (cases hb; rfl)) (fun b hb => by
          simp only [List.mem_cons, List.not_mem_nil, or_false] at hb
          rcases hb with rfl | rfl | rfl
          · exact ⟨.cells (arr .u8 32 (byt K)) 22 (0, 0), fun x => by simp⟩
          · exact ⟨.cells (arr .u8 12 (byt N)) 23 (0, 0), fun x => by simp⟩
          · exact ⟨.cells #[vn .u32 C] 24 (0, 0), fun x => by simp⟩) (fun pre a x x' h1 h2 => by
          have hk : ∃ b, x'.2.1 = some b := by
            rcases h2 with ⟨_, h⟩ | ⟨_, _, _, _, h⟩
            · exact h.key (by simp)
            · exact h.key (by omega)
          obtain ⟨b, hb⟩ := hk
          obtain ⟨v, k, o⟩ := x
          obtain ⟨v', k', o'⟩ := x'
          dsimp only at hb
          subst hb
          cases k <;> simp [keysOf]) (by simp) ?_ ?_ ?_
        · rintro l pre a ⟨v, e⟩ mt ⟨hk, hr⟩ hltN
          dsimp only at hk hr
          obtain ⟨p0, cc, rfl, hcc⟩ := hr.slice
          dsimp only [List.set, List.cons_append, List.nil_append]
          refine RC_block ?_
          refine RC_seq ?_
          refine RC_seq ?_
          refine RC_region ?_
          refine RL_det rfl (fun _ h => by cases h) (det_load 4 Try.isAgg35 rfl rfl rfl) ?_
          dsimp only [put, List.take, List.drop, List.set, ev, nth, List.nil_append, List.cons_append, md, Nat.reducePow, Nat.reduceAdd, Nat.reduceMul]
          refine RL_det rfl (fun _ h => by cases h) (det_len Try.underlying35 rfl) ?_
          dsimp only [put, List.take, List.drop, List.set, ev, nth, List.nil_append, List.cons_append, md, Nat.reducePow, Nat.reduceAdd, Nat.reduceMul]
          refine RL_det rfl (fun _ h => by cases h) (det_load 2 Try.isAgg35 rfl rfl rfl) ?_
          dsimp only [put, List.take, List.drop, List.set, ev, nth, List.nil_append, List.cons_append, md, Nat.reducePow, Nat.reduceAdd, Nat.reduceMul]
          refine RL_det rfl (fun _ h => by cases h) (det_len Try.underlying35 rfl) ?_
          dsimp only [put, List.take, List.drop, List.set, ev, nth, List.nil_append, List.cons_append, md, Nat.reducePow, Nat.reduceAdd, Nat.reduceMul]
          refine RL_det rfl (fun _ h => by cases h) (det_eql rfl rfl) ?_
          dsimp only [put, List.take, List.drop, List.set, ev, nth, List.nil_append, List.cons_append, md, Nat.reducePow, Nat.reduceAdd, Nat.reduceMul]
          refine RL_nil ?_
          refine RC_cond rfl (fun hc2 => ?_) (fun hc2 => ?_)
          · have hc2 := of_decide_eq_true hc2
            refine RC_exit ?_
            refine inB_other (by decide) ?_
            exact ⟨rfl, (_, e), ⟨pre, a, rfl, hc2, by dsimp only; rw [← hc2]; exact RowN.congr hr fun i hi => by rw [gd_old pre a hi]⟩, List.Sublist.refl _⟩
          · have hc2 := of_decide_eq_false hc2
            have hlt8 : pre.length < n := by omega
            refine RC_skip ?_
            refine RC_draw (hnd_of rfl) [[], [], [], [], [3], [2, 3, 4], [2, 3, 4, 5], [1, 2, 3, 4, 5, 6], [1, 2, 3, 4, 5, 6, 7], [0, 1, 2, 3, 4, 5, 6, 7, 8], [0, 1, 2, 3, 4, 5, 6, 7, 8, 9]] [9, 10] 57 [] (List.nil_sublist _) mixed rfl (by decide) ?_
            refine RW.det [] rfl rfl rfl rfl (fun _ => rfl) (fun V hV => Det.rel (det_load 4 Try.isAgg35 rfl rfl rfl)) (fun _ _ _ => rfl) ?_
            dsimp only [put, List.take, List.drop, List.set, ev, nth, List.nil_append, List.cons_append, md, Nat.reducePow, Nat.reduceAdd, Nat.reduceMul]
            refine RW.pure rfl rfl (fun _ => rfl) (fun V hV => det_move) (fun _ _ _ => rfl) ?_
            dsimp only [put, List.take, List.drop, List.set, ev, nth, List.nil_append, List.cons_append, md, Nat.reducePow, Nat.reduceAdd, Nat.reduceMul]
            refine RW.det [] rfl rfl rfl rfl (fun _ => rfl) (fun V hV => Det.rel (det_load 2 Try.isAgg35 rfl rfl rfl)) (fun _ _ _ => rfl) ?_
            dsimp only [put, List.take, List.drop, List.set, ev, nth, List.nil_append, List.cons_append, md, Nat.reducePow, Nat.reduceAdd, Nat.reduceMul]
            refine RW.det [] rfl rfl rfl rfl (fun _ => rfl) (fun V hV => Det.rel (det_load 4 Try.isAgg35 rfl rfl rfl)) (fun _ _ _ => rfl) ?_
            dsimp only [put, List.take, List.drop, List.set, ev, nth, List.nil_append, List.cons_append, md, Nat.reducePow, Nat.reduceAdd, Nat.reduceMul]
            refine RW.pure rfl rfl (fun _ => rfl) (fun V hV => det_len Try.underlying35 rfl) (fun _ _ _ => rfl) ?_
            dsimp only [put, List.take, List.drop, List.set, ev, nth, List.nil_append, List.cons_append, md, Nat.reducePow, Nat.reduceAdd, Nat.reduceMul]
            refine RW.pure rfl rfl (fun _ => rfl) (fun V hV => det_idxS Try.underlying35 Try.sizeOf5 rfl rfl rfl (hlt8) (hp1 (by omega))) (fun _ _ _ => rfl) ?_
            dsimp only [put, List.take, List.drop, List.set, ev, nth, List.nil_append, List.cons_append, md, Nat.reducePow, Nat.reduceAdd, Nat.reduceMul]
            refine RW.pure rfl rfl (fun _ => rfl) (fun V hV => det_loadF Try.isAgg5 rfl (hx1 _ hlt8)) (fun _ _ _ => rfl) ?_
            dsimp only [put, List.take, List.drop, List.set, ev, nth, List.nil_append, List.cons_append, md, Nat.reducePow, Nat.reduceAdd, Nat.reduceMul]
            refine RW.pure rfl rfl (fun _ => rfl) (fun V hV => det_xor rfl rfl rfl a.2 (hf _ hlt8)) (fun _ _ _ => rfl) ?_
            dsimp only [put, List.take, List.drop, List.set, ev, nth, List.nil_append, List.cons_append, md, Nat.reducePow, Nat.reduceAdd, Nat.reduceMul]
            refine RW.rel' [] rfl rfl rfl rfl (fun _ => rfl) rfl (fun V hV => rel_lit1 Try.underlying35 Try.zeroValue5 Try.sizeOf5 rfl rfl) (fun _ _ _ _ _ h => h) ?_
            dsimp only [put, List.take, List.drop, List.set, ev, nth, List.nil_append, List.cons_append, md, Nat.reducePow, Nat.reduceAdd, Nat.reduceMul]
            refine RW.tail' (B := fun V => _ ++ flat [8] V) rfl rfl rfl rfl (fun _ => rfl) (fun V hV => chg_append1 3 (mt.length + 8) rfl hr rfl (IsSl.ptr (hV 8 (by decide) _ rfl)) (by have e8 : (V 8).2 = _ := IsSl.mem (hV 8 (by decide) _ rfl); simp only [flat_cons, flat_nil, e8]; exact at_last _ _) rfl Try.underlying35 ei5 rfl (by omega) (by decide)) (fun V V' hV _ _ h => by simpa only [flat_cons, flat_nil, hV 8 (by decide)] using h) (fun _ _ _ _ _ => List.nil_sublist _) ?_
            dsimp only [put, List.take, List.drop, List.set, ev, nth, List.nil_append, List.cons_append, md, Nat.reducePow, Nat.reduceAdd, Nat.reduceMul]
            refine RW.tail' (B := fun V => (V 9).2) (R0 := fun V _ m' => m' = (V 9).2.set 4 (some b4, .cells #[(V 9).1] 35 (0, 0))) rfl rfl rfl rfl (fun _ => rfl) (fun V hV => by
              have e8 : (V 8).2 = _ := IsSl.mem (hV 8 (by decide) _ rfl)
              obtain ⟨e9, hr9, hm9⟩ := hV 9 (by decide) _ rfl
              refine chg_storeBox 4 (u := .slice p0 pre.length cc) Try.sizeOf35 rfl ?_ rfl hr9.one
              rw [hm9]
              simp only [flat_cons, flat_nil, e8]
              simp) (fun V V' hV v m' h => by rw [← hV 9 (by decide)]; exact h) (fun _ _ _ _ _ => List.nil_sublist _) ?_
            dsimp only [put, List.take, List.drop, List.set, ev, nth, List.nil_append, List.cons_append, md, Nat.reducePow, Nat.reduceAdd, Nat.reduceMul]
            refine RW.done (fun V => (V 10).2) rfl rfl (fun _ => rfl) (fun V hV => ?_)
            have e8 : (V 8).2 = _ := IsSl.mem (hV 8 _ rfl)
            obtain ⟨e9, hr9, hm9⟩ := hV 9 _ rfl
            have hm10 : (V 10).2 = _ := hV 10 _ rfl
            obtain ⟨v9, hv9⟩ : ∃ v, v = (V 9).1 := ⟨_, rfl⟩
            rw [← hv9] at hr9 hm10
            rw [hm10, hm9]
            simp only [flat_cons, flat_nil, e8, List.append_nil, List.set_cons_succ, List.set_cons_zero, List.eraseIdx_cons_succ, er_tail]
            exact ⟨(v9, e9), ⟨by rw [List.length_append, List.length_singleton]; omega, row_gd (n := n) a hr9⟩, List.Sublist.refl _⟩
        · rintro D xs ⟨v, e⟩ rfl ⟨hk, hr⟩
          dsimp only at hk hr
          rw [upTo_len] at hk hr
          have hr : RowN .u8 5 n (hidb K N C f) v e := by
            rw [show n = 64 * (4294967296 - C) by omega]
            exact RowN.congr hr fun i hi => by rw [gd_upTo K N C _ hi]; rfl
          dsimp only [List.cons_append, List.nil_append]
          refine DC_seq ?_
          refine DC_region ?_
          refine DL_det rfl (det_load 4 Try.isAgg35 rfl rfl rfl) ?_
          dsimp only [put, List.set, ev, nth, List.nil_append, List.cons_append, md, Nat.reducePow, Nat.reduceAdd, Nat.reduceMul]
          refine DL_det rfl (det_assign) ?_
          dsimp only [put, List.set, ev, nth, List.nil_append, List.cons_append, md, Nat.reducePow, Nat.reduceAdd, Nat.reduceMul]
          refine DL_det rfl (det_assign) ?_
          dsimp only [put, List.set, ev, nth, List.nil_append, List.cons_append, md, Nat.reducePow, Nat.reduceAdd, Nat.reduceMul]
          refine DL_nil ?_
          refine DC_ret ?_
          refine finD_tmp2 Try.results42 rfl rfl ([e]) (.cons _ (.cons _ (.cons _ (.cons_cons _ (.cons _ (.cons _ (.cons _ (.cons _ (List.Sublist.refl _))))))))) ?_
          exact .inr ⟨by omega, v, e, rfl, hr, rfl⟩
        · rintro D xs ⟨v, e⟩ ⟨k, hk, rfl⟩ ⟨pre, a, he, hn2, hr⟩
          dsimp only at hr
          have hkn : k = n + 1 := by have := congrArg List.length he; rw [upTo_len, List.length_append, List.length_singleton] at this; omega
          have hr : RowN .u8 5 n (hidb K N C f) v e := RowN.congr hr fun i hi => by rw [gd_upTo K N C k (by omega)]; rfl
          dsimp only [List.cons_append, List.nil_append]
          refine DC_seq ?_
          refine DC_region ?_
          refine DL_det rfl (det_load 4 Try.isAgg35 rfl rfl rfl) ?_
          dsimp only [put, List.set, ev, nth, List.nil_append, List.cons_append, md, Nat.reducePow, Nat.reduceAdd, Nat.reduceMul]
          refine DL_det rfl (det_assign) ?_
          dsimp only [put, List.set, ev, nth, List.nil_append, List.cons_append, md, Nat.reducePow, Nat.reduceAdd, Nat.reduceMul]
          refine DL_det rfl (det_assign) ?_
          dsimp only [put, List.set, ev, nth, List.nil_append, List.cons_append, md, Nat.reducePow, Nat.reduceAdd, Nat.reduceMul]
          refine DL_nil ?_
          refine DC_ret ?_
          refine finD_tmp2 Try.results42 rfl rfl ([e]) (.cons _ (.cons _ (.cons _ (.cons_cons _ (.cons _ (.cons _ (.cons _ (.cons _ (List.Sublist.refl _))))))))) ?_
          exact .inr ⟨by omega, v, e, rfl, hr, rfl⟩

end Go.Proofs.Ytpmldkhgdpchjaa

set_option linter.unusedVariables false
namespace Go.Proofs.Ytpmldkhgdpchjaa
open Go.MW
end Go.Proofs.Ytpmldkhgdpchjaa
