/- Walks of the Go functions, printed by a program of this claim. Conditions: none. -/
import Derived.Test.YtpmldkhgdpchjaaS17
set_option linter.unusedVariables false
namespace Go.Proofs.Ytpmldkhgdpchjaa
open Go.MW
def offOf (tn : Nat → Nat) : Nat → Nat
  | 0 => 0
  | k + 1 => offOf tn k + tn k
/-- The tag of texts that a literal lists. -/
theorem tag_list (K q : Nat) (c : Array Value) (tv : Nat → Value) (tn : Nat → Nat) (tf : Nat → Nat → Nat) (F : Nat → Nat) (hF : ∀ i, i < q → ∀ j, j < tn i → F (offOf tn i + j) = tf i j) (hN : offOf tn q ≤ 1000000) (hq : q ≤ 1000) (hb : ∀ i, i < offOf tn q → F i < 256) (hc : ∀ i, i < q → c[i]? = some (tv i))
    {w0 w : World} {mm mi : Mem} {vs : Value} (hw : Has w0 mm w) (hs : mi.Sublist mm) (h : IsSl q c 35 vs mi) (ht : ∀ i, i < q → Rd w .u8 (tn i) (tf i) (tv i)) :
    Calls Try.prog 46 [.agg (arr .u8 32 (byt K)), vs].toArray w (PostV w (.agg (arr .u8 16 (byt (tagZ F (offOf tn q) K))))) := by
  obtain ⟨b, rfl, rfl⟩ := h
  have hw' := hw.sub hs
  exact tag_spec K (some ⟨b, 0, none⟩) q q b 0 tv tn (offOf tn) tf F (fun _ => rfl) rfl (fun _ => rfl) hF hN hq hb w (fun i hi => by simp [World.cell?, hw'.at 0 rfl, hc i hi]) ht
theorem tag_one (K n : Nat) (F : Nat → Nat) (hF : ∀ i, i < n → F i < 256) (hn : n ≤ 1000000) {v : Value} {w0 w : World} {mm mi : Mem} {vs : Value} (hw : Has w0 mm w) (hs : mi.Sublist mm) (h : IsSl 1 #[v] 35 vs mi) (ht : Rd w .u8 n F v) :
    Calls Try.prog 46 [.agg (arr .u8 32 (byt K)), vs].toArray w (PostV w (.agg (arr .u8 16 (byt (tagZ F n K))))) := by
  have h1 := tag_list K 1 #[v] (fun _ => v) (fun _ => n) (fun _ => F) F (fun i hi j hj => (by obtain rfl : i = 0 := (by omega); simp [offOf])) (by simp only [offOf]; omega) (by decide) (fun i hi => hF i (by simp only [offOf] at hi; omega)) (fun i hi => (by obtain rfl : i = 0 := (by omega); rfl)) hw hs h (fun _ _ => ht)
  rwa [show offOf (fun _ => n) 1 = n by simp [offOf]] at h1
theorem tag_three (K n l : Nat) (F : Nat → Nat) (hF : ∀ i, i < n → F i < 256) (hn : n ≤ 1000000) (hl : l ≤ n) {v1 v2 : Value} {w0 w : World} {mm mi : Mem} {vs : Value} (hw : Has w0 mm w) (hs : mi.Sublist mm) (h : IsSl 3 #[v1, .slice none 0 0, v2] 35 vs mi)
    (h1 : Rd w .u8 l F v1) (h2 : Rd w .u8 (n - l) (fun i => F (l + i)) v2) :
    Calls Try.prog 46 [.agg (arr .u8 32 (byt K)), vs].toArray w (PostV w (.agg (arr .u8 16 (byt (tagZ F n K))))) := by
  have e0 : offOf (fun i => if i = 0 then l else if i = 2 then n - l else 0) 3 = n := by simp [offOf]; omega
  have hh := tag_list K 3 #[v1, .slice none 0 0, v2] (fun i => if i = 0 then v1 else if i = 2 then v2 else .slice none 0 0) (fun i => if i = 0 then l else if i = 2 then n - l else 0) (fun i => if i = 0 then F else fun j => F (l + j)) F
    (fun i hi j hj => by
      have : i = 0 ∨ i = 1 ∨ i = 2 := by omega
      rcases this with rfl | rfl | rfl <;> simp [offOf] at hj ⊢) (by rw [e0]; exact hn) (by decide) (fun i hi => hF i (by rw [e0] at hi; exact hi)) (fun i hi => by
      have : i = 0 ∨ i = 1 ∨ i = 2 := by omega
      rcases this with rfl | rfl | rfl <;> rfl) hw hs h (fun i hi => by
      have : i = 0 ∨ i = 1 ∨ i = 2 := by omega
      rcases this with rfl | rfl | rfl
      · exact h1
      · exact Rd.nil _ _ _
      · exact h2)
  rwa [e0] at hh
theorem pmod_dig (V m : Nat) (hV : V < 65536 ^ m) (hm : m ≤ 1000) (va : Value) (w : World) (ha : Rd w .i64 m (dig V) va) : Calls Try.prog 47 [va].toArray w (Post w (fun v m => ∃ e, RowN .i64 3 10 (dig (V % Pp)) v e ∧ m = [e])) := by
  have h := pmod_spec m (dig V) (fun i _ => dig_lt _ i) hm va w ha
  rwa [psum_digA _ _ hV] at h
theorem pdig17 (A : Nat) (hA : A < 256 ^ 17) (va : Value) (w : World) (ha : Rd w .u8 17 (byt A) va) : Calls Try.prog 48 [va].toArray w (Post w (fun v m => ∃ e, RowN .i64 3 9 (dig A) v e ∧ m = [e])) := by
  have h := pdigits_spec 17 (byt A) (fun i _ => byt_lt A i) (by decide) va w ha
  rwa [lev_byt, Nat.mod_eq_of_lt hA] at h
theorem same_true (n : Nat) (f g : Nat → Nat) (h : ∀ i, i < n → f i = g i) (hn : n ≤ maxLen) (va vb : Value) (w : World) (ha : Rd w .u8 n f va) (hb : Rd w .u8 n g vb) : Calls Try.prog 20 [va, vb].toArray w (PostV w (.bool true)) := by
  have hh := same_spec n n f g va vb w ha hb hn
  rwa [sameB_eq h] at hh

set_option maxRecDepth 100000 in
set_option maxHeartbeats 1000000 in
theorem ptags_spec (K n at_ c1 : Nat) (F : Nat → Nat) (p1 : Option Addr) (hF : ∀ i, i < n → F i < 256) (hm : at_ < 2 ^ 16) (hnl : n ≤ maxLen) (hcap : n ≤ c1) (w : World) (ha : Rd w .u8 n F (.slice p1 n c1)) :
    Calls Try.prog 11 [.agg (arr .u8 32 (byt K)), .slice p1 n c1, vn .u16 at_].toArray w (PostV w (.bool true)) := by
  simp only [maxLen] at hnl
  refine calls_of_WC Try.func11 rfl ?_
  simp only [Try.ntmps11, List.length_cons, List.length_nil, Nat.reduceAdd, Nat.reduceSub, List.replicate, List.cons_append, List.nil_append]
  refine WC_seq ?_
  refine WC_region ?_
  refine WL_rel rfl (rel_box rfl rfl) ?_
  rintro _ _ ⟨b0, rfl, rfl⟩
  dsimp only [put, List.set, ev, nth, List.nil_append, List.cons_append, md, Nat.reducePow, Nat.reduceAdd, Nat.reduceMul]
  refine WL_det rfl (det_assign) ?_
  dsimp only [put, List.set, ev, nth, List.nil_append, List.cons_append, md, Nat.reducePow, Nat.reduceAdd, Nat.reduceMul]
  refine WL_nil ?_
  refine WC_seq ?_
  refine WC_seq ?_
  refine WC_region ?_
  refine WL_rel rfl (Rel_call rfl Try.call44 (fun w hw => pawake_spec w)) ?_
  rintro _ _ ⟨rfl, rfl⟩
  dsimp only [put, List.append_nil, List.set, ev, nth, List.nil_append, List.cons_append, md, Nat.reducePow, Nat.reduceAdd, Nat.reduceMul]
  refine WL_det rfl (det_not rfl) ?_
  dsimp only [put, List.set, ev, nth, List.nil_append, List.cons_append, md, Nat.reducePow, Nat.reduceAdd, Nat.reduceMul]
  refine WL_nil ?_
  refine WC_cond_false rfl ?_
  refine WC_skip ?_
  refine WC_seq ?_
  refine WC_seq ?_
  refine WC_region ?_
  refine WL_det rfl (det_move) ?_
  dsimp only [put, List.set, ev, nth, List.nil_append, List.cons_append, md, Nat.reducePow, Nat.reduceAdd, Nat.reduceMul]
  refine WL_det rfl (det_len Try.underlying35 rfl) ?_
  dsimp only [put, List.set, ev, nth, List.nil_append, List.cons_append, md, Nat.reducePow, Nat.reduceAdd, Nat.reduceMul]
  refine WL_det rfl (det_gtr (q := 400) rfl rfl) ?_
  dsimp only [put, List.set, ev, nth, List.nil_append, List.cons_append, md, Nat.reducePow, Nat.reduceAdd, Nat.reduceMul]
  refine WL_nil ?_
  refine WC_cond rfl (fun hc1 => ?_) (fun hc1 => ?_)
  · have hc1 := of_decide_eq_true hc1
    refine WC_seq ?_
    refine WC_region ?_
    refine WL_det rfl (det_assign) ?_
    dsimp only [put, List.set, ev, nth, List.nil_append, List.cons_append, md, Nat.reducePow, Nat.reduceAdd, Nat.reduceMul]
    refine WL_nil ?_
    refine WC_ret ?_
    refine fin_tmp Try.results11 rfl ([]) (List.nil_sublist _) ?_
    exact ⟨rfl, rfl⟩
  · have hc1 := of_decide_eq_false hc1
    refine WC_skip ?_
    refine WC_seq ?_
    refine WC_region ?_
    refine WL_det rfl (det_move) ?_
    dsimp only [put, List.set, ev, nth, List.nil_append, List.cons_append, md, Nat.reducePow, Nat.reduceAdd, Nat.reduceMul]
    refine WL_det rfl (det_convi Try.underlying3 Try.underlying69 rfl (by omega)) ?_
    dsimp only [put, List.set, ev, nth, List.nil_append, List.cons_append, md, Nat.reducePow, Nat.reduceAdd, Nat.reduceMul]
    refine WL_det rfl (det_move) ?_
    dsimp only [put, List.set, ev, nth, List.nil_append, List.cons_append, md, Nat.reducePow, Nat.reduceAdd, Nat.reduceMul]
    refine WL_det rfl (det_len Try.underlying35 rfl) ?_
    dsimp only [put, List.set, ev, nth, List.nil_append, List.cons_append, md, Nat.reducePow, Nat.reduceAdd, Nat.reduceMul]
    refine WL_det rfl (det_addi (q := 1) rfl rfl (by omega)) ?_
    dsimp only [put, List.set, ev, nth, List.nil_append, List.cons_append, md, Nat.reducePow, Nat.reduceAdd, Nat.reduceMul]
    refine WL_det rfl (det_remi rfl rfl (by omega)) ?_
    dsimp only [put, List.set, ev, nth, List.nil_append, List.cons_append, md, Nat.reducePow, Nat.reduceAdd, Nat.reduceMul]
    obtain ⟨i, hi⟩ : ∃ i, i = at_ % (n + 1) := ⟨_, rfl⟩
    rw [← hi]
    have hin : i ≤ n := by rw [hi]; exact Nat.le_of_lt_succ (Nat.mod_lt _ (by omega))
    refine WL_det rfl (det_assign) ?_
    dsimp only [put, List.set, ev, nth, List.nil_append, List.cons_append, md, Nat.reducePow, Nat.reduceAdd, Nat.reduceMul]
    refine WL_nil ?_
    refine WC_seq ?_
    refine WC_region ?_
    refine WL_det rfl (det_loadWA 0 Try.underlying22 rfl i22 rfl rfl) ?_
    dsimp only [put, List.set, ev, nth, List.nil_append, List.cons_append, md, Nat.reducePow, Nat.reduceAdd, Nat.reduceMul]
    refine WL_det rfl (det_move) ?_
    dsimp only [put, List.set, ev, nth, List.nil_append, List.cons_append, md, Nat.reducePow, Nat.reduceAdd, Nat.reduceMul]
    refine WL_rel rfl (Rel_call rfl Try.call45 (fun w hw => rtag_spec K n F hF (by omega) _ w (ha.far hw))) ?_
    rintro _ _ ⟨rfl, rfl⟩
    dsimp only [put, List.append_nil, List.set, ev, nth, List.nil_append, List.cons_append, md, Nat.reducePow, Nat.reduceAdd, Nat.reduceMul]
    refine WL_rel rfl (rel_alloc z71 rfl) ?_
    rintro _ _ ⟨b1, rfl, rfl⟩
    dsimp only [put, List.set, ev, nth, List.nil_append, List.cons_append, md, Nat.reducePow, Nat.reduceAdd, Nat.reduceMul]
    refine WL_chg rfl (chg_storeWA 1 Try.sizeOf71 rfl rfl rfl) ?_
    rintro _ _ rfl
    dsimp only [put, List.set, ev, nth, List.nil_append, List.cons_append, md, Nat.reducePow, Nat.reduceAdd, Nat.reduceMul]
    refine WL_nil ?_
    refine WC_seq ?_
    refine WC_draw [[], [], [1], [0, 1, 2], [], [0, 1, 2, 3, 4], [0, 1, 2, 3, 4, 5], [0, 1, 2, 3, 4, 5, 6], [0, 1, 2, 3, 4, 5, 6], [0, 1, 2, 3, 4, 5, 6], [0, 1, 2, 3, 4, 5, 6, 8, 9], [0, 1, 2, 3, 4, 5, 6], [0, 1, 2, 3, 4, 5, 6], [0, 1, 2, 3, 4, 5, 6, 11, 12], [0, 1, 2, 3, 4, 5, 6, 8, 9, 10, 11, 12, 13], [0, 1, 2, 3, 4, 5, 6, 7, 8, 9, 10, 11, 12, 13, 14], [0, 1, 2, 3, 4, 5, 6], [0, 1, 2, 3, 4, 5, 6, 7, 8, 9, 10, 11, 12, 13, 14, 15, 16], [0, 1, 2, 3, 4, 5, 6, 7, 8, 9, 10, 11, 12, 13, 14, 15, 16, 17], [0, 1, 2, 3, 4, 5, 6, 7, 8, 9, 10, 11, 12, 13, 14, 15, 16, 17, 18]] [] 42 [] (List.nil_sublist _) mixed rfl (by decide) ?_
    refine RW.det [] rfl rfl rfl rfl (fun _ => rfl) (fun V hV => Det.rel (det_loadWA 0 Try.underlying22 rfl i22 rfl rfl)) (fun _ _ _ => rfl) ?_
    dsimp only [put, List.set, ev, nth, List.nil_append, List.cons_append, md, Nat.reducePow, Nat.reduceAdd, Nat.reduceMul]
    refine RW.pure rfl rfl (fun _ => rfl) (fun V hV => det_move) (fun _ _ _ => rfl) ?_
    dsimp only [put, List.set, ev, nth, List.nil_append, List.cons_append, md, Nat.reducePow, Nat.reduceAdd, Nat.reduceMul]
    refine RW.rel' [] rfl rfl rfl rfl (fun _ => rfl) rfl (fun V hV => rel_lit1 Try.underlying110 Try.zeroValue35 Try.sizeOf35 rfl rfl) (fun _ _ _ _ _ h => h) ?_
    dsimp only [put, List.set, ev, nth, List.nil_append, List.cons_append, md, Nat.reducePow, Nat.reduceAdd, Nat.reduceMul]
    refine RW.det [2] rfl rfl rfl rfl (fun _ => rfl) (fun V hV => Rel_call rfl Try.call46 (fun w hw => tag_one K n F hF (by omega) hw (flat_mem (j := 2) (by decide)) (hV 2 (by decide) _ rfl) (ha.far hw))) (fun _ _ _ => rfl) ?_
    dsimp only [put, List.set, ev, nth, List.nil_append, List.cons_append, md, Nat.reducePow, Nat.reduceAdd, Nat.reduceMul]
    refine RW.det [] rfl rfl rfl rfl (fun _ => rfl) (fun V hV => Det.rel (det_loadWA 1 Try.underlying71 rfl i71 rfl rfl)) (fun _ _ _ => rfl) ?_
    dsimp only [put, List.set, ev, nth, List.nil_append, List.cons_append, md, Nat.reducePow, Nat.reduceAdd, Nat.reduceMul]
    refine RW.pure rfl rfl (fun _ => rfl) (fun V hV => Det.bv true (det_eqlA Try.underlying71 Try.sizeOf5 Try.isAgg5 Try.underlying5 Try.eqGuardType71 rfl rfl) (eqA_same fun _ _ => rfl)) (fun _ _ _ => rfl) ?_
    dsimp only [put, List.set, ev, nth, List.nil_append, List.cons_append, md, Nat.reducePow, Nat.reduceAdd, Nat.reduceMul]
    refine RW.pure rfl rfl (fun _ => rfl) (fun V hV => det_move) (fun _ _ _ => rfl) ?_
    dsimp only [put, List.set, ev, nth, List.nil_append, List.cons_append, md, Nat.reducePow, Nat.reduceAdd, Nat.reduceMul]
    refine RW.det [] rfl rfl rfl rfl (fun _ => rfl) (fun V hV => Det.rel (det_loadWA 0 Try.underlying22 rfl i22 rfl rfl)) (fun _ _ _ => rfl) ?_
    dsimp only [put, List.set, ev, nth, List.nil_append, List.cons_append, md, Nat.reducePow, Nat.reduceAdd, Nat.reduceMul]
    refine RW.pure rfl rfl (fun _ => rfl) (fun V hV => det_move) (fun _ _ _ => rfl) ?_
    dsimp only [put, List.set, ev, nth, List.nil_append, List.cons_append, md, Nat.reducePow, Nat.reduceAdd, Nat.reduceMul]
    refine RW.pure rfl rfl (fun _ => rfl) (fun V hV => det_move) (fun _ _ _ => rfl) ?_
    dsimp only [put, List.set, ev, nth, List.nil_append, List.cons_append, md, Nat.reducePow, Nat.reduceAdd, Nat.reduceMul]
    refine RW.pure rfl rfl (fun _ => rfl) (fun V hV => det_cutTo Try.underlying35 Try.sizeOf5 rfl rfl (by omega)) (fun _ _ _ => rfl) ?_
    dsimp only [put, List.set, ev, nth, List.nil_append, List.cons_append, md, Nat.reducePow, Nat.reduceAdd, Nat.reduceMul]
    refine RW.pure rfl rfl (fun _ => rfl) (fun V hV => det_move) (fun _ _ _ => rfl) ?_
    dsimp only [put, List.set, ev, nth, List.nil_append, List.cons_append, md, Nat.reducePow, Nat.reduceAdd, Nat.reduceMul]
    refine RW.pure rfl rfl (fun _ => rfl) (fun V hV => det_move) (fun _ _ _ => rfl) ?_
    dsimp only [put, List.set, ev, nth, List.nil_append, List.cons_append, md, Nat.reducePow, Nat.reduceAdd, Nat.reduceMul]
    refine RW.pure rfl rfl (fun _ => rfl) (fun V hV => det_cutFrom Try.underlying35 Try.sizeOf5 rfl rfl (by omega)) (fun _ _ _ => rfl) ?_
    dsimp only [put, List.set, ev, nth, List.nil_append, List.cons_append, md, Nat.reducePow, Nat.reduceAdd, Nat.reduceMul]
    refine RW.rel' [] rfl rfl rfl rfl (fun _ => rfl) rfl (fun V hV => rel_lit (c := #[.slice p1 i c1, .slice none 0 0, .slice (if c1 = i then p1 else p1.map (·.add i)) (n - i) (c1 - i)]) Try.underlying110 Try.zeroValue35 Try.sizeOf35 (by decide) (by decide) (by kernel_rfl)) (fun _ _ _ _ _ h => h) ?_
    dsimp only [put, List.set, ev, nth, List.nil_append, List.cons_append, md, Nat.reducePow, Nat.reduceAdd, Nat.reduceMul]
    refine RW.det [14] rfl rfl rfl rfl (fun _ => rfl) (fun V hV => Rel_call rfl Try.call46 (fun w hw => tag_three K n i F hF (by omega) (by omega) hw (flat_mem (j := 14) (by decide)) (hV 14 (by decide) _ rfl) ((ha.far hw).take (by omega)) ((ha.far hw).drop (by omega) hcap))) (fun _ _ _ => rfl) ?_
    dsimp only [put, List.set, ev, nth, List.nil_append, List.cons_append, md, Nat.reducePow, Nat.reduceAdd, Nat.reduceMul]
    refine RW.det [] rfl rfl rfl rfl (fun _ => rfl) (fun V hV => Det.rel (det_loadWA 1 Try.underlying71 rfl i71 rfl rfl)) (fun _ _ _ => rfl) ?_
    dsimp only [put, List.set, ev, nth, List.nil_append, List.cons_append, md, Nat.reducePow, Nat.reduceAdd, Nat.reduceMul]
    refine RW.pure rfl rfl (fun _ => rfl) (fun V hV => Det.bv true (det_eqlA Try.underlying71 Try.sizeOf5 Try.isAgg5 Try.underlying5 Try.eqGuardType71 rfl rfl) (eqA_same fun _ _ => rfl)) (fun _ _ _ => rfl) ?_
    dsimp only [put, List.set, ev, nth, List.nil_append, List.cons_append, md, Nat.reducePow, Nat.reduceAdd, Nat.reduceMul]
    refine RW.pure rfl rfl (fun _ => rfl) (fun V hV => det_pick_true rfl) (fun _ _ _ => rfl) ?_
    dsimp only [put, List.set, ev, nth, List.nil_append, List.cons_append, md, Nat.reducePow, Nat.reduceAdd, Nat.reduceMul]
    refine RW.pure rfl rfl (fun _ => rfl) (fun V hV => det_assign) (fun _ _ _ => rfl) ?_
    dsimp only [put, List.set, ev, nth, List.nil_append, List.cons_append, md, Nat.reducePow, Nat.reduceAdd, Nat.reduceMul]
    refine RW.done (fun V => _ ++ flat [2, 14] V) rfl rfl (fun _ => rfl) (fun V hV => ?_)
    obtain ⟨bl2, hp2, hq2⟩ : IsSl _ _ _ (V 2).1 (V 2).2 := hV 2 _ rfl
    obtain ⟨bl14, hp14, hq14⟩ : IsSl _ _ _ (V 14).1 (V 14).2 := hV 14 _ rfl
    simp only [hp2, hq2, hp14, hq14, flat_cons, flat_nil]
    try dsimp only [put, blk, flat_nil, List.append_nil, List.append, List.eraseIdx, List.set, ev, nth, List.nil_append, List.cons_append, md, Nat.reducePow, Nat.reduceAdd, Nat.reduceMul]
    clear hV
    refine WC_ret ?_
    refine fin_tmp Try.results11 rfl ([]) (List.nil_sublist _) ?_
    exact ⟨rfl, rfl⟩

end Go.Proofs.Ytpmldkhgdpchjaa
