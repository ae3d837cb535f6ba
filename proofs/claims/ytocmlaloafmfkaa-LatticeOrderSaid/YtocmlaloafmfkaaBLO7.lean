/- What the claim of this folder needs of its texts, put together by a program of this claim. Conditions: none. -/
import Derived.Test.YtocmlaloafmfkaaBLO6
set_option linter.unusedSectionVars false
set_option linter.unusedSimpArgs false
set_option linter.unusedVariables false
set_option linter.unusedVariables false
namespace Go.Proofs.Ytocmlaloafmfkaa
open Go.MW
def nv (l : List Nat) : List Value := l.map (vn .i64)
theorem nv_len (l : List Nat) : (nv l).length = l.length := by simp [nv]
theorem nv_at (l : List Nat) {i : Nat} (h : i < l.length) : (nv l)[i]? = some (vn .i64 (l.getD i 0)) := by simp [nv, h]
theorem nv_snoc (l : List Nat) (x : Nat) : nv l ++ [vn .i64 x] = nv (l ++ [x]) := by simp [nv]
/-- A text, told apart by its bytes alone. -/
def Str : Type := ByteArray
instance : DecidableEq Str := inferInstanceAs (DecidableEq ByteArray)
def str0 : Str := (⟨#[]⟩ : ByteArray)
def sv (l : List Str) : List Value := l.map fun (x : Str) => Value.string x
theorem sv_len (l : List Str) : (sv l).length = l.length := by simp [sv]
theorem sv_at (l : List Str) {i : Nat} (h : i < l.length) : (sv l)[i]? = some (.string (l.getD i str0)) := by simp [sv, h]
theorem sv_snoc (l : List Str) (x : Str) : sv l ++ [.string x] = sv (l ++ [x]) := by simp [sv]
def intK : KeyK Int where
  kv := .int .i64
  d := .int .i64
  one _ := rfl
  same a b := by
    show (if IntKind.i64 = IntKind.i64 then some (a == b) else none) = some (decide (a = b))
    simp
    rfl
  key _ := rfl
def strK : KeyK Str where
  kv x := .string x
  d := .string
  one _ := rfl
  same a b := by
    show some (@BEq.beq ByteArray _ a b) = some (decide (a = b))
    congr 1
    rw [Bool.eq_iff_iff]
    refine (MapKept.bytes_beq a b).trans ?_
    simp only [decide_eq_true_eq]
    exact Iff.rfl
  key _ := trivial
theorem str_eq {a b : Str} : ((ByteArray.toList a == ByteArray.toList b) = true) ↔ a = b := by
  change ByteArray at a b
  constructor
  · intro h
    have h := eq_of_beq h
    rw [ByteArray.toList_eq, ByteArray.toList_eq] at h
    cases a; cases b
    simp only at h
    rw [Array.toList_inj.1 h]
  · rintro rfl; simp
section
variable {α : Type} [DecidableEq α]
def idxI (L : List α) (x : α) : Int := if x ∈ L then (L.idxOf x : Nat) else -1
theorem idx_found {L : List α} {x d : α} {i : Nat} (hi : i < L.length) (hall : ∀ j, j < i → L.getD j d ≠ x) (h : x = L.getD i d) : L.idxOf x = i ∧ x ∈ L := by
  have hx : L[i] = x := by
    rw [h, List.getD_eq_getElem?_getD, List.getElem?_eq_getElem hi]; rfl
  refine ⟨?_, hx ▸ List.getElem_mem hi⟩
  have hm : x ∈ L := hx ▸ List.getElem_mem hi
  have h1 : L.idxOf x < L.length := List.idxOf_lt_length_iff.2 hm
  have h2 : L[L.idxOf x] = x := List.getElem_idxOf h1
  rcases Nat.lt_trichotomy (L.idxOf x) i with h3 | h3 | h3
  · exact absurd (by rw [List.getD_eq_getElem?_getD, List.getElem?_eq_getElem h1]; exact h2) (hall _ h3)
  · exact h3
  · exfalso
    have := List.not_of_lt_findIdx (p := (· == x)) (xs := L) h3
    simp [hx] at this
theorem idx_none {L : List α} {x d : α} (hall : ∀ j, j < L.length → L.getD j d ≠ x) : x ∉ L := by
  intro hm
  have h1 : L.idxOf x < L.length := List.idxOf_lt_length_iff.2 hm
  exact hall _ h1 (by rw [List.getD_eq_getElem?_getD, List.getElem?_eq_getElem h1]; exact List.getElem_idxOf h1)
theorem idxI_found {L : List α} {x d : α} {i : Nat} (hi : i < L.length) (hall : ∀ j, j < i → L.getD j d ≠ x) (h : x = L.getD i d) : idxI L x = (i : Int) := by
  obtain ⟨h1, h2⟩ := idx_found hi hall h
  rw [idxI, if_pos h2, h1]
theorem idxI_none {L : List α} {x d : α} (hall : ∀ j, j < L.length → L.getD j d ≠ x) : idxI L x = -1 := if_neg (idx_none hall)
theorem idxI_mem (L : List α) (x : α) : decide ((0 : Int) ≤ idxI L x) = decide (x ∈ L) := by
  unfold idxI
  by_cases h : x ∈ L
  · simp [h]
  · simp [h]
end
theorem RowV.reads {w0 w : World} {m : Mem} (hw : Has w0 m w) (i : Nat) {e : Option Nat × Obj} (hm : m[i]? = some e) {t : TypeId} {l : List Value} {n : Nat} {g : Nat → Value} {v : Value} (h : RowV t n g v e) (hl : (List.range n).map g = l) : RdL w l v := hl ▸ (RowO.ofV h).rd hw i hm
/-- A row turned about up to place k. -/
def rk (g : Nat → Value) (n k i : Nat) : Value := if i < k ∨ n - 1 - k < i then g (n - 1 - i) else g i
theorem rk_one {g : Nat → Value} {n : Nat} (h1 : ∀ i, i < n → (g i).oneCell' = true) (k : Nat) {i : Nat} (hi : i < n) : (rk g n k i).oneCell' = true := by
  unfold rk; split
  · exact h1 _ (by omega)
  · exact h1 _ hi
theorem rk_zero (g : Nat → Value) (n : Nat) {i : Nat} (hi : i < n) : rk g n 0 i = g i := by
  unfold rk; rw [if_neg (by omega)]
theorem rk_end (g : Nat → Value) {n k : Nat} (h1 : 2 * k ≤ n) (h2 : ¬ k < n - 1 - k) {i : Nat} (hi : i < n) : rk g n k i = g (n - 1 - i) := by
  unfold rk
  by_cases h : i < k ∨ n - 1 - k < i
  · rw [if_pos h]
  · rw [if_neg h, show n - 1 - i = i by omega]
theorem rk_step {g : Nat → Value} {n k : Nat} {cur : Array Value} (h1 : k < n - 1 - k) (hs : n ≤ cur.size) (hc : ∀ i, i < n → cur[i]? = some (rk g n k i)) :
    ∀ i, i < n → ((cur.setIfInBounds k (rk g n k (n - 1 - k))).setIfInBounds (n - 1 - k) (rk g n k k))[i]? = some (rk g n (k + 1) i) := by
  intro i hi
  have hi2 : i < cur.size := by omega
  rw [Array.getElem?_setIfInBounds, Array.getElem?_setIfInBounds]
  by_cases ha : n - 1 - k = i
  · subst ha
    rw [if_pos rfl, if_pos (by simp; omega)]
    unfold rk
    rw [if_neg (by omega), if_pos (by omega)]
    congr 2; omega
  · rw [if_neg ha]
    by_cases hb : k = i
    · subst hb
      rw [if_pos rfl, if_pos (by omega)]
      unfold rk
      rw [if_neg (by omega), if_pos (by omega)]
    · rw [if_neg hb, hc i hi]
      unfold rk
      by_cases h : i < k ∨ n - 1 - k < i
      · rw [if_pos h, if_pos (by omega)]
      · rw [if_neg h, if_neg (by omega)]

end Go.Proofs.Ytocmlaloafmfkaa

set_option linter.unusedVariables false
namespace Go.Proofs.Ytocmlaloafmfkaa
open Go.MW
set_option maxRecDepth 100000 in
set_option maxHeartbeats 400000 in
theorem indexI_spec (L : List Int) (x : Int) (v : Value) (hn : L.length ≤ 1000000) (w : World) (hr : RdL w (iv L) v) :
    Calls Try.prog 51 [v, .int .i64 x].toArray w (PostV w (.int .i64 (idxI L x))) := by
  refine calls_of_WC Try.func51 rfl ?_
  simp only [Try.ntmps51, List.length_cons, List.length_nil, Nat.reduceAdd, Nat.reduceSub, List.replicate, List.cons_append, List.nil_append]
  refine WC_seq ?_
  refine WC_region ?_
  refine WL_det rfl (det_assign) ?_
  dsimp only [put, List.set, ev, nth, List.nil_append, List.cons_append, md, Nat.reducePow, Nat.reduceAdd, Nat.reduceMul]
  refine WL_nil ?_
  refine WC_seq ?_
  refine WC_seq ?_
  refine WC_region ?_
  refine WL_det rfl (det_move) ?_
  dsimp only [put, List.set, ev, nth, List.nil_append, List.cons_append, md, Nat.reducePow, Nat.reduceAdd, Nat.reduceMul]
  refine WL_det rfl (det_lenR Try.underlying43 rfl (fun w hw => RdL.far hw hr) (iv_len L)) ?_
  dsimp only [put, List.set, ev, nth, List.nil_append, List.cons_append, md, Nat.reducePow, Nat.reduceAdd, Nat.reduceMul]
  refine WL_det rfl (det_move) ?_
  dsimp only [put, List.set, ev, nth, List.nil_append, List.cons_append, md, Nat.reducePow, Nat.reduceAdd, Nat.reduceMul]
  refine WL_nil ?_
  refine WC_block ?_
  refine WC_loopS (ι := Nat) [9, 10, 5, 11, 12, 13, 14, 15, 16, 17, 4, 18] (fun i => [(8, vn .i64 (i))]) (fun i => []) (fun i => i ≤ L.length ∧ ∀ j, j < i → L.getD j 0 ≠ x) (fun i => L.length - i) 0 ?_ ?_ ?_ ?_
  · rfl
  · rfl
  · exact ⟨Nat.zero_le _, fun j hj => absurd hj (Nat.not_lt_zero _)⟩
  · rintro i g' ⟨hi, hall⟩
    dsimp only [setAll, setG, setM, List.set]
    refine WC_seq ?_
    refine WC_region ?_
    refine WL_det rfl (det_lss rfl rfl) ?_
    dsimp only [put, List.set, ev, nth, List.nil_append, List.cons_append, md, Nat.reducePow, Nat.reduceAdd, Nat.reduceMul]
    refine WL_nil ?_
    refine WC_seq ?_
    refine WC_cond rfl (fun hc0 => ?_) (fun hc0 => ?_)
    · have hc0 := of_decide_eq_true hc0
      refine WC_skip ?_
      refine WC_seq ?_
      refine WC_block ?_
      refine WC_seq ?_
      refine WC_region ?_
      refine WL_det rfl (det_move) ?_
      dsimp only [put, List.set, ev, nth, List.nil_append, List.cons_append, md, Nat.reducePow, Nat.reduceAdd, Nat.reduceMul]
      refine WL_det rfl (det_assign) ?_
      dsimp only [put, List.set, ev, nth, List.nil_append, List.cons_append, md, Nat.reducePow, Nat.reduceAdd, Nat.reduceMul]
      refine WL_nil ?_
      refine WC_seq ?_
      refine WC_region ?_
      refine WL_det rfl (det_move) ?_
      dsimp only [put, List.set, ev, nth, List.nil_append, List.cons_append, md, Nat.reducePow, Nat.reduceAdd, Nat.reduceMul]
      refine WL_det rfl (det_move) ?_
      dsimp only [put, List.set, ev, nth, List.nil_append, List.cons_append, md, Nat.reducePow, Nat.reduceAdd, Nat.reduceMul]
      refine WL_det rfl (det_move) ?_
      dsimp only [put, List.set, ev, nth, List.nil_append, List.cons_append, md, Nat.reducePow, Nat.reduceAdd, Nat.reduceMul]
      refine WL_det rfl (det_idxR Try.underlying43 Try.sizeOf3 rfl rfl (rfl) (by rw [iv_len]; omega) (fun w hw => RdL.far hw hr)) ?_
      dsimp only [put, List.set, ev, nth, List.nil_append, List.cons_append, md, Nat.reducePow, Nat.reduceAdd, Nat.reduceMul]
      refine WL_det rfl (det_loadR Try.isAgg3 rfl (fun w hw => RdL.far hw hr) (iv_at L (by omega))) ?_
      dsimp only [put, List.set, ev, nth, List.nil_append, List.cons_append, md, Nat.reducePow, Nat.reduceAdd, Nat.reduceMul]
      refine WL_det rfl (det_eqlz rfl rfl) ?_
      dsimp only [put, List.set, ev, nth, List.nil_append, List.cons_append, md, Nat.reducePow, Nat.reduceAdd, Nat.reduceMul]
      refine WL_nil ?_
      refine WC_cond rfl (fun hc1 => ?_) (fun hc1 => ?_)
      · have hc1 : x = L.getD i 0 := by simpa using hc1
        refine WC_seq ?_
        refine WC_region ?_
        refine WL_det rfl (det_move) ?_
        dsimp only [put, List.set, ev, nth, List.nil_append, List.cons_append, md, Nat.reducePow, Nat.reduceAdd, Nat.reduceMul]
        refine WL_det rfl (det_assign) ?_
        dsimp only [put, List.set, ev, nth, List.nil_append, List.cons_append, md, Nat.reducePow, Nat.reduceAdd, Nat.reduceMul]
        refine WL_nil ?_
        refine WC_ret ?_
        refine inB_ret ?_
        refine inB_ret ?_
        refine fin_tmp Try.results51 rfl ([]) (List.nil_sublist _) ?_
        exact ⟨by rw [idxI_found (by omega) hall hc1]; rfl, rfl⟩
      · have hc1 : ¬ x = L.getD i 0 := by simpa using hc1
        refine WC_skip ?_
        refine WC_region ?_
        refine WL_det rfl (det_addi (q := 1) rfl rfl (by omega)) ?_
        dsimp only [put, List.set, ev, nth, List.nil_append, List.cons_append, md, Nat.reducePow, Nat.reduceAdd, Nat.reduceMul]
        refine WL_det rfl (det_move) ?_
        dsimp only [put, List.set, ev, nth, List.nil_append, List.cons_append, md, Nat.reducePow, Nat.reduceAdd, Nat.reduceMul]
        refine WL_nil ?_
        refine ⟨i + 1, ?_, ?_, ?_, ?_⟩
        · rfl
        · rfl
        · exact ⟨by omega, fun j hj => by rcases Nat.lt_succ_iff_lt_or_eq.1 hj with h | rfl; exact hall j h; exact fun e => hc1 e.symm⟩
        · omega
    · have hc0 := of_decide_eq_false hc0
      refine WC_exit ?_
      refine inB_same ?_
      refine WC_seq ?_
      refine WC_region ?_
      refine WL_det rfl (det_assign) ?_
      dsimp only [put, List.set, ev, nth, List.nil_append, List.cons_append, md, Nat.reducePow, Nat.reduceAdd, Nat.reduceMul]
      refine WL_nil ?_
      refine WC_ret ?_
      refine fin_tmp Try.results51 rfl ([]) (List.nil_sublist _) ?_
      exact ⟨by rw [idxI_none fun j hj => hall j (by omega)]; rfl, rfl⟩

theorem indexI_nat (L : List Nat) (x : Nat) (v : Value) (hn : L.length ≤ 1000000) (w : World) (hr : RdL w (nv L) v) : Calls Try.prog 51 #[v, vn .i64 x] w (PostV w (.int .i64 (idxI L x))) := by
  have e : nv L = iv (L.map Int.ofNat) := by simp [nv, iv]
  rw [e] at hr
  have := indexI_spec (L.map Int.ofNat) (x : Int) v (by simpa using hn) w hr
  have e2 : idxI (L.map Int.ofNat) (x : Int) = idxI L x := by
    unfold idxI
    have hm : ((x : Int) ∈ L.map Int.ofNat) ↔ x ∈ L := by
      rw [List.mem_map]
      constructor
      · rintro ⟨y, hy, h⟩; obtain rfl : y = x := by simp at h; omega
        exact hy
      · intro h; exact ⟨x, h, rfl⟩
    have hi : (L.map Int.ofNat).idxOf (x : Int) = L.idxOf x := by
      clear hr e this hn hm
      induction L with
      | nil => rfl
      | cons y L ih =>
        rw [List.map_cons, List.idxOf_cons, List.idxOf_cons, ih]
        have : (Int.ofNat y == (x : Int)) = (y == x) := by
          rw [Bool.eq_iff_iff]; simp; omega
        rw [this]
    by_cases h : x ∈ L
    · rw [if_pos h, if_pos (hm.2 h), hi]
    · rw [if_neg h, if_neg fun h' => h (hm.1 h')]
  rwa [e2] at this

set_option maxRecDepth 100000 in
set_option maxHeartbeats 400000 in
theorem contains_spec (L : List Nat) (x : Nat) (v : Value) (hn : L.length ≤ 1000000) (w : World) (hr : RdL w (nv L) v) :
    Calls Try.prog 64 [v, vn .i64 x].toArray w (PostV w (.bool (decide (x ∈ L)))) := by
  refine calls_of_WC Try.func64 rfl ?_
  simp only [Try.ntmps64, List.length_cons, List.length_nil, Nat.reduceAdd, Nat.reduceSub, List.replicate, List.cons_append, List.nil_append]
  refine WC_seq ?_
  refine WC_region ?_
  refine WL_det rfl (det_assign) ?_
  dsimp only [put, List.set, ev, nth, List.nil_append, List.cons_append, md, Nat.reducePow, Nat.reduceAdd, Nat.reduceMul]
  refine WL_nil ?_
  refine WC_seq ?_
  refine WC_region ?_
  refine WL_det rfl (det_move) ?_
  dsimp only [put, List.set, ev, nth, List.nil_append, List.cons_append, md, Nat.reducePow, Nat.reduceAdd, Nat.reduceMul]
  refine WL_det rfl (det_move) ?_
  dsimp only [put, List.set, ev, nth, List.nil_append, List.cons_append, md, Nat.reducePow, Nat.reduceAdd, Nat.reduceMul]
  refine WL_rel rfl (Rel_call rfl Try.call51 (fun w hw => indexI_nat L x v hn w (RdL.far hw hr))) ?_
  rintro _ _ ⟨rfl, rfl⟩
  dsimp only [put, List.append_nil, List.set, ev, nth, List.nil_append, List.cons_append, md, Nat.reducePow, Nat.reduceAdd, Nat.reduceMul]
  refine WL_det rfl (Det.bv (decide (x ∈ L)) (det_geqz rfl rfl) (idxI_mem L x)) ?_
  dsimp only [put, List.set, ev, nth, List.nil_append, List.cons_append, md, Nat.reducePow, Nat.reduceAdd, Nat.reduceMul]
  refine WL_det rfl (det_assign) ?_
  dsimp only [put, List.set, ev, nth, List.nil_append, List.cons_append, md, Nat.reducePow, Nat.reduceAdd, Nat.reduceMul]
  refine WL_nil ?_
  refine WC_ret ?_
  refine fin_tmp Try.results64 rfl ([]) (List.nil_sublist _) ?_
  exact ⟨rfl, rfl⟩

set_option maxRecDepth 100000 in
set_option maxHeartbeats 400000 in
theorem in_spec (L : List Int) (x : Int) (v : Value) (hn : L.length ≤ 1000000) (w : World) (hr : RdL w (iv L) v) :
    Calls Try.prog 26 [v, .int .i64 x].toArray w (PostV w (.bool (decide (x ∈ L)))) := by
  refine calls_of_WC Try.func26 rfl ?_
  simp only [Try.ntmps26, List.length_cons, List.length_nil, Nat.reduceAdd, Nat.reduceSub, List.replicate, List.cons_append, List.nil_append]
  refine WC_seq ?_
  refine WC_region ?_
  refine WL_det rfl (det_assign) ?_
  dsimp only [put, List.set, ev, nth, List.nil_append, List.cons_append, md, Nat.reducePow, Nat.reduceAdd, Nat.reduceMul]
  refine WL_nil ?_
  refine WC_seq ?_
  refine WC_seq ?_
  refine WC_region ?_
  refine WL_det rfl (det_assign) ?_
  dsimp only [put, List.set, ev, nth, List.nil_append, List.cons_append, md, Nat.reducePow, Nat.reduceAdd, Nat.reduceMul]
  refine WL_nil ?_
  refine WC_block ?_
  refine WC_loopS (ι := Nat) [6, 7, 8, 9, 12, 13, 14, 15, 16, 17, 4, 10, 11] (fun i => [(5, vn .i64 (i))]) (fun i => []) (fun i => i ≤ L.length ∧ ∀ j, j < i → L.getD j 0 ≠ x) (fun i => L.length - i) 0 ?_ ?_ ?_ ?_
  · rfl
  · rfl
  · exact ⟨Nat.zero_le _, fun j hj => absurd hj (Nat.not_lt_zero _)⟩
  · rintro i g' ⟨hi, hall⟩
    dsimp only [setAll, setG, setM, List.set]
    refine WC_seq ?_
    refine WC_seq ?_
    refine WC_region ?_
    refine WL_det rfl (det_move) ?_
    dsimp only [put, List.set, ev, nth, List.nil_append, List.cons_append, md, Nat.reducePow, Nat.reduceAdd, Nat.reduceMul]
    refine WL_det rfl (det_move) ?_
    dsimp only [put, List.set, ev, nth, List.nil_append, List.cons_append, md, Nat.reducePow, Nat.reduceAdd, Nat.reduceMul]
    refine WL_det rfl (det_lenR Try.underlying43 rfl (fun w hw => RdL.far hw hr) (iv_len L)) ?_
    dsimp only [put, List.set, ev, nth, List.nil_append, List.cons_append, md, Nat.reducePow, Nat.reduceAdd, Nat.reduceMul]
    refine WL_det rfl (det_lss rfl rfl) ?_
    dsimp only [put, List.set, ev, nth, List.nil_append, List.cons_append, md, Nat.reducePow, Nat.reduceAdd, Nat.reduceMul]
    refine WL_nil ?_
    refine WC_cond rfl (fun hc0 => ?_) (fun hc0 => ?_)
    · have hc0 := of_decide_eq_true hc0
      refine WC_skip ?_
      refine WC_seq ?_
      refine WC_block ?_
      refine WC_seq ?_
      refine WC_region ?_
      refine WL_det rfl (det_move) ?_
      dsimp only [put, List.set, ev, nth, List.nil_append, List.cons_append, md, Nat.reducePow, Nat.reduceAdd, Nat.reduceMul]
      refine WL_det rfl (det_move) ?_
      dsimp only [put, List.set, ev, nth, List.nil_append, List.cons_append, md, Nat.reducePow, Nat.reduceAdd, Nat.reduceMul]
      refine WL_det rfl (det_idxR Try.underlying43 Try.sizeOf3 rfl rfl (rfl) (by rw [iv_len]; omega) (fun w hw => RdL.far hw hr)) ?_
      dsimp only [put, List.set, ev, nth, List.nil_append, List.cons_append, md, Nat.reducePow, Nat.reduceAdd, Nat.reduceMul]
      refine WL_det rfl (det_loadR Try.isAgg3 rfl (fun w hw => RdL.far hw hr) (iv_at L (by omega))) ?_
      dsimp only [put, List.set, ev, nth, List.nil_append, List.cons_append, md, Nat.reducePow, Nat.reduceAdd, Nat.reduceMul]
      refine WL_det rfl (det_move) ?_
      dsimp only [put, List.set, ev, nth, List.nil_append, List.cons_append, md, Nat.reducePow, Nat.reduceAdd, Nat.reduceMul]
      refine WL_det rfl (det_eqlz rfl rfl) ?_
      dsimp only [put, List.set, ev, nth, List.nil_append, List.cons_append, md, Nat.reducePow, Nat.reduceAdd, Nat.reduceMul]
      refine WL_nil ?_
      refine WC_cond rfl (fun hc1 => ?_) (fun hc1 => ?_)
      · have hc1 : L.getD i 0 = x := by simpa using hc1
        refine WC_seq ?_
        refine WC_region ?_
        refine WL_det rfl (det_assign) ?_
        dsimp only [put, List.set, ev, nth, List.nil_append, List.cons_append, md, Nat.reducePow, Nat.reduceAdd, Nat.reduceMul]
        refine WL_nil ?_
        refine WC_ret ?_
        refine inB_ret ?_
        refine inB_ret ?_
        refine fin_tmp Try.results26 rfl ([]) (List.nil_sublist _) ?_
        exact ⟨by first | (rw [decide_eq_true (idx_found (by omega) hall hc1.symm).2]; rfl) | (rw [decide_eq_false (idx_none fun j hj => hall j (by omega))]; rfl), rfl⟩
      · have hc1 : ¬ L.getD i 0 = x := by simpa using hc1
        refine WC_skip ?_
        refine WC_region ?_
        refine WL_det rfl (det_move) ?_
        dsimp only [put, List.set, ev, nth, List.nil_append, List.cons_append, md, Nat.reducePow, Nat.reduceAdd, Nat.reduceMul]
        refine WL_det rfl (det_addi (q := 1) rfl rfl (by omega)) ?_
        dsimp only [put, List.set, ev, nth, List.nil_append, List.cons_append, md, Nat.reducePow, Nat.reduceAdd, Nat.reduceMul]
        refine WL_det rfl (det_assign) ?_
        dsimp only [put, List.set, ev, nth, List.nil_append, List.cons_append, md, Nat.reducePow, Nat.reduceAdd, Nat.reduceMul]
        refine WL_nil ?_
        refine ⟨i + 1, ?_, ?_, ?_, ?_⟩
        · rfl
        · rfl
        · exact ⟨by omega, fun j hj => by rcases Nat.lt_succ_iff_lt_or_eq.1 hj with h | rfl; exact hall j h; exact hc1⟩
        · omega
    · have hc0 := of_decide_eq_false hc0
      refine WC_exit ?_
      refine inB_same ?_
      refine WC_seq ?_
      refine WC_region ?_
      refine WL_det rfl (det_assign) ?_
      dsimp only [put, List.set, ev, nth, List.nil_append, List.cons_append, md, Nat.reducePow, Nat.reduceAdd, Nat.reduceMul]
      refine WL_nil ?_
      refine WC_ret ?_
      refine fin_tmp Try.results26 rfl ([]) (List.nil_sublist _) ?_
      exact ⟨by first | (rw [decide_eq_true (idx_found (by omega) hall hc1.symm).2]; rfl) | (rw [decide_eq_false (idx_none fun j hj => hall j (by omega))]; rfl), rfl⟩

end Go.Proofs.Ytocmlaloafmfkaa

set_option linter.unusedVariables false
namespace Go.Proofs.Ytocmlaloafmfkaa
open Go.MW
set_option maxRecDepth 100000 in
set_option maxHeartbeats 400000 in
theorem revI_pos (b n c : Nat) (cur : Array Value) (g : Nat → Value) (hn : 0 < n) (hnl : n ≤ 1000000) (hsz : n ≤ cur.size) (h1 : ∀ i, i < n → (g i).oneCell' = true) (hcur : ∀ i, i < n → cur[i]? = some (g i)) {w0 : World} {m0 : Mem} {w : World} (hw0 : Has w0 ((some b, .cells cur 3 (0, 0)) :: m0) w) :
    Calls Try.prog 52 [.slice (some ⟨b, 0, none⟩) n c].toArray w (Post w0 fun v m => ∃ es, (v = .tuple #[] ∧ ∃ cur', cur'.size = cur.size ∧ (∀ i, i < n → cur'[i]? = some (g (n - 1 - i))) ∧ es = [(some b, .cells cur' 3 (0, 0))]) ∧ m = es ++ m0) := by
  refine calls_of_WCm Try.func52 rfl ?_ hw0
  simp only [Try.ntmps52, List.length_cons, List.length_nil, Nat.reduceAdd, Nat.reduceSub, List.replicate, List.cons_append, List.nil_append]
  refine WC_seq ?_
  refine WC_region ?_
  refine WL_det rfl (det_move) ?_
  dsimp only [put, List.take, List.drop, List.set, ev, nth, List.nil_append, List.cons_append, md, Nat.reducePow, Nat.reduceAdd, Nat.reduceMul]
  refine WL_det rfl (det_len Try.underlying43 rfl) ?_
  dsimp only [put, List.take, List.drop, List.set, ev, nth, List.nil_append, List.cons_append, md, Nat.reducePow, Nat.reduceAdd, Nat.reduceMul]
  refine WL_det rfl (det_subz rfl rfl rfl (by omega) (by omega)) ?_
  dsimp only [put, List.take, List.drop, List.set, ev, nth, List.nil_append, List.cons_append, md, Nat.reducePow, Nat.reduceAdd, Nat.reduceMul]
  refine WL_det rfl (det_assign) ?_
  dsimp only [put, List.take, List.drop, List.set, ev, nth, List.nil_append, List.cons_append, md, Nat.reducePow, Nat.reduceAdd, Nat.reduceMul]
  refine WL_det rfl (det_assign) ?_
  dsimp only [put, List.take, List.drop, List.set, ev, nth, List.nil_append, List.cons_append, md, Nat.reducePow, Nat.reduceAdd, Nat.reduceMul]
  refine WL_nil ?_
  refine WC_block ?_
  refine WC_loopS (ι := Nat × Array Value) [7, 8, 9, 14, 15, 16, 17, 18, 19, 20, 21, 22, 23, 24, 25, 26, 27, 10, 11, 12, 13] (fun x => [(2, vn .i64 (x.1)), (3, .int .i64 ((n : Int) - 1 - x.1))]) (fun x => [(0, (some b, .cells x.2 3 (0, 0)))]) (fun x => 2 * x.1 ≤ n ∧ x.2.size = cur.size ∧ ∀ i, i < n → x.2[i]? = some (rk g n x.1 i)) (fun x => n - x.1) (0, cur) ?_ ?_ ?_ ?_
  · have e : (n : Int) - 1 - ((0 : Nat) : Int) = (n : Int) - 1 := by omega
    dsimp only
    rw [e]
    rfl
  · rfl
  · exact ⟨Nat.zero_le _, rfl, fun i hi => by rw [rk_zero g n hi]; exact hcur i hi⟩
  · rintro ⟨k, cur'⟩ g' ⟨hk, hs, hc⟩
    dsimp only [setAll, setG, setM, List.set]
    dsimp only at hk hs hc
    refine WC_seq ?_
    refine WC_seq ?_
    refine WC_region ?_
    refine WL_det rfl (det_move) ?_
    dsimp only [put, List.take, List.drop, List.set, ev, nth, List.nil_append, List.cons_append, md, Nat.reducePow, Nat.reduceAdd, Nat.reduceMul]
    refine WL_det rfl (det_move) ?_
    dsimp only [put, List.take, List.drop, List.set, ev, nth, List.nil_append, List.cons_append, md, Nat.reducePow, Nat.reduceAdd, Nat.reduceMul]
    refine WL_det rfl (det_lssz rfl rfl) ?_
    dsimp only [put, List.take, List.drop, List.set, ev, nth, List.nil_append, List.cons_append, md, Nat.reducePow, Nat.reduceAdd, Nat.reduceMul]
    refine WL_nil ?_
    refine WC_cond rfl (fun hc0 => ?_) (fun hc0 => ?_)
    · have hc0 := of_decide_eq_true hc0
      refine WC_skip ?_
      refine WC_seq ?_
      refine WC_block ?_
      refine WC_draw [[], [], [], [], [], [], [4, 5], [4, 5, 6], [], [], [8, 9], [8, 9, 10], [0, 1, 4, 5, 6, 7, 8, 9, 10, 11], [0, 1, 4, 5, 6, 7, 8, 9, 10, 11, 12], [0, 1, 2, 3, 4, 5, 6, 7, 8, 9, 10, 11, 12, 13], [0, 1, 2, 3, 4, 5, 6, 7, 8, 9, 10, 11, 12, 13, 14]] [13, 15] 28 [] (List.nil_sublist _) mixed rfl (by decide) ?_
      refine RW.pure rfl rfl (fun _ => rfl) (fun V hV => det_move) (fun _ _ _ => rfl) ?_
      dsimp only [put, List.set, ev, nth, List.nil_append, List.cons_append, md, Nat.reducePow, Nat.reduceAdd, Nat.reduceMul]
      refine RW.pure rfl rfl (fun _ => rfl) (fun V hV => det_move) (fun _ _ _ => rfl) ?_
      dsimp only [put, List.set, ev, nth, List.nil_append, List.cons_append, md, Nat.reducePow, Nat.reduceAdd, Nat.reduceMul]
      refine RW.pure rfl rfl (fun _ => rfl) (fun V hV => det_move) (fun _ _ _ => rfl) ?_
      dsimp only [put, List.set, ev, nth, List.nil_append, List.cons_append, md, Nat.reducePow, Nat.reduceAdd, Nat.reduceMul]
      refine RW.pure rfl rfl (fun _ => rfl) (fun V hV => det_move) (fun _ _ _ => rfl) ?_
      dsimp only [put, List.set, ev, nth, List.nil_append, List.cons_append, md, Nat.reducePow, Nat.reduceAdd, Nat.reduceMul]
      refine RW.pure rfl rfl (fun _ => rfl) (fun V hV => det_move) (fun _ _ _ => rfl) ?_
      dsimp only [put, List.set, ev, nth, List.nil_append, List.cons_append, md, Nat.reducePow, Nat.reduceAdd, Nat.reduceMul]
      refine RW.pure rfl rfl (fun _ => rfl) (fun V hV => det_move) (fun _ _ _ => rfl) ?_
      dsimp only [put, List.set, ev, nth, List.nil_append, List.cons_append, md, Nat.reducePow, Nat.reduceAdd, Nat.reduceMul]
      refine RW.pure rfl rfl (fun _ => rfl) (fun V hV => det_idxS0 (j := n - 1 - k) Try.underlying43 Try.sizeOf3 rfl rfl (by omega) (by omega)) (fun _ _ _ => rfl) ?_
      dsimp only [put, List.set, ev, nth, List.nil_append, List.cons_append, md, Nat.reducePow, Nat.reduceAdd, Nat.reduceMul]
      refine RW.det [] rfl rfl rfl rfl (fun _ => rfl) (fun V hV => Det.rel (det_load 0 Try.isAgg3 rfl rfl (hc _ (by omega)))) (fun _ _ _ => rfl) ?_
      dsimp only [put, List.set, ev, nth, List.nil_append, List.cons_append, md, Nat.reducePow, Nat.reduceAdd, Nat.reduceMul]
      refine RW.pure rfl rfl (fun _ => rfl) (fun V hV => det_move) (fun _ _ _ => rfl) ?_
      dsimp only [put, List.set, ev, nth, List.nil_append, List.cons_append, md, Nat.reducePow, Nat.reduceAdd, Nat.reduceMul]
      refine RW.pure rfl rfl (fun _ => rfl) (fun V hV => det_move) (fun _ _ _ => rfl) ?_
      dsimp only [put, List.set, ev, nth, List.nil_append, List.cons_append, md, Nat.reducePow, Nat.reduceAdd, Nat.reduceMul]
      refine RW.pure rfl rfl (fun _ => rfl) (fun V hV => det_idxS0 Try.underlying43 Try.sizeOf3 rfl rfl (rfl) (by omega)) (fun _ _ _ => rfl) ?_
      dsimp only [put, List.set, ev, nth, List.nil_append, List.cons_append, md, Nat.reducePow, Nat.reduceAdd, Nat.reduceMul]
      refine RW.det [] rfl rfl rfl rfl (fun _ => rfl) (fun V hV => Det.rel (det_load 0 Try.isAgg3 rfl rfl (hc _ (by omega)))) (fun _ _ _ => rfl) ?_
      dsimp only [put, List.set, ev, nth, List.nil_append, List.cons_append, md, Nat.reducePow, Nat.reduceAdd, Nat.reduceMul]
      refine RW.pure rfl rfl (fun _ => rfl) (fun V hV => det_idxS0 Try.underlying43 Try.sizeOf3 rfl rfl (rfl) (by omega)) (fun _ _ _ => rfl) ?_
      dsimp only [put, List.set, ev, nth, List.nil_append, List.cons_append, md, Nat.reducePow, Nat.reduceAdd, Nat.reduceMul]
      refine RW.tail' (B := fun V => _ ++ flat [] V) rfl rfl rfl rfl (fun _ => rfl) (fun V hV => chg_store 0 Try.sizeOf3 rfl rfl (by omega) rfl (rk_one h1 _ (by omega))) (fun _ _ _ _ _ h => h) (fun _ _ _ _ _ => List.nil_sublist _) ?_
      dsimp only [put, List.set, ev, nth, List.nil_append, List.cons_append, md, Nat.reducePow, Nat.reduceAdd, Nat.reduceMul]
      refine RW.pure rfl rfl (fun _ => rfl) (fun V hV => det_idxS0 (j := n - 1 - k) Try.underlying43 Try.sizeOf3 rfl rfl (by omega) (by omega)) (fun _ _ _ => rfl) ?_
      dsimp only [put, List.set, ev, nth, List.nil_append, List.cons_append, md, Nat.reducePow, Nat.reduceAdd, Nat.reduceMul]
      refine RW.tail' (B := fun V => (V 13).2) rfl rfl rfl rfl (fun _ => rfl) (fun V hV => by have hp : (V 13).2 = _ := hV 13 (by decide) _ rfl; rw [hp]; exact chg_store 0 Try.sizeOf3 rfl rfl (by rw [Array.size_setIfInBounds]; omega) rfl (rk_one h1 _ (by omega))) (fun V V' hV _ _ h => by simpa only [flat_cons, flat_nil, hV 13 (by decide)] using h) (fun _ _ _ _ _ => List.nil_sublist _) ?_
      dsimp only [put, List.set, ev, nth, List.nil_append, List.cons_append, md, Nat.reducePow, Nat.reduceAdd, Nat.reduceMul]
      refine RW.done (fun V => (V 15).2) rfl rfl (fun _ => rfl) (fun V hV => ?_)
      have ht15 : (V 15).2 = _ := hV 15 _ rfl
      simp only [ht15, List.append_nil, flat_nil]
      try simp only [flat_nil, List.append_nil]
      try dsimp only [put, blk, flat_nil, List.append_nil, List.append, List.eraseIdx, List.set, ev, nth, List.nil_append, List.cons_append, md, Nat.reducePow, Nat.reduceAdd, Nat.reduceMul]
      clear hV ht15
      refine WC_region ?_
      refine WL_det rfl (det_move) ?_
      dsimp only [put, List.take, List.drop, List.set, ev, nth, List.nil_append, List.cons_append, md, Nat.reducePow, Nat.reduceAdd, Nat.reduceMul]
      refine WL_det rfl (det_addi (q := 1) rfl rfl (by omega)) ?_
      dsimp only [put, List.take, List.drop, List.set, ev, nth, List.nil_append, List.cons_append, md, Nat.reducePow, Nat.reduceAdd, Nat.reduceMul]
      refine WL_det rfl (det_move) ?_
      dsimp only [put, List.take, List.drop, List.set, ev, nth, List.nil_append, List.cons_append, md, Nat.reducePow, Nat.reduceAdd, Nat.reduceMul]
      refine WL_det rfl (det_subz rfl rfl rfl (by omega) (by omega)) ?_
      dsimp only [put, List.take, List.drop, List.set, ev, nth, List.nil_append, List.cons_append, md, Nat.reducePow, Nat.reduceAdd, Nat.reduceMul]
      refine WL_det rfl (det_assign) ?_
      dsimp only [put, List.take, List.drop, List.set, ev, nth, List.nil_append, List.cons_append, md, Nat.reducePow, Nat.reduceAdd, Nat.reduceMul]
      refine WL_det rfl (det_assign) ?_
      dsimp only [put, List.take, List.drop, List.set, ev, nth, List.nil_append, List.cons_append, md, Nat.reducePow, Nat.reduceAdd, Nat.reduceMul]
      refine WL_nil ?_
      refine ⟨(k + 1, (cur'.setIfInBounds k (rk g n k (n - 1 - k))).setIfInBounds (n - 1 - k) (rk g n k k)), ?_, ?_, ?_, ?_⟩
      · have e : (n : Int) - 1 - ((k + 1 : Nat) : Int) = (n : Int) - 1 - k - 1 := by omega
        dsimp only
        rw [e]
        rfl
      · rfl
      · exact ⟨by dsimp only; omega, by simpa using hs, rk_step (by omega) (by omega) hc⟩
      · dsimp only; omega
    · have hc0 := of_decide_eq_false hc0
      refine WC_exit ?_
      refine inB_same ?_
      refine fin_none Try.results52 (_) (List.Sublist.refl _) ?_
      exact ⟨_, ⟨rfl, _, hs, fun i hi => by rw [hc i hi, rk_end g hk (by omega) hi], rfl⟩, rfl⟩

set_option maxRecDepth 100000 in
set_option maxHeartbeats 400000 in
theorem indexS_spec (L : List Str) (x : Str) (v : Value) (hn : L.length ≤ 1000000) (w : World) (hr : RdL w (sv L) v) :
    Calls Try.prog 62 [v, .string x].toArray w (PostV w (.int .i64 (idxI L x))) := by
  refine calls_of_WC Try.func62 rfl ?_
  simp only [Try.ntmps62, List.length_cons, List.length_nil, Nat.reduceAdd, Nat.reduceSub, List.replicate, List.cons_append, List.nil_append]
  refine WC_seq ?_
  refine WC_region ?_
  refine WL_det rfl (det_assign) ?_
  dsimp only [put, List.set, ev, nth, List.nil_append, List.cons_append, md, Nat.reducePow, Nat.reduceAdd, Nat.reduceMul]
  refine WL_nil ?_
  refine WC_seq ?_
  refine WC_seq ?_
  refine WC_region ?_
  refine WL_det rfl (det_move) ?_
  dsimp only [put, List.set, ev, nth, List.nil_append, List.cons_append, md, Nat.reducePow, Nat.reduceAdd, Nat.reduceMul]
  refine WL_det rfl (det_lenR Try.underlying22 rfl (fun w hw => RdL.far hw hr) (sv_len L)) ?_
  dsimp only [put, List.set, ev, nth, List.nil_append, List.cons_append, md, Nat.reducePow, Nat.reduceAdd, Nat.reduceMul]
  refine WL_det rfl (det_move) ?_
  dsimp only [put, List.set, ev, nth, List.nil_append, List.cons_append, md, Nat.reducePow, Nat.reduceAdd, Nat.reduceMul]
  refine WL_nil ?_
  refine WC_block ?_
  refine WC_loopS (ι := Nat) [9, 10, 5, 11, 12, 13, 14, 15, 16, 17, 4, 18] (fun i => [(8, vn .i64 (i))]) (fun i => []) (fun i => i ≤ L.length ∧ ∀ j, j < i → L.getD j str0 ≠ x) (fun i => L.length - i) 0 ?_ ?_ ?_ ?_
  · rfl
  · rfl
  · exact ⟨Nat.zero_le _, fun j hj => absurd hj (Nat.not_lt_zero _)⟩
  · rintro i g' ⟨hi, hall⟩
    dsimp only [setAll, setG, setM, List.set]
    refine WC_seq ?_
    refine WC_region ?_
    refine WL_det rfl (det_lss rfl rfl) ?_
    dsimp only [put, List.set, ev, nth, List.nil_append, List.cons_append, md, Nat.reducePow, Nat.reduceAdd, Nat.reduceMul]
    refine WL_nil ?_
    refine WC_seq ?_
    refine WC_cond rfl (fun hc0 => ?_) (fun hc0 => ?_)
    · have hc0 := of_decide_eq_true hc0
      refine WC_skip ?_
      refine WC_seq ?_
      refine WC_block ?_
      refine WC_seq ?_
      refine WC_region ?_
      refine WL_det rfl (det_move) ?_
      dsimp only [put, List.set, ev, nth, List.nil_append, List.cons_append, md, Nat.reducePow, Nat.reduceAdd, Nat.reduceMul]
      refine WL_det rfl (det_assign) ?_
      dsimp only [put, List.set, ev, nth, List.nil_append, List.cons_append, md, Nat.reducePow, Nat.reduceAdd, Nat.reduceMul]
      refine WL_nil ?_
      refine WC_seq ?_
      refine WC_region ?_
      refine WL_det rfl (det_move) ?_
      dsimp only [put, List.set, ev, nth, List.nil_append, List.cons_append, md, Nat.reducePow, Nat.reduceAdd, Nat.reduceMul]
      refine WL_det rfl (det_move) ?_
      dsimp only [put, List.set, ev, nth, List.nil_append, List.cons_append, md, Nat.reducePow, Nat.reduceAdd, Nat.reduceMul]
      refine WL_det rfl (det_move) ?_
      dsimp only [put, List.set, ev, nth, List.nil_append, List.cons_append, md, Nat.reducePow, Nat.reduceAdd, Nat.reduceMul]
      refine WL_det rfl (det_idxR Try.underlying22 Try.sizeOf9 rfl rfl (rfl) (by rw [sv_len]; omega) (fun w hw => RdL.far hw hr)) ?_
      dsimp only [put, List.set, ev, nth, List.nil_append, List.cons_append, md, Nat.reducePow, Nat.reduceAdd, Nat.reduceMul]
      refine WL_det rfl (det_loadR Try.isAgg9 rfl (fun w hw => RdL.far hw hr) (sv_at L (by omega))) ?_
      dsimp only [put, List.set, ev, nth, List.nil_append, List.cons_append, md, Nat.reducePow, Nat.reduceAdd, Nat.reduceMul]
      refine WL_det rfl (det_eqlStr rfl rfl) ?_
      dsimp only [put, List.set, ev, nth, List.nil_append, List.cons_append, md, Nat.reducePow, Nat.reduceAdd, Nat.reduceMul]
      refine WL_nil ?_
      refine WC_cond rfl (fun hc1 => ?_) (fun hc1 => ?_)
      · have hc1 : x = L.getD i str0 := str_eq.1 hc1
        refine WC_seq ?_
        refine WC_region ?_
        refine WL_det rfl (det_move) ?_
        dsimp only [put, List.set, ev, nth, List.nil_append, List.cons_append, md, Nat.reducePow, Nat.reduceAdd, Nat.reduceMul]
        refine WL_det rfl (det_assign) ?_
        dsimp only [put, List.set, ev, nth, List.nil_append, List.cons_append, md, Nat.reducePow, Nat.reduceAdd, Nat.reduceMul]
        refine WL_nil ?_
        refine WC_ret ?_
        refine inB_ret ?_
        refine inB_ret ?_
        refine fin_tmp Try.results62 rfl ([]) (List.nil_sublist _) ?_
        exact ⟨by rw [idxI_found (by omega) hall hc1]; rfl, rfl⟩
      · have hc1 : ¬ x = L.getD i str0 := fun e => by rw [str_eq.2 e] at hc1; cases hc1
        refine WC_skip ?_
        refine WC_region ?_
        refine WL_det rfl (det_addi (q := 1) rfl rfl (by omega)) ?_
        dsimp only [put, List.set, ev, nth, List.nil_append, List.cons_append, md, Nat.reducePow, Nat.reduceAdd, Nat.reduceMul]
        refine WL_det rfl (det_move) ?_
        dsimp only [put, List.set, ev, nth, List.nil_append, List.cons_append, md, Nat.reducePow, Nat.reduceAdd, Nat.reduceMul]
        refine WL_nil ?_
        refine ⟨i + 1, ?_, ?_, ?_, ?_⟩
        · rfl
        · rfl
        · exact ⟨by omega, fun j hj => by rcases Nat.lt_succ_iff_lt_or_eq.1 hj with h | rfl; exact hall j h; exact fun e => hc1 e.symm⟩
        · omega
    · have hc0 := of_decide_eq_false hc0
      refine WC_exit ?_
      refine inB_same ?_
      refine WC_seq ?_
      refine WC_region ?_
      refine WL_det rfl (det_assign) ?_
      dsimp only [put, List.set, ev, nth, List.nil_append, List.cons_append, md, Nat.reducePow, Nat.reduceAdd, Nat.reduceMul]
      refine WL_nil ?_
      refine WC_ret ?_
      refine fin_tmp Try.results62 rfl ([]) (List.nil_sublist _) ?_
      exact ⟨by rw [idxI_none fun j hj => hall j (by omega)]; rfl, rfl⟩

set_option maxRecDepth 100000 in
set_option maxHeartbeats 400000 in
theorem revS_pos (b n c : Nat) (cur : Array Value) (g : Nat → Value) (hn : 0 < n) (hnl : n ≤ 1000000) (hsz : n ≤ cur.size) (h1 : ∀ i, i < n → (g i).oneCell' = true) (hcur : ∀ i, i < n → cur[i]? = some (g i)) {w0 : World} {m0 : Mem} {w : World} (hw0 : Has w0 ((some b, .cells cur 9 (0, 0)) :: m0) w) :
    Calls Try.prog 63 [.slice (some ⟨b, 0, none⟩) n c].toArray w (Post w0 fun v m => ∃ es, (v = .tuple #[] ∧ ∃ cur', cur'.size = cur.size ∧ (∀ i, i < n → cur'[i]? = some (g (n - 1 - i))) ∧ es = [(some b, .cells cur' 9 (0, 0))]) ∧ m = es ++ m0) := by
  refine calls_of_WCm Try.func63 rfl ?_ hw0
  simp only [Try.ntmps63, List.length_cons, List.length_nil, Nat.reduceAdd, Nat.reduceSub, List.replicate, List.cons_append, List.nil_append]
  refine WC_seq ?_
  refine WC_region ?_
  refine WL_det rfl (det_move) ?_
  dsimp only [put, List.take, List.drop, List.set, ev, nth, List.nil_append, List.cons_append, md, Nat.reducePow, Nat.reduceAdd, Nat.reduceMul]
  refine WL_det rfl (det_len Try.underlying22 rfl) ?_
  dsimp only [put, List.take, List.drop, List.set, ev, nth, List.nil_append, List.cons_append, md, Nat.reducePow, Nat.reduceAdd, Nat.reduceMul]
  refine WL_det rfl (det_subz rfl rfl rfl (by omega) (by omega)) ?_
  dsimp only [put, List.take, List.drop, List.set, ev, nth, List.nil_append, List.cons_append, md, Nat.reducePow, Nat.reduceAdd, Nat.reduceMul]
  refine WL_det rfl (det_assign) ?_
  dsimp only [put, List.take, List.drop, List.set, ev, nth, List.nil_append, List.cons_append, md, Nat.reducePow, Nat.reduceAdd, Nat.reduceMul]
  refine WL_det rfl (det_assign) ?_
  dsimp only [put, List.take, List.drop, List.set, ev, nth, List.nil_append, List.cons_append, md, Nat.reducePow, Nat.reduceAdd, Nat.reduceMul]
  refine WL_nil ?_
  refine WC_block ?_
  refine WC_loopS (ι := Nat × Array Value) [7, 8, 9, 14, 15, 16, 17, 18, 19, 20, 21, 22, 23, 24, 25, 26, 27, 10, 11, 12, 13] (fun x => [(2, vn .i64 (x.1)), (3, .int .i64 ((n : Int) - 1 - x.1))]) (fun x => [(0, (some b, .cells x.2 9 (0, 0)))]) (fun x => 2 * x.1 ≤ n ∧ x.2.size = cur.size ∧ ∀ i, i < n → x.2[i]? = some (rk g n x.1 i)) (fun x => n - x.1) (0, cur) ?_ ?_ ?_ ?_
  · have e : (n : Int) - 1 - ((0 : Nat) : Int) = (n : Int) - 1 := by omega
    dsimp only
    rw [e]
    rfl
  · rfl
  · exact ⟨Nat.zero_le _, rfl, fun i hi => by rw [rk_zero g n hi]; exact hcur i hi⟩
  · rintro ⟨k, cur'⟩ g' ⟨hk, hs, hc⟩
    dsimp only [setAll, setG, setM, List.set]
    dsimp only at hk hs hc
    refine WC_seq ?_
    refine WC_seq ?_
    refine WC_region ?_
    refine WL_det rfl (det_move) ?_
    dsimp only [put, List.take, List.drop, List.set, ev, nth, List.nil_append, List.cons_append, md, Nat.reducePow, Nat.reduceAdd, Nat.reduceMul]
    refine WL_det rfl (det_move) ?_
    dsimp only [put, List.take, List.drop, List.set, ev, nth, List.nil_append, List.cons_append, md, Nat.reducePow, Nat.reduceAdd, Nat.reduceMul]
    refine WL_det rfl (det_lssz rfl rfl) ?_
    dsimp only [put, List.take, List.drop, List.set, ev, nth, List.nil_append, List.cons_append, md, Nat.reducePow, Nat.reduceAdd, Nat.reduceMul]
    refine WL_nil ?_
    refine WC_cond rfl (fun hc0 => ?_) (fun hc0 => ?_)
    · have hc0 := of_decide_eq_true hc0
      refine WC_skip ?_
      refine WC_seq ?_
      refine WC_block ?_
      refine WC_draw [[], [], [], [], [], [], [4, 5], [4, 5, 6], [], [], [8, 9], [8, 9, 10], [0, 1, 4, 5, 6, 7, 8, 9, 10, 11], [0, 1, 4, 5, 6, 7, 8, 9, 10, 11, 12], [0, 1, 2, 3, 4, 5, 6, 7, 8, 9, 10, 11, 12, 13], [0, 1, 2, 3, 4, 5, 6, 7, 8, 9, 10, 11, 12, 13, 14]] [13, 15] 28 [] (List.nil_sublist _) mixed rfl (by decide) ?_
      refine RW.pure rfl rfl (fun _ => rfl) (fun V hV => det_move) (fun _ _ _ => rfl) ?_
      dsimp only [put, List.set, ev, nth, List.nil_append, List.cons_append, md, Nat.reducePow, Nat.reduceAdd, Nat.reduceMul]
      refine RW.pure rfl rfl (fun _ => rfl) (fun V hV => det_move) (fun _ _ _ => rfl) ?_
      dsimp only [put, List.set, ev, nth, List.nil_append, List.cons_append, md, Nat.reducePow, Nat.reduceAdd, Nat.reduceMul]
      refine RW.pure rfl rfl (fun _ => rfl) (fun V hV => det_move) (fun _ _ _ => rfl) ?_
      dsimp only [put, List.set, ev, nth, List.nil_append, List.cons_append, md, Nat.reducePow, Nat.reduceAdd, Nat.reduceMul]
      refine RW.pure rfl rfl (fun _ => rfl) (fun V hV => det_move) (fun _ _ _ => rfl) ?_
      dsimp only [put, List.set, ev, nth, List.nil_append, List.cons_append, md, Nat.reducePow, Nat.reduceAdd, Nat.reduceMul]
      refine RW.pure rfl rfl (fun _ => rfl) (fun V hV => det_move) (fun _ _ _ => rfl) ?_
      dsimp only [put, List.set, ev, nth, List.nil_append, List.cons_append, md, Nat.reducePow, Nat.reduceAdd, Nat.reduceMul]
      refine RW.pure rfl rfl (fun _ => rfl) (fun V hV => det_move) (fun _ _ _ => rfl) ?_
      dsimp only [put, List.set, ev, nth, List.nil_append, List.cons_append, md, Nat.reducePow, Nat.reduceAdd, Nat.reduceMul]
      refine RW.pure rfl rfl (fun _ => rfl) (fun V hV => det_idxS0 (j := n - 1 - k) Try.underlying22 Try.sizeOf9 rfl rfl (by omega) (by omega)) (fun _ _ _ => rfl) ?_
      dsimp only [put, List.set, ev, nth, List.nil_append, List.cons_append, md, Nat.reducePow, Nat.reduceAdd, Nat.reduceMul]
      refine RW.det [] rfl rfl rfl rfl (fun _ => rfl) (fun V hV => Det.rel (det_load 0 Try.isAgg9 rfl rfl (hc _ (by omega)))) (fun _ _ _ => rfl) ?_
      dsimp only [put, List.set, ev, nth, List.nil_append, List.cons_append, md, Nat.reducePow, Nat.reduceAdd, Nat.reduceMul]
      refine RW.pure rfl rfl (fun _ => rfl) (fun V hV => det_move) (fun _ _ _ => rfl) ?_
      dsimp only [put, List.set, ev, nth, List.nil_append, List.cons_append, md, Nat.reducePow, Nat.reduceAdd, Nat.reduceMul]
      refine RW.pure rfl rfl (fun _ => rfl) (fun V hV => det_move) (fun _ _ _ => rfl) ?_
      dsimp only [put, List.set, ev, nth, List.nil_append, List.cons_append, md, Nat.reducePow, Nat.reduceAdd, Nat.reduceMul]
      refine RW.pure rfl rfl (fun _ => rfl) (fun V hV => det_idxS0 Try.underlying22 Try.sizeOf9 rfl rfl (rfl) (by omega)) (fun _ _ _ => rfl) ?_
      dsimp only [put, List.set, ev, nth, List.nil_append, List.cons_append, md, Nat.reducePow, Nat.reduceAdd, Nat.reduceMul]
      refine RW.det [] rfl rfl rfl rfl (fun _ => rfl) (fun V hV => Det.rel (det_load 0 Try.isAgg9 rfl rfl (hc _ (by omega)))) (fun _ _ _ => rfl) ?_
      dsimp only [put, List.set, ev, nth, List.nil_append, List.cons_append, md, Nat.reducePow, Nat.reduceAdd, Nat.reduceMul]
      refine RW.pure rfl rfl (fun _ => rfl) (fun V hV => det_idxS0 Try.underlying22 Try.sizeOf9 rfl rfl (rfl) (by omega)) (fun _ _ _ => rfl) ?_
      dsimp only [put, List.set, ev, nth, List.nil_append, List.cons_append, md, Nat.reducePow, Nat.reduceAdd, Nat.reduceMul]
      refine RW.tail' (B := fun V => _ ++ flat [] V) rfl rfl rfl rfl (fun _ => rfl) (fun V hV => chg_store 0 Try.sizeOf9 rfl rfl (by omega) rfl (rk_one h1 _ (by omega))) (fun _ _ _ _ _ h => h) (fun _ _ _ _ _ => List.nil_sublist _) ?_
      dsimp only [put, List.set, ev, nth, List.nil_append, List.cons_append, md, Nat.reducePow, Nat.reduceAdd, Nat.reduceMul]
      refine RW.pure rfl rfl (fun _ => rfl) (fun V hV => det_idxS0 (j := n - 1 - k) Try.underlying22 Try.sizeOf9 rfl rfl (by omega) (by omega)) (fun _ _ _ => rfl) ?_
      dsimp only [put, List.set, ev, nth, List.nil_append, List.cons_append, md, Nat.reducePow, Nat.reduceAdd, Nat.reduceMul]
      refine RW.tail' (B := fun V => (V 13).2) rfl rfl rfl rfl (fun _ => rfl) (fun V hV => by have hp : (V 13).2 = _ := hV 13 (by decide) _ rfl; rw [hp]; exact chg_store 0 Try.sizeOf9 rfl rfl (by rw [Array.size_setIfInBounds]; omega) rfl (rk_one h1 _ (by omega))) (fun V V' hV _ _ h => by simpa only [flat_cons, flat_nil, hV 13 (by decide)] using h) (fun _ _ _ _ _ => List.nil_sublist _) ?_
      dsimp only [put, List.set, ev, nth, List.nil_append, List.cons_append, md, Nat.reducePow, Nat.reduceAdd, Nat.reduceMul]
      refine RW.done (fun V => (V 15).2) rfl rfl (fun _ => rfl) (fun V hV => ?_)
      have ht15 : (V 15).2 = _ := hV 15 _ rfl
      simp only [ht15, List.append_nil, flat_nil]
      try simp only [flat_nil, List.append_nil]
      try dsimp only [put, blk, flat_nil, List.append_nil, List.append, List.eraseIdx, List.set, ev, nth, List.nil_append, List.cons_append, md, Nat.reducePow, Nat.reduceAdd, Nat.reduceMul]
      clear hV ht15
      refine WC_region ?_
      refine WL_det rfl (det_move) ?_
      dsimp only [put, List.take, List.drop, List.set, ev, nth, List.nil_append, List.cons_append, md, Nat.reducePow, Nat.reduceAdd, Nat.reduceMul]
      refine WL_det rfl (det_addi (q := 1) rfl rfl (by omega)) ?_
      dsimp only [put, List.take, List.drop, List.set, ev, nth, List.nil_append, List.cons_append, md, Nat.reducePow, Nat.reduceAdd, Nat.reduceMul]
      refine WL_det rfl (det_move) ?_
      dsimp only [put, List.take, List.drop, List.set, ev, nth, List.nil_append, List.cons_append, md, Nat.reducePow, Nat.reduceAdd, Nat.reduceMul]
      refine WL_det rfl (det_subz rfl rfl rfl (by omega) (by omega)) ?_
      dsimp only [put, List.take, List.drop, List.set, ev, nth, List.nil_append, List.cons_append, md, Nat.reducePow, Nat.reduceAdd, Nat.reduceMul]
      refine WL_det rfl (det_assign) ?_
      dsimp only [put, List.take, List.drop, List.set, ev, nth, List.nil_append, List.cons_append, md, Nat.reducePow, Nat.reduceAdd, Nat.reduceMul]
      refine WL_det rfl (det_assign) ?_
      dsimp only [put, List.take, List.drop, List.set, ev, nth, List.nil_append, List.cons_append, md, Nat.reducePow, Nat.reduceAdd, Nat.reduceMul]
      refine WL_nil ?_
      refine ⟨(k + 1, (cur'.setIfInBounds k (rk g n k (n - 1 - k))).setIfInBounds (n - 1 - k) (rk g n k k)), ?_, ?_, ?_, ?_⟩
      · have e : (n : Int) - 1 - ((k + 1 : Nat) : Int) = (n : Int) - 1 - k - 1 := by omega
        dsimp only
        rw [e]
        rfl
      · rfl
      · exact ⟨by dsimp only; omega, by simpa using hs, rk_step (by omega) (by omega) hc⟩
      · dsimp only; omega
    · have hc0 := of_decide_eq_false hc0
      refine WC_exit ?_
      refine inB_same ?_
      refine fin_none Try.results63 (_) (List.Sublist.refl _) ?_
      exact ⟨_, ⟨rfl, _, hs, fun i hi => by rw [hc i hi, rk_end g hk (by omega) hi], rfl⟩, rfl⟩

end Go.Proofs.Ytocmlaloafmfkaa

set_option linter.unusedVariables false
namespace Go.Proofs.Ytocmlaloafmfkaa
open Go.MW
section
variable {α : Type} [DecidableEq α]
def addN (L : List α) (x : α) : List α := if x ∈ L then L else L ++ [x]
theorem addN_mem (L : List α) (x : α) : x ∈ addN L x := by unfold addN; split <;> simp_all
theorem addN_sub {L : List α} {x y : α} (h : y ∈ L) : y ∈ addN L x := by unfold addN; split <;> simp [h]
theorem addN_len (L : List α) (x : α) : (addN L x).length ≤ L.length + 1 := by unfold addN; split <;> simp
theorem idxOf_app {L R : List α} {x : α} (h : x ∈ L) : (L ++ R).idxOf x = L.idxOf x := by rw [List.idxOf_append, if_pos h]
theorem addN_idx {L : List α} {x y : α} (h : y ∈ L) : (addN L x).idxOf y = L.idxOf y := by
  unfold addN; split
  · rfl
  · exact idxOf_app h
theorem addN_nodup {L : List α} (h : L.Nodup) (x : α) : (addN L x).Nodup := by
  unfold addN; split
  · exact h
  · rename_i hx
    rw [List.nodup_append]
    exact ⟨h, by simp, fun a ha b hb => by simp at hb; subst hb; exact fun e => hx (e ▸ ha)⟩
def kvs (Kk : KeyK α) (L : List α) : List Value := L.map Kk.kv
def rvl (rv : Nat → Value) (n : Nat) : List Value := (List.range n).map rv
theorem rvl_len (rv : Nat → Value) (n : Nat) : (rvl rv n).length = n := by simp [rvl]
theorem rvl_at (rv : Nat → Value) (n : Nat) {i : Nat} (h : i < n) : (rvl rv n)[i]? = some (rv i) := by simp [rvl, h]
/-- A graph's memory: its struct, its map, its nodes, the row of its rows, and the rows. -/
def GMv (Kk : KeyK α) (te tg gb mb : Nat) (nv' ov : Value) (rv : Nat → Value) (N : List α) (O : Nat → List Nat) (c : Nat) (M : Mem) : Prop :=
  ∃ en eo re, M = (some gb, .cells #[.map (some mb), nv', ov, vn .i64 c] tg (0, 0)) :: (some mb, mapO Kk N) :: en :: eo :: (List.range N.length).map re ∧
    RowO te (kvs Kk N) nv' en ∧ RowO 43 (rvl rv N.length) ov eo ∧ ∀ a, a < N.length → RowO 3 (nv (O a)) (rv a) (re a)
def GM (Kk : KeyK α) (te tg gb : Nat) (N : List α) (O : Nat → List Nat) (c : Nat) (M : Mem) : Prop := ∃ mb nv' ov rv, GMv Kk te tg gb mb nv' ov rv N O c M
/-- What a graph is, in a world. -/
def GFv (Kk : KeyK α) (tg gb mb : Nat) (nv' ov : Value) (rv : Nat → Value) (N : List α) (O : Nat → List Nat) (c : Nat) (w : World) : Prop :=
  w.heap[gb]? = some (.cells #[.map (some mb), nv', ov, vn .i64 c] tg (0, 0)) ∧ w.heap[mb]? = some (mapO Kk N) ∧ RdL w (kvs Kk N) nv' ∧ RdL w (rvl rv N.length) ov ∧ ∀ a, a < N.length → RdL w (nv (O a)) (rv a)
def GF (Kk : KeyK α) (tg gb : Nat) (N : List α) (O : Nat → List Nat) (c : Nat) (w : World) : Prop := ∃ mb nv' ov rv, GFv Kk tg gb mb nv' ov rv N O c w
variable {Kk : KeyK α} {te tg gb mb : Nat} {nv' ov : Value} {rv : Nat → Value} {N : List α} {O : Nat → List Nat} {c : Nat} {M : Mem}
theorem GMv.facts {w0 w : World} {mm : Mem} (h : GMv Kk te tg gb mb nv' ov rv N O c M) (hw : Has w0 (M ++ mm) w) : GFv Kk tg gb mb nv' ov rv N O c w := by
  obtain ⟨en, eo, re, rfl, hn, ho, hr⟩ := h
  refine ⟨hw.at 0 rfl, hw.at 1 rfl, hn.rd hw 2 rfl, ho.rd hw 3 rfl, fun a ha => (hr a ha).rd hw (4 + a) ?_⟩
  show ((_ :: _ :: _ :: _ :: (List.range N.length).map re) ++ mm)[4 + a]? = _
  rw [Nat.add_comm]
  show (List.map re (List.range N.length) ++ mm)[a]? = _
  rw [List.getElem?_append_left (by simpa using ha)]
  simp [ha]
theorem GM.facts {w0 w : World} {mm : Mem} (h : GM Kk te tg gb N O c M) (hw : Has w0 (M ++ mm) w) : GF Kk tg gb N O c w := by
  obtain ⟨mb, nv', ov, rv, h⟩ := h
  exact ⟨mb, nv', ov, rv, h.facts hw⟩
theorem GFv.far {w0 w : World} {m : Mem} (hw : Has w0 m w) (h : GFv Kk tg gb mb nv' ov rv N O c w0) : GFv Kk tg gb mb nv' ov rv N O c w :=
  ⟨hw.farBlk h.1, hw.farBlk h.2.1, RdL.far hw h.2.2.1, RdL.far hw h.2.2.2.1, fun a ha => RdL.far hw (h.2.2.2.2 a ha)⟩
theorem GF.far {w0 w : World} {m : Mem} (hw : Has w0 m w) (h : GF Kk tg gb N O c w0) : GF Kk tg gb N O c w := by
  obtain ⟨mb, nv', ov, rv, h⟩ := h
  exact ⟨mb, nv', ov, rv, h.far hw⟩
/-- A new node's memory. -/
theorem GMv.node {N : List α} {a : α} (h : GMv Kk te tg gb mb nv' ov rv N O c M) (hO : O N.length = []) : ∃ en eo rest, RowO te (kvs Kk N) nv' en ∧ RowO 43 (rvl rv N.length) ov eo ∧ M = (some gb, .cells #[.map (some mb), nv', ov, vn .i64 c] tg (0, 0)) :: (some mb, mapO Kk N) :: en :: eo :: rest ∧
    ∀ nv2 ov2 en2 eo2 o, RowO te (kvs Kk (N ++ [a])) nv2 en2 → RowO 43 (rvl rv N.length ++ [.slice none 0 0]) ov2 eo2 →
      GM Kk te tg gb (N ++ [a]) O c ((some gb, .cells #[.map (some mb), nv2, ov2, vn .i64 c] tg (0, 0)) :: (some mb, mapO Kk (N ++ [a])) :: en2 :: eo2 :: (rest ++ [(none, o)])) := by
  obtain ⟨en, eo, re, rfl, hn, ho, hr⟩ := h
  refine ⟨en, eo, _, hn, ho, rfl, fun nv2 ov2 en2 eo2 o hn2 ho2 => ⟨mb, nv2, ov2, up rv N.length (.slice none 0 0), en2, eo2, up re N.length (none, o), ?_, hn2, ?_, fun i hi => ?_⟩⟩
  · rw [List.length_append, List.length_singleton, List.range_succ, List.map_append]
    congr 5
    · exact List.map_congr_left fun i hi => (up_ne _ _ (by have := List.mem_range.1 hi; omega)).symm
    · simp [up_self]
  · have : rvl (up rv N.length (.slice none 0 0)) (N ++ [a]).length = rvl rv N.length ++ [.slice none 0 0] := by
      unfold rvl
      rw [List.length_append, List.length_singleton, List.range_succ, List.map_append]
      congr 1
      · exact List.map_congr_left fun i hi => up_ne _ _ (by have := List.mem_range.1 hi; omega)
      · simp [up_self]
    rw [this]; exact ho2
  · rw [List.length_append, List.length_singleton] at hi
    by_cases e : i = N.length
    · subst e
      rw [up_self, up_self, hO]
      exact RowO.nil _ _
    · rw [up_ne _ _ e, up_ne _ _ e]
      exact hr i (by omega)
theorem perm_open {α : Type} (f : Nat → α) {n a : Nat} (ha : a < n) : (f a :: ((List.range n).filter fun j => ![a].contains j).map f).Perm ((List.range n).map f) := by
  have := (range_pick [a] (by simp) n (by simpa using ha)).map f
  simpa using this
/-- A graph's memory laid open at one row. -/
theorem GMv.open_ (h : GMv Kk te tg gb mb nv' ov rv N O c M) {a : Nat} (ha : a < N.length) : ∃ en eo rea rest, RowO te (kvs Kk N) nv' en ∧ RowO 43 (rvl rv N.length) ov eo ∧ RowO 3 (nv (O a)) (rv a) rea ∧
    ((some gb, .cells #[.map (some mb), nv', ov, vn .i64 c] tg (0, 0)) :: (some mb, mapO Kk N) :: en :: eo :: rea :: rest).Perm M ∧
    ∀ ov2 eo2 v2 rea2 (l : List Nat) c2, RowO 43 ((rvl rv N.length).set a v2) ov2 eo2 → RowO 3 (nv l) v2 rea2 →
      ∃ M', GM Kk te tg gb N (up O a l) c2 M' ∧ ((some gb, .cells #[.map (some mb), nv', ov2, vn .i64 c2] tg (0, 0)) :: (some mb, mapO Kk N) :: en :: eo2 :: rea2 :: rest).Perm M' := by
  obtain ⟨en, eo, re, rfl, hn, ho, hr⟩ := h
  refine ⟨en, eo, re a, _, hn, ho, hr a ha, List.Perm.cons _ (List.Perm.cons _ (List.Perm.cons _ (List.Perm.cons _ (perm_open re ha)))), fun ov2 eo2 v2 rea2 l c2 ho2 hl => ?_⟩
  refine ⟨_, ⟨mb, nv', ov2, up rv a v2, en, eo2, up re a rea2, rfl, hn, ?_, fun i hi => ?_⟩, ?_⟩
  · have : rvl (up rv a v2) N.length = (rvl rv N.length).set a v2 := by
      apply List.ext_getElem?
      intro i
      by_cases hi : i < N.length
      · rw [rvl_at _ _ hi, List.getElem?_set]
        by_cases e : a = i
        · subst e; rw [if_pos rfl, if_pos (by rw [rvl_len]; exact hi), up_self]
        · rw [if_neg e, rvl_at _ _ hi, up_ne _ _ (Ne.symm e)]
      · rw [List.getElem?_eq_none (by rw [rvl_len]; omega), List.getElem?_eq_none (by rw [List.length_set, rvl_len]; omega)]
    rw [this]; exact ho2
  · by_cases e : i = a
    · subst e; rw [up_self, up_self, up_self]; exact hl
    · rw [up_ne _ _ e, up_ne _ _ e, up_ne _ _ e]; exact hr i hi
  · refine List.Perm.cons _ (List.Perm.cons _ (List.Perm.cons _ (List.Perm.cons _ ?_)))
    have hp := perm_open (up re a rea2) ha
    rw [up_self] at hp
    refine List.Perm.trans (List.Perm.cons _ ?_) hp
    rw [List.map_congr_left fun j hj => ?_]
    have hja : j ≠ a := by simpa using (List.mem_filter.1 hj).2
    exact (up_ne _ _ hja).symm
end
theorem ei43 : (Try.prog.info? 43).map (fun i => (i.zero, i.size, i.bytes)) = some (some (.slice none 0 0), 1, 24) := by kernel_rfl

end Go.Proofs.Ytocmlaloafmfkaa
