/- What the claim of this folder needs of its texts, put together by a program of this claim. Conditions: none. -/
import Derived.Test.YtocmlaloafmfkaaBLO17
set_option linter.unusedSectionVars false
set_option linter.unusedSimpArgs false
set_option linter.unusedVariables false
set_option linter.unusedVariables false
set_option linter.unusedSectionVars false
set_option linter.unusedSimpArgs false
namespace Go.Proofs.Ytocmlaloafmfkaa
open Go.MW
theorem strN {a b : Str} (h : a = b) : (!(ByteArray.toList a == ByteArray.toList b)) = false := by rw [str_eq.2 h]; rfl
theorem strE {a b : Str} : (ByteArray.toList a == ByteArray.toList b) = decide (a = b) := by
  rw [Bool.eq_iff_iff, str_eq, decide_eq_true_iff]
def strA : Str := (⟨#[97]⟩ : ByteArray)
def pkS (e : Str × Str) : List Value := [.string e.1, .string e.2]
theorem pkS_one (e : Str × Str) : ∀ u ∈ (pkS e).toArray.toList, u.oneCell' = true := by
  intro u hu
  simp only [pkS, List.mem_cons, List.not_mem_nil, or_false] at hu
  rcases hu with rfl | rfl <;> rfl
/-- A slice that reads pairs of texts. -/
def RdQ (w : World) (T : List (Str × Str)) (v : Value) : Prop := ∃ p c b o, v = .slice p T.length c ∧ (0 < T.length → p = some ⟨b, o, none⟩) ∧
  ∀ i, i < T.length → w.cell? ⟨b, o + 2 * i, none⟩ = some (.string (T.getD i (str0, str0)).1) ∧ w.cell? ⟨b, o + 2 * i + 1, none⟩ = some (.string (T.getD i (str0, str0)).2)
theorem RdQ.parts {w : World} {T : List (Str × Str)} {v : Value} (h : RdQ w T v) : ∃ p c, v = .slice p T.length c ∧ (0 < T.length → p = some ⟨sbk v, sof v, none⟩) ∧
    ∀ i, i < T.length → w.cell? ⟨sbk v, sof v + 2 * i, none⟩ = some (.string (T.getD i (str0, str0)).1) ∧ w.cell? ⟨sbk v, sof v + 2 * i + 1, none⟩ = some (.string (T.getD i (str0, str0)).2) := by
  obtain ⟨p, c, b, o, rfl, hp, hc⟩ := h
  refine ⟨p, c, rfl, fun h => ?_, fun i hi => ?_⟩
  · obtain rfl := hp h; rfl
  · obtain rfl := hp (by omega); exact hc i hi
theorem RdQ.far {w0 w : World} {m : Mem} (hw : Has w0 m w) {T : List (Str × Str)} {v : Value} (h : RdQ w0 T v) : RdQ w T v := by
  obtain ⟨p, c, b, o, h1, h2, h3⟩ := h
  exact ⟨p, c, b, o, h1, h2, fun i hi => ⟨hw.far (h3 i hi).1, hw.far (h3 i hi).2⟩⟩
section
variable {P : Program} {w0 : World} {m : Mem} {ρ : Operand → Value} {dst : Option Tmp} {ty : TypeId} {pos : String} {after : Array Edge} {gd : Option (Nat × Bool)} {T : TypeId} {x y z : Operand} {L : List (Str × Str)} {v : Value}
theorem det_lenQ {e : TypeId} (hu : P.underlying T = some (.slice e)) (hx : ρ x = v) (hr : ∀ w, Has w0 m w → RdQ w L v) :
    Det P w0 m ρ ⟨dst, .call { callee := .builtin .len, args := #[x], argTypes := #[T] }, ty, pos, after, gd⟩ (vn .i64 L.length) := fun w hw => by
  obtain ⟨p, c, h, _⟩ := (hr w hw).parts
  exact det_len hu (hx.trans h) w hw
theorem det_idxQ {j e : Nat} {a : Int} {k : IntKind} (hu : P.underlying T = some (.slice e)) (hz : ∀ w, (sizeOf e).run P w = .ok 2 w) (hx : ρ x = v) (hy : ρ y = .int k a) (hj : a = (j : Int)) (h : j < L.length) (hr : ∀ w, Has w0 m w → RdQ w L v) :
    Det P w0 m ρ ⟨dst, .indexAddr T x y, ty, pos, after, gd⟩ (.pointer (some ⟨sbk v, sof v + 2 * j, none⟩)) := fun w hw => by
  obtain ⟨p, c, h1, h2, _⟩ := (hr w hw).parts
  exact det_idxSn 1 hu hz (hx.trans h1) hy hj h (h2 (by omega)) w hw
theorem det_loadQ {j : Nat} {d : TypeDesc} (hu : P.underlying T = some d) (hd : d.isRow = true) (hi : (P.info? T).map (·.size) = some 2) (hx : ρ x = .pointer (some ⟨sbk v, sof v + 2 * j, none⟩)) (hr : ∀ w, Has w0 m w → RdQ w L v) (h : j < L.length) :
    Det P w0 m ρ ⟨dst, .load T x, ty, pos, after, gd⟩ (.agg (pkS (L.getD j (str0, str0))).toArray) :=
  det_loadLs hu hd hi hx fun w hw k hk => by
    obtain ⟨p, c, _, _, h3⟩ := (hr w hw).parts
    obtain ⟨h4, h5⟩ := h3 j h
    simp only [pkS, List.length_cons, List.length_nil] at hk
    rcases (by omega : k = 0 ∨ k = 1) with rfl | rfl
    · exact h4
    · exact h5
end
theorem sv_rd1 {w0 w : World} {m : Mem} (hw : Has w0 m w) (i : Nat) {b c : Nat} {x : Str} {fz : Nat × Nat} {t : TypeId} (hm : m[i]? = some (some b, .cells #[.string x] t fz)) : RdL w (sv [x]) (.slice (some ⟨b, 0, none⟩) 1 c) := by
  refine ⟨_, c, b, 0, rfl, fun _ => rfl, fun j hj => ?_⟩
  obtain rfl : j = 0 := by simp [sv] at hj; exact hj
  simp [World.cell?, hw.at i hm, sv]
section
variable {α : Type} [DecidableEq α]
theorem once_takeG {L : List (α × α)} {k : Nat} (h : k < L.length) (d : α × α) : onceE (L.take (k + 1)) = addE (onceE (L.take k)) ((L.getD k d).1, (L.getD k d).2) := by
  unfold onceE
  rw [List.take_succ_eq_append_getElem h, List.foldl_append, List.getD_eq_getElem?_getD, List.getElem?_eq_getElem h]
  rfl
theorem take_memG {L : List α} {q : Nat} (h : q < L.length) (d x : α) : x ∈ L.take (q + 1) ↔ x ∈ L.take q ∨ L.getD q d = x := by
  rw [List.take_succ_eq_append_getElem h, List.mem_append, List.mem_singleton, List.getD_eq_getElem?_getD, List.getElem?_eq_getElem h]
  exact or_congr Iff.rfl eq_comm
theorem getD_memG {L : List α} {q : Nat} (h : q < L.length) (d : α) : L.getD q d ∈ L := by
  rw [List.getD_eq_getElem?_getD, List.getElem?_eq_getElem h]
  exact List.getElem_mem h
theorem srch_first (es : List (α × α)) (x d : α) : 0 < ((srch es [x]).map Prod.fst).length ∧ ((srch es [x]).map Prod.fst).getD 0 d = x := by
  obtain ⟨t, ht⟩ := (srch_ok es [x]).pre
  rw [← ht]
  have : seedA [x] = [(x, -1)] := by simp [seedA, insA]
  rw [this]
  exact ⟨by simp, rfl⟩
theorem path_lenG {es : List (α × α)} {F : List α} {to : α} (hto : to ∈ (srch es F).map Prod.fst) : (pathA (srch es F) (((srch es F).map Prod.fst).idxOf to)).length ≤ F.length + 2 * es.length := by
  have h1 := List.idxOf_lt_length_iff.2 hto
  rw [List.length_map] at h1
  have h2 := chainI_len (srch_ok es F).back (((srch es F).map Prod.fst).idxOf to)
  have h3 := stA_len es F (bndA es F)
  have h4 := nodes_len es
  unfold pathA
  rw [List.length_reverse]
  unfold srch at h1 h2 ⊢
  unfold bndA at *
  omega
end
theorem i76 : (Try.prog.info? 76).map (·.size) = some 2 := by kernel_rfl

set_option maxRecDepth 100000 in
set_option maxHeartbeats 400000 in
theorem lenG_nil  (w : World) :
    Calls Try.prog 30 [.pointer none].toArray w (PostV w (.tuple #[vn .i64 0, vn .i64 0])) := by
  refine calls_of_WC Try.func30 rfl ?_
  simp only [Try.ntmps30, List.length_cons, List.length_nil, Nat.reduceAdd, Nat.reduceSub, List.replicate, List.cons_append, List.nil_append]
  refine WC_seq ?_
  refine WC_region ?_
  refine WL_det rfl (det_assign) ?_
  dsimp only [put, List.set, ev, nth, List.nil_append, List.cons_append, md, Nat.reducePow, Nat.reduceAdd, Nat.reduceMul]
  refine WL_det rfl (det_assign) ?_
  dsimp only [put, List.set, ev, nth, List.nil_append, List.cons_append, md, Nat.reducePow, Nat.reduceAdd, Nat.reduceMul]
  refine WL_nil ?_
  refine WC_seq ?_
  refine WC_seq ?_
  refine WC_region ?_
  refine WL_det rfl (det_move) ?_
  dsimp only [put, List.set, ev, nth, List.nil_append, List.cons_append, md, Nat.reducePow, Nat.reduceAdd, Nat.reduceMul]
  refine WL_rel rfl (Rel_call rfl Try.call53 (fun w hw => isG_no w)) ?_
  rintro _ _ ⟨rfl, rfl⟩
  dsimp only [put, List.append_nil, List.set, ev, nth, List.nil_append, List.cons_append, md, Nat.reducePow, Nat.reduceAdd, Nat.reduceMul]
  refine WL_det rfl (det_not rfl) ?_
  dsimp only [put, List.set, ev, nth, List.nil_append, List.cons_append, md, Nat.reducePow, Nat.reduceAdd, Nat.reduceMul]
  refine WL_nil ?_
  refine WC_cond_true rfl ?_
  refine WC_seq ?_
  refine WC_region ?_
  refine WL_det rfl (det_assign) ?_
  dsimp only [put, List.set, ev, nth, List.nil_append, List.cons_append, md, Nat.reducePow, Nat.reduceAdd, Nat.reduceMul]
  refine WL_det rfl (det_assign) ?_
  dsimp only [put, List.set, ev, nth, List.nil_append, List.cons_append, md, Nat.reducePow, Nat.reduceAdd, Nat.reduceMul]
  refine WL_nil ?_
  refine WC_ret ?_
  refine fin_tmp2 Try.results30 rfl rfl ([]) (List.nil_sublist _) ?_
  exact ⟨rfl, rfl⟩

set_option maxRecDepth 100000 in
set_option maxHeartbeats 4000000 in
theorem searchI_nil (F : List Int) (fv : Value) (hF : F.length ≤ 400) (w : World) (hf : RdL w (iv F) fv) :
    Calls Try.prog 50 [.pointer none, fv].toArray w (Post w (fun v m => ∃ v1 v2 e1 e2, v = .tuple #[v1, v2] ∧ RowO 3 (iv ((seedA F).map Prod.fst)) v1 e1 ∧ RowO 3 (iv ((seedA F).map Prod.snd)) v2 e2 ∧ m = [e1, e2])) := by
  refine calls_of_WC Try.func50 rfl ?_
  simp only [Try.ntmps50, List.length_cons, List.length_nil, Nat.reduceAdd, Nat.reduceSub, List.replicate, List.cons_append, List.nil_append]
  refine WC_seq ?_
  refine WC_region ?_
  refine WL_det rfl (det_assign) ?_
  dsimp only [put, List.set, ev, nth, List.nil_append, List.cons_append, md, Nat.reducePow, Nat.reduceAdd, Nat.reduceMul]
  refine WL_det rfl (det_assign) ?_
  dsimp only [put, List.set, ev, nth, List.nil_append, List.cons_append, md, Nat.reducePow, Nat.reduceAdd, Nat.reduceMul]
  refine WL_nil ?_
  refine WC_seq ?_
  refine WC_region ?_
  refine WL_rel rfl (rel_makeMap) ?_
  rintro _ _ ⟨b0, rfl, rfl⟩
  dsimp only [put, List.set, ev, nth, List.nil_append, List.cons_append, md, Nat.reducePow, Nat.reduceAdd, Nat.reduceMul]
  refine WL_det rfl (det_assign) ?_
  dsimp only [put, List.set, ev, nth, List.nil_append, List.cons_append, md, Nat.reducePow, Nat.reduceAdd, Nat.reduceMul]
  refine WL_nil ?_
  refine WC_seq ?_
  refine WC_seq ?_
  refine WC_region ?_
  refine WL_det rfl (det_move) ?_
  dsimp only [put, List.set, ev, nth, List.nil_append, List.cons_append, md, Nat.reducePow, Nat.reduceAdd, Nat.reduceMul]
  refine WL_det rfl (det_lenR Try.underlying43 rfl (fun w hw => RdL.far hw hf) (iv_len F)) ?_
  dsimp only [put, List.set, ev, nth, List.nil_append, List.cons_append, md, Nat.reducePow, Nat.reduceAdd, Nat.reduceMul]
  refine WL_det rfl (det_move) ?_
  dsimp only [put, List.set, ev, nth, List.nil_append, List.cons_append, md, Nat.reducePow, Nat.reduceAdd, Nat.reduceMul]
  refine WL_nil ?_
  refine WC_block ?_
  refine WC.addNone (.cells #[] 3 (0, 0)) ?_
  dsimp only [List.cons_append, List.nil_append]
  refine WC.addNone (.cells #[] 3 (0, 0)) ?_
  dsimp only [List.cons_append, List.nil_append]
  refine WC_loopS (ι := Nat × Value × (Option Nat × Obj) × Value × (Option Nat × Obj)) [23, 24, 25, 8, 27, 28, 29, 26, 30, 31, 9, 10, 32, 33, 34, 35, 36, 37, 38, 39, 40, 41, 42, 43, 44, 45] (fun x => [(22, vn .i64 (x.1)), (4, x.2.1), (5, x.2.2.2.1)]) (fun x => [(0, (some b0, mapO intK ((sdA F (x.1)).map Prod.fst))), (1, x.2.2.1), (2, x.2.2.2.2)]) (fun x => x.1 ≤ F.length ∧ RowO 3 (iv ((sdA F (x.1)).map Prod.fst)) x.2.1 x.2.2.1 ∧ RowO 3 (iv ((sdA F (x.1)).map Prod.snd)) x.2.2.2.1 x.2.2.2.2) (fun x => F.length - x.1) (0, .slice none 0 0, (none, .cells #[] 3 (0, 0)), .slice none 0 0, (none, .cells #[] 3 (0, 0))) ?_ ?_ ?_ ?_
  · rfl
  · rfl
  · exact ⟨Nat.zero_le _, RowO.nil _ _, RowO.nil _ _⟩
  · rintro ⟨k, v1, e1, v2, e2⟩ g' ⟨hk, h1, h2⟩
    dsimp only [setAll, setG, setM, List.set]
    dsimp only at hk h1 h2
    have hl := sdA_len F k
    refine WC_seq ?_
    refine WC_region ?_
    refine WL_det rfl (det_lss rfl rfl) ?_
    dsimp only [put, List.set, ev, nth, List.nil_append, List.cons_append, md, Nat.reducePow, Nat.reduceAdd, Nat.reduceMul]
    refine WL_nil ?_
    refine WC_seq ?_
    refine WC_cond rfl (fun hc0 => ?_) (fun hc0 => ?_)
    · have hc0 := of_decide_eq_true hc0
      refine WC_skip ?_
      refine WC_seq ?_
      refine WC_block ?_
      refine WC_seq ?_
      refine WC_region ?_
      refine WL_det rfl (det_idxR Try.underlying43 Try.sizeOf3 rfl rfl (rfl) (by rw [iv_len]; omega) (fun w hw => RdL.far hw hf)) ?_
      dsimp only [put, List.set, ev, nth, List.nil_append, List.cons_append, md, Nat.reducePow, Nat.reduceAdd, Nat.reduceMul]
      refine WL_det rfl (det_loadR Try.isAgg3 rfl (fun w hw => RdL.far hw hf) (iv_at F (by omega))) ?_
      dsimp only [put, List.set, ev, nth, List.nil_append, List.cons_append, md, Nat.reducePow, Nat.reduceAdd, Nat.reduceMul]
      refine WL_det rfl (det_assign) ?_
      dsimp only [put, List.set, ev, nth, List.nil_append, List.cons_append, md, Nat.reducePow, Nat.reduceAdd, Nat.reduceMul]
      refine WL_nil ?_
      refine WC_seq ?_
      refine WC_region ?_
      refine WL_det rfl (det_move) ?_
      dsimp only [put, List.set, ev, nth, List.nil_append, List.cons_append, md, Nat.reducePow, Nat.reduceAdd, Nat.reduceMul]
      refine WL_det rfl (det_move) ?_
      dsimp only [put, List.set, ev, nth, List.nil_append, List.cons_append, md, Nat.reducePow, Nat.reduceAdd, Nat.reduceMul]
      refine WL_det rfl (det_look intK (L := ((sdA F (k)).map Prod.fst)) ((F.getD k 0)) Try.underlying100 Try.underlying3 Try.zeroValue3 rfl rfl (fun w hw => hw.at 0 rfl)) ?_
      dsimp only [put, List.set, ev, nth, List.nil_append, List.cons_append, md, Nat.reducePow, Nat.reduceAdd, Nat.reduceMul]
      refine WL_det rfl (det_move) ?_
      dsimp only [put, List.set, ev, nth, List.nil_append, List.cons_append, md, Nat.reducePow, Nat.reduceAdd, Nat.reduceMul]
      refine WL_det rfl (det_extract rfl rfl) ?_
      dsimp only [put, List.set, ev, nth, List.nil_append, List.cons_append, md, Nat.reducePow, Nat.reduceAdd, Nat.reduceMul]
      refine WL_det rfl (det_extract rfl rfl) ?_
      dsimp only [put, List.set, ev, nth, List.nil_append, List.cons_append, md, Nat.reducePow, Nat.reduceAdd, Nat.reduceMul]
      refine WL_det rfl (det_assign) ?_
      dsimp only [put, List.set, ev, nth, List.nil_append, List.cons_append, md, Nat.reducePow, Nat.reduceAdd, Nat.reduceMul]
      refine WL_det rfl (det_assign) ?_
      dsimp only [put, List.set, ev, nth, List.nil_append, List.cons_append, md, Nat.reducePow, Nat.reduceAdd, Nat.reduceMul]
      refine WL_nil ?_
      refine WC_seq ?_
      refine WC_region ?_
      refine WL_det rfl (det_move) ?_
      dsimp only [put, List.set, ev, nth, List.nil_append, List.cons_append, md, Nat.reducePow, Nat.reduceAdd, Nat.reduceMul]
      refine WL_det rfl (det_not rfl) ?_
      dsimp only [put, List.set, ev, nth, List.nil_append, List.cons_append, md, Nat.reducePow, Nat.reduceAdd, Nat.reduceMul]
      refine WL_nil ?_
      refine WC_cond rfl (fun hc1 => ?_) (fun hc1 => ?_)
      · have hx : (F.getD k 0) ∉ (sdA F (k)).map Prod.fst := by simpa using hc1
        have hS := sdA_step (F := F) hc0 0
        have e1 : (sdA F (k + 1)).map Prod.fst = (sdA F (k)).map Prod.fst ++ [(F.getD k 0)] := by rw [hS, insA_fst hx]
        have e2 : (sdA F (k + 1)).map Prod.snd = (sdA F (k)).map Prod.snd ++ [-1] := by rw [hS, insA_snd hx]
        refine WC_seq ?_
        refine WC_region ?_
        refine WL_det rfl (det_move) ?_
        dsimp only [put, List.set, ev, nth, List.nil_append, List.cons_append, md, Nat.reducePow, Nat.reduceAdd, Nat.reduceMul]
        refine WL_det rfl (det_move) ?_
        dsimp only [put, List.set, ev, nth, List.nil_append, List.cons_append, md, Nat.reducePow, Nat.reduceAdd, Nat.reduceMul]
        refine WL_det rfl (det_move) ?_
        dsimp only [put, List.set, ev, nth, List.nil_append, List.cons_append, md, Nat.reducePow, Nat.reduceAdd, Nat.reduceMul]
        refine WL_det rfl (det_lenR Try.underlying43 rfl (fun w hw => RowO.rd hw 1 rfl h1) (iv_len ((sdA F (k)).map Prod.fst))) ?_
        dsimp only [put, List.set, ev, nth, List.nil_append, List.cons_append, md, Nat.reducePow, Nat.reduceAdd, Nat.reduceMul]
        refine WL_chg rfl (chg_mapPut intK 0 ((F.getD k 0)) Try.underlying100 Try.underlying3 rfl rfl (rfl) rfl (hx)) ?_
        rintro _ _ rfl
        dsimp only [put, List.set, ev, nth, List.nil_append, List.cons_append, md, Nat.reducePow, Nat.reduceAdd, Nat.reduceMul]
        rw [← e1]
        refine WL_nil ?_
        refine WC_region ?_
        refine WL_det rfl (det_move) ?_
        dsimp only [put, List.set, ev, nth, List.nil_append, List.cons_append, md, Nat.reducePow, Nat.reduceAdd, Nat.reduceMul]
        refine WL_det rfl (det_move) ?_
        dsimp only [put, List.set, ev, nth, List.nil_append, List.cons_append, md, Nat.reducePow, Nat.reduceAdd, Nat.reduceMul]
        refine WL_rel rfl (rel_lit1 Try.underlying43 Try.zeroValue3 Try.sizeOf3 rfl rfl) ?_
        rintro _ _ ⟨bl, rfl, rfl⟩
        dsimp only [put, List.set, ev, nth, List.nil_append, List.cons_append, md, Nat.reducePow, Nat.reduceAdd, Nat.reduceMul]
        refine WL_chg rfl (chg_appendO1 1 3 rfl (by decide) (h1) rfl rfl rfl rfl Try.underlying43 ei3 rfl (by rw [iv_len, List.length_map]; omega) (by decide)) ?_
        rintro v41 _ ⟨e41, hr41, rfl⟩
        dsimp only [put, List.eraseIdx, List.set, ev, nth, List.nil_append, List.cons_append, md, Nat.reducePow, Nat.reduceAdd, Nat.reduceMul]
        rw [iv_snoc] at hr41
        rw [← e1] at hr41
        refine WL_det rfl (det_move) ?_
        dsimp only [put, List.set, ev, nth, List.nil_append, List.cons_append, md, Nat.reducePow, Nat.reduceAdd, Nat.reduceMul]
        refine WL_rel rfl (rel_lit1 Try.underlying43 Try.zeroValue3 Try.sizeOf3 rfl rfl) ?_
        rintro _ _ ⟨bl, rfl, rfl⟩
        dsimp only [put, List.set, ev, nth, List.nil_append, List.cons_append, md, Nat.reducePow, Nat.reduceAdd, Nat.reduceMul]
        refine WL_chg rfl (chg_appendO1 2 3 rfl (by decide) (h2) rfl rfl rfl rfl Try.underlying43 ei3 rfl (by rw [iv_len, List.length_map]; omega) (by decide)) ?_
        rintro v44 _ ⟨e44, hr44, rfl⟩
        dsimp only [put, List.eraseIdx, List.set, ev, nth, List.nil_append, List.cons_append, md, Nat.reducePow, Nat.reduceAdd, Nat.reduceMul]
        rw [iv_snoc] at hr44
        rw [← e2] at hr44
        refine WL_det rfl (det_assign) ?_
        dsimp only [put, List.set, ev, nth, List.nil_append, List.cons_append, md, Nat.reducePow, Nat.reduceAdd, Nat.reduceMul]
        refine WL_det rfl (det_assign) ?_
        dsimp only [put, List.set, ev, nth, List.nil_append, List.cons_append, md, Nat.reducePow, Nat.reduceAdd, Nat.reduceMul]
        refine WL_nil ?_
        refine WC_region ?_
        refine WL_det rfl (det_addi (q := 1) rfl rfl (by omega)) ?_
        dsimp only [put, List.set, ev, nth, List.nil_append, List.cons_append, md, Nat.reducePow, Nat.reduceAdd, Nat.reduceMul]
        refine WL_det rfl (det_move) ?_
        dsimp only [put, List.set, ev, nth, List.nil_append, List.cons_append, md, Nat.reducePow, Nat.reduceAdd, Nat.reduceMul]
        refine WL_nil ?_
        refine ⟨(k + 1, v41, e41, v44, e44), ?_, ?_, ?_, ?_⟩
        · rfl
        · rfl
        · exact ⟨by dsimp only; omega, hr41, hr44⟩
        · dsimp only; omega
      · have hx : (F.getD k 0) ∈ (sdA F (k)).map Prod.fst := by simpa using hc1
        have e0 : sdA F (k + 1) = sdA F k := by rw [sdA_step hc0 0, insA_old hx]
        rw [← e0] at h1 h2 ⊢
        obtain ⟨v41, hq⟩ : ∃ v, v = v1 := ⟨_, rfl⟩
        subst hq
        obtain ⟨e41, hq⟩ : ∃ v, v = e1 := ⟨_, rfl⟩
        subst hq
        obtain ⟨v44, hq⟩ : ∃ v, v = v2 := ⟨_, rfl⟩
        subst hq
        obtain ⟨e44, hq⟩ : ∃ v, v = e2 := ⟨_, rfl⟩
        subst hq
        have hr41 := h1
        have hr44 := h2
        refine WC_skip ?_
        refine WC_region ?_
        refine WL_det rfl (det_addi (q := 1) rfl rfl (by omega)) ?_
        dsimp only [put, List.set, ev, nth, List.nil_append, List.cons_append, md, Nat.reducePow, Nat.reduceAdd, Nat.reduceMul]
        refine WL_det rfl (det_move) ?_
        dsimp only [put, List.set, ev, nth, List.nil_append, List.cons_append, md, Nat.reducePow, Nat.reduceAdd, Nat.reduceMul]
        refine WL_nil ?_
        refine ⟨(k + 1, v41, e41, v44, e44), ?_, ?_, ?_, ?_⟩
        · rfl
        · rfl
        · exact ⟨by dsimp only; omega, hr41, hr44⟩
        · dsimp only; omega
    · have hc0 := of_decide_eq_false hc0
      obtain rfl : k = F.length := by omega
      rw [show sdA F F.length = seedA F from sdA_all F ([] : List (Int × Int))] at h1 h2 ⊢
      refine WC_exit ?_
      refine inB_same ?_
      refine WC_seq ?_
      refine WC_seq ?_
      refine WC_region ?_
      refine WL_det rfl (det_assign) ?_
      dsimp only [put, List.set, ev, nth, List.nil_append, List.cons_append, md, Nat.reducePow, Nat.reduceAdd, Nat.reduceMul]
      refine WL_nil ?_
      refine WC_block ?_
      refine WC_loopS (ι := Nat) [46, 47, 48, 49, 50, 51, 52, 53, 57, 58, 59, 60, 61, 62, 63, 64, 65, 56, 66, 67, 12, 13, 68, 69, 70, 71, 72, 73, 74, 75, 76, 77, 78, 79, 80, 81, 15, 82, 83, 84, 85, 86, 87, 88, 16, 90, 91, 92, 89, 93, 94, 17, 18, 95, 96, 97, 98, 99, 100, 101, 102, 103, 104, 105, 106, 107, 108, 109, 54, 55] (fun x => [(11, vn .i64 (0)), (4, v1), (5, v2)]) (fun x => []) (fun x => True) (fun x => 0) 0 ?_ ?_ ?_ ?_
      · rfl
      · rfl
      · trivial
      · intro x g hI
        dsimp only [setAll, setG, setM, List.set]
        refine WC_seq ?_
        refine WC_seq ?_
        by_cases hlt : 0 < (seedA F).length
        · refine WC_region ?_
          refine WL_det rfl (det_move) ?_
          dsimp only [put, List.set, ev, nth, List.nil_append, List.cons_append, md, Nat.reducePow, Nat.reduceAdd, Nat.reduceMul]
          refine WL_det rfl (det_move) ?_
          dsimp only [put, List.set, ev, nth, List.nil_append, List.cons_append, md, Nat.reducePow, Nat.reduceAdd, Nat.reduceMul]
          refine WL_det rfl (det_lenR Try.underlying43 rfl (fun w hw => RowO.rd hw 1 rfl h1) (iv_len ((seedA F).map Prod.fst))) ?_
          dsimp only [put, List.set, ev, nth, List.nil_append, List.cons_append, md, Nat.reducePow, Nat.reduceAdd, Nat.reduceMul]
          refine WL_det rfl (Det.bv true (det_lss rfl rfl) (decide_eq_true (by rw [List.length_map]; exact hlt))) ?_
          dsimp only [put, List.set, ev, nth, List.nil_append, List.cons_append, md, Nat.reducePow, Nat.reduceAdd, Nat.reduceMul]
          refine WL_det rfl (det_move) ?_
          dsimp only [put, List.set, ev, nth, List.nil_append, List.cons_append, md, Nat.reducePow, Nat.reduceAdd, Nat.reduceMul]
          refine WL_detG rfl (det_move) ?_
          dsimp only [put, List.set, ev, nth, List.nil_append, List.cons_append, md, Nat.reducePow, Nat.reduceAdd, Nat.reduceMul]
          refine WL_relG rfl (Rel_call rfl Try.call53 (fun w hw => isG_no w)) ?_
          rintro _ _ ⟨rfl, rfl⟩
          dsimp only [put, List.append_nil, List.set, ev, nth, List.nil_append, List.cons_append, md, Nat.reducePow, Nat.reduceAdd, Nat.reduceMul]
          refine WL_det rfl (det_pick_true rfl) ?_
          dsimp only [put, List.set, ev, nth, List.nil_append, List.cons_append, md, Nat.reducePow, Nat.reduceAdd, Nat.reduceMul]
          refine WL_nil ?_
          refine WC_cond_false rfl ?_
          refine WC_exit ?_
          refine inB_same ?_
          refine WC_seq ?_
          refine WC_region ?_
          refine WL_det rfl (det_move) ?_
          dsimp only [put, List.set, ev, nth, List.nil_append, List.cons_append, md, Nat.reducePow, Nat.reduceAdd, Nat.reduceMul]
          refine WL_det rfl (det_move) ?_
          dsimp only [put, List.set, ev, nth, List.nil_append, List.cons_append, md, Nat.reducePow, Nat.reduceAdd, Nat.reduceMul]
          refine WL_det rfl (det_assign) ?_
          dsimp only [put, List.set, ev, nth, List.nil_append, List.cons_append, md, Nat.reducePow, Nat.reduceAdd, Nat.reduceMul]
          refine WL_det rfl (det_assign) ?_
          dsimp only [put, List.set, ev, nth, List.nil_append, List.cons_append, md, Nat.reducePow, Nat.reduceAdd, Nat.reduceMul]
          refine WL_nil ?_
          refine WC_ret ?_
          refine fin_tmp2 Try.results50 rfl rfl ([e1, e2]) (.cons _ (List.Sublist.refl _)) ?_
          exact ⟨v1, v2, e1, e2, rfl, h1, h2, rfl⟩
        · refine WC_region ?_
          refine WL_det rfl (det_move) ?_
          dsimp only [put, List.set, ev, nth, List.nil_append, List.cons_append, md, Nat.reducePow, Nat.reduceAdd, Nat.reduceMul]
          refine WL_det rfl (det_move) ?_
          dsimp only [put, List.set, ev, nth, List.nil_append, List.cons_append, md, Nat.reducePow, Nat.reduceAdd, Nat.reduceMul]
          refine WL_det rfl (det_lenR Try.underlying43 rfl (fun w hw => RowO.rd hw 1 rfl h1) (iv_len ((seedA F).map Prod.fst))) ?_
          dsimp only [put, List.set, ev, nth, List.nil_append, List.cons_append, md, Nat.reducePow, Nat.reduceAdd, Nat.reduceMul]
          refine WL_det rfl (Det.bv false (det_lss rfl rfl) (decide_eq_false (by rw [List.length_map]; exact hlt))) ?_
          dsimp only [put, List.set, ev, nth, List.nil_append, List.cons_append, md, Nat.reducePow, Nat.reduceAdd, Nat.reduceMul]
          refine WL_det rfl (det_move) ?_
          dsimp only [put, List.set, ev, nth, List.nil_append, List.cons_append, md, Nat.reducePow, Nat.reduceAdd, Nat.reduceMul]
          refine WL_skipG ?_ ?_
          · rfl
          dsimp only [put, List.set, ev, nth, List.nil_append, List.cons_append, md, Nat.reducePow, Nat.reduceAdd, Nat.reduceMul]
          refine WL_skipG ?_ ?_
          · rfl
          dsimp only [put, List.set, ev, nth, List.nil_append, List.cons_append, md, Nat.reducePow, Nat.reduceAdd, Nat.reduceMul]
          refine WL_det rfl (det_pick_false rfl) ?_
          dsimp only [put, List.set, ev, nth, List.nil_append, List.cons_append, md, Nat.reducePow, Nat.reduceAdd, Nat.reduceMul]
          refine WL_nil ?_
          refine WC_cond_false rfl ?_
          refine WC_exit ?_
          refine inB_same ?_
          refine WC_seq ?_
          refine WC_region ?_
          refine WL_det rfl (det_move) ?_
          dsimp only [put, List.set, ev, nth, List.nil_append, List.cons_append, md, Nat.reducePow, Nat.reduceAdd, Nat.reduceMul]
          refine WL_det rfl (det_move) ?_
          dsimp only [put, List.set, ev, nth, List.nil_append, List.cons_append, md, Nat.reducePow, Nat.reduceAdd, Nat.reduceMul]
          refine WL_det rfl (det_assign) ?_
          dsimp only [put, List.set, ev, nth, List.nil_append, List.cons_append, md, Nat.reducePow, Nat.reduceAdd, Nat.reduceMul]
          refine WL_det rfl (det_assign) ?_
          dsimp only [put, List.set, ev, nth, List.nil_append, List.cons_append, md, Nat.reducePow, Nat.reduceAdd, Nat.reduceMul]
          refine WL_nil ?_
          refine WC_ret ?_
          refine fin_tmp2 Try.results50 rfl rfl ([e1, e2]) (.cons _ (List.Sublist.refl _)) ?_
          exact ⟨v1, v2, e1, e2, rfl, h1, h2, rfl⟩

set_option maxRecDepth 100000 in
set_option maxHeartbeats 400000 in
theorem reachI_nil (F : List Int) (fv : Value) (hF : F.length ≤ 400) (w : World) (hf : RdL w (iv F) fv) :
    Calls Try.prog 27 [.pointer none, fv].toArray w (Post w (fun v m => ∃ e, RowO 3 (iv ((seedA F).map Prod.fst)) v e ∧ m = [e])) := by
  refine calls_of_WC Try.func27 rfl ?_
  simp only [Try.ntmps27, List.length_cons, List.length_nil, Nat.reduceAdd, Nat.reduceSub, List.replicate, List.cons_append, List.nil_append]
  refine WC_seq ?_
  refine WC_region ?_
  refine WL_det rfl (det_assign) ?_
  dsimp only [put, List.set, ev, nth, List.nil_append, List.cons_append, md, Nat.reducePow, Nat.reduceAdd, Nat.reduceMul]
  refine WL_nil ?_
  refine WC_seq ?_
  refine WC_region ?_
  refine WL_det rfl (det_move) ?_
  dsimp only [put, List.set, ev, nth, List.nil_append, List.cons_append, md, Nat.reducePow, Nat.reduceAdd, Nat.reduceMul]
  refine WL_det rfl (det_move) ?_
  dsimp only [put, List.set, ev, nth, List.nil_append, List.cons_append, md, Nat.reducePow, Nat.reduceAdd, Nat.reduceMul]
  refine WL_rel rfl (Rel_call rfl Try.call50 (fun w hw => searchI_nil F fv hF w (RdL.far hw hf))) ?_
  rintro _ _ ⟨v1, v2, e1, e2, rfl, h1, h2, rfl⟩
  dsimp only [put, List.append_nil, List.set, ev, nth, List.nil_append, List.cons_append, md, Nat.reducePow, Nat.reduceAdd, Nat.reduceMul]
  refine WL_det rfl (det_move) ?_
  dsimp only [put, List.set, ev, nth, List.nil_append, List.cons_append, md, Nat.reducePow, Nat.reduceAdd, Nat.reduceMul]
  refine WL_det rfl (det_extract rfl rfl) ?_
  dsimp only [put, List.set, ev, nth, List.nil_append, List.cons_append, md, Nat.reducePow, Nat.reduceAdd, Nat.reduceMul]
  refine WL_det rfl (det_extract rfl rfl) ?_
  dsimp only [put, List.set, ev, nth, List.nil_append, List.cons_append, md, Nat.reducePow, Nat.reduceAdd, Nat.reduceMul]
  refine WL_det rfl (det_assign) ?_
  dsimp only [put, List.set, ev, nth, List.nil_append, List.cons_append, md, Nat.reducePow, Nat.reduceAdd, Nat.reduceMul]
  refine WL_det rfl (det_assign) ?_
  dsimp only [put, List.set, ev, nth, List.nil_append, List.cons_append, md, Nat.reducePow, Nat.reduceAdd, Nat.reduceMul]
  refine WL_nil ?_
  refine WC_seq ?_
  refine WC_region ?_
  refine WL_det rfl (det_move) ?_
  dsimp only [put, List.set, ev, nth, List.nil_append, List.cons_append, md, Nat.reducePow, Nat.reduceAdd, Nat.reduceMul]
  refine WL_det rfl (det_assign) ?_
  dsimp only [put, List.set, ev, nth, List.nil_append, List.cons_append, md, Nat.reducePow, Nat.reduceAdd, Nat.reduceMul]
  refine WL_nil ?_
  refine WC_ret ?_
  refine fin_tmp Try.results27 rfl ([e1]) (.cons_cons _ (List.nil_sublist _)) ?_
  exact ⟨e1, h1, rfl⟩

end Go.Proofs.Ytocmlaloafmfkaa

set_option linter.unusedVariables false
set_option linter.unusedSectionVars false
set_option linter.unusedSimpArgs false
namespace Go.Proofs.Ytocmlaloafmfkaa
open Go.MW
open Go.ChangeShapes Go.WideShapes Go.ChangeAt Go.RowKit
theorem el_two {H : Type} {enc : TypeId × Value → H} {P : Program} {W : World} {base : Nat} {sp : Nat → Bool} {held : Bool} {e q : Nat} (he : P.underlying e = some (.array 2 q)) (ce : P.cellsOf e = 2) (hq : P.underlying q = some .string) (cq : P.cellsOf q = 1)
    (n : Nat) (cs : List Value) (x : DataW H × List MemPlace) (hd : DataW.trod enc P W base sp held n e cs = some x) : ∃ z : Str × Str, cs = pkS z := by
  obtain ⟨xs, m, _, _, hcl, hl, hel⟩ := DataW.trod_array he hd
  rw [ce] at hcl
  have key : ∀ i, i < 2 → ∃ s : ByteArray, cs[i]? = some (.string s) := by
    intro i hi
    have h := hel i hi
    obtain ⟨y, hy⟩ : ∃ y, xs[i]? = some y := ⟨xs[i], by simp [hl, hi]⟩
    rw [hy, cq, Nat.mul_one] at h
    obtain ⟨s, e1, _, _⟩ := DataW.trod_string hq h
    refine ⟨s, ?_⟩
    have : ((cs.drop i).take 1)[0]? = some (.string s) := by rw [e1]; rfl
    simpa using this
  obtain ⟨a, ha⟩ := key 0 (by decide)
  obtain ⟨b, hb⟩ := key 1 (by decide)
  refine ⟨(a, b), ?_⟩
  apply List.ext_getElem?
  intro i
  rcases i with _ | _ | i
  · rw [ha]; rfl
  · rw [hb]; rfl
  · rw [List.getElem?_eq_none (by omega), List.getElem?_eq_none (by simp [pkS])]
theorem open_pairsS {H : Type} {enc : TypeId × Value → H} {P : Program} {W : World} {b0 base : Nat} {sp : Nat → Bool} {held : Bool} {t e q : TypeId} {v : Value} {d : DataW H} {ps : List MemPlace} (ht : P.underlying t = some (.slice e)) (he : P.underlying e = some (.array 2 q)) (ce : P.cellsOf e = 2) (hq : P.underlying q = some .string) (cq : P.cellsOf q = 1)
    (hval : Value.okWide P W .any b0 t v) (hd : DataW.Trod enc P W base sp held t v d ps) : ∃ T : List (Str × Str), RdQ W T v := by
  obtain ⟨a0, len0, cap0, rfl⟩ := okWide_slice ht hval
  obtain ⟨fuel, hf⟩ := hd
  rcases Go.Deep.open_slice ht hf with ⟨hcs, _⟩ | ⟨x, l, c, m, n, D, Pl, hcs, _, hl, hm, hmm, _, hx⟩
  · simp [Value.cells] at hcs
    obtain ⟨rfl, rfl, rfl⟩ := hcs
    exact ⟨[], none, 0, 0, 0, rfl, fun h => absurd h (Nat.lt_irrefl _), fun i hi => absurd hi (Nat.not_lt_zero _)⟩
  · simp [Value.cells] at hcs
    obtain ⟨rfl, rfl, rfl⟩ := hcs
    have hlm : len0 ≤ m := by rw [hmm]; split <;> omega
    by_cases h0 : len0 = 0
    · subst h0
      exact ⟨[], _, _, 0, 0, rfl, fun h => absurd h (Nat.lt_irrefl _), fun i hi => absurd hi (Nat.not_lt_zero _)⟩
    obtain ⟨b, off, spot⟩ := x
    have each : ∀ i, i < len0 → ∃ z : Str × Str, W.cell? ((⟨b, off, spot⟩ : Addr).add (i * 2)) = some (.string z.1) ∧ W.cell? ((⟨b, off, spot⟩ : Addr).add (i * 2 + 1)) = some (.string z.2) := by
      intro i hi
      obtain ⟨cs', h1, h2⟩ := hx i (by omega)
      obtain ⟨z, rfl⟩ := el_two he ce hq cq _ _ _ h2
      rw [ce] at h1
      obtain ⟨_, hlen, hcell⟩ := World.cells?_some h1
      have c0 := hcell 0 (by decide)
      have c1 := hcell 1 (by decide)
      rw [Go.Deep.add_add] at c0 c1
      rw [Nat.add_zero] at c0
      refine ⟨z, ?_, ?_⟩
      · rw [c0]; simp [pkS]
      · rw [c1]; simp [pkS]
    have : Inhabited (Str × Str) := ⟨(str0, str0)⟩
    obtain ⟨g, hg⟩ := Go.Deep.choose_lt (α := Str × Str) each
    have hc := (hg 0 (by omega)).1
    have hspot : spot = none := by simpa [Addr.add] using World.cell?_spot hc
    subst hspot
    have hT : ((List.range len0).map g).length = len0 := by simp
    refine ⟨(List.range len0).map g, _, cap0, b, off, by rw [hT], fun _ => rfl, fun i hi => ?_⟩
    rw [hT] at hi
    have e1 : ((List.range len0).map g).getD i (str0, str0) = g i := by simp [List.getD_eq_getElem?_getD, hi]
    obtain ⟨h1, h2⟩ := hg i hi
    rw [Addr.add_lit] at h1 h2
    rw [e1]
    constructor
    · rw [Nat.mul_comm 2 i]; exact h1
    · rw [Nat.mul_comm 2 i, Nat.add_assoc]; exact h2

end Go.Proofs.Ytocmlaloafmfkaa
