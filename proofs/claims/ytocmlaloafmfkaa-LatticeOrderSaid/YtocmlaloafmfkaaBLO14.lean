/- What the claim of this folder needs of its texts, put together by a program of this claim. Conditions: none. -/
import Derived.Test.YtocmlaloafmfkaaBLO13
set_option linter.unusedSectionVars false
set_option linter.unusedSimpArgs false
set_option linter.unusedVariables false
set_option linter.unusedVariables false
namespace Go.Proofs.Ytocmlaloafmfkaa
open Go.MW
theorem RdP.own {w0 w : World} {m : Mem} (hw : Has w0 m w) (i : Nat) {b c n : Nat} {L : List (Int × Int)} {t : TypeId} {fz : Nat × Nat} (hm : m[i]? = some (some b, .cells (L.flatMap pk).toArray t fz)) (hn : L.length = n) : RdP w L (.slice (some ⟨b, 0, none⟩) n c) := by
  have key : ∀ (L : List (Int × Int)) (i : Nat), i < L.length → (L.flatMap pk)[2 * i]? = some (.int .i64 (L.getD i (0, 0)).1) ∧ (L.flatMap pk)[2 * i + 1]? = some (.int .i64 (L.getD i (0, 0)).2) := by
    intro L
    induction L with
    | nil => intro i hi; simp at hi
    | cons x L ih =>
      intro i hi
      cases i with
      | zero => exact ⟨rfl, rfl⟩
      | succ i => exact ih i (by simpa using hi)
  refine ⟨_, c, b, 0, by rw [hn], fun _ => rfl, fun i hi => ?_⟩
  obtain ⟨h1, h2⟩ := key L i hi
  rw [Nat.zero_add]
  constructor
  · simp [World.cell?, hw.at _ hm, h1]
  · simp [World.cell?, hw.at _ hm, h2]
theorem graphA_spec {w0 : World} {m0 : Mem} {w : World} {e : Option Nat × Obj} (L : List (Int × Int)) (v : Value) (hL : L.length ≤ 100) (hw : Has w0 (e :: m0) w) (hr : RdP w L v) :
    Calls Try.prog 24 #[v] w (Post w0 fun v m => ∃ m1, (∃ gb, v = .pointer (some ⟨gb, 0, none⟩) ∧ GR intK 3 103 gb (onceE L) m1) ∧ m = m1 ++ m0) := by
  refine (graph_spec L v hL (m0 := []) (Has.nil w) hr).mono ?_
  rintro e1 w' ⟨v', mi, rfl, ⟨m1, ⟨gb, rfl, hg⟩, rfl⟩, hh⟩
  refine ⟨_, _, rfl, ⟨m1, ⟨gb, rfl, hg⟩, rfl⟩, ?_⟩
  have h := hw.trans hh
  rw [List.append_nil] at h
  exact (h.sub (List.Sublist.cons _ (List.Sublist.refl _) : (m0 ++ m1).Sublist (e :: m0 ++ m1))).perm List.perm_append_comm

set_option maxRecDepth 100000 in
set_option maxHeartbeats 2000000 in
theorem lawake0_spec  {w0 : World} {m0 : Mem} {w : World} (hw0 : Has w0 (m0) w) :
    Calls Try.prog 23 [].toArray w (Post w0 fun v m => v = .bool true ∧ m = []) := by
  refine calls_of_WCm Try.func23 rfl ?_ hw0
  simp only [Try.ntmps23, List.length_nil, Nat.reduceSub, List.replicate, List.nil_append]
  refine WC_seq ?_
  refine WC_region ?_
  refine WL_det rfl (det_assign) ?_
  dsimp only [put, List.take, List.drop, List.set, ev, nth, List.nil_append, List.cons_append, md, Nat.reducePow, Nat.reduceAdd, Nat.reduceMul]
  refine WL_nil ?_
  refine WC_seq ?_
  refine WC_region ?_
  refine WL_det rfl (det_buildA (c := #[.int .i64 1, .int .i64 2]) Try.zeroValue59 Try.underlying59 Try.sizeOf3 (by kernel_rfl)) ?_
  dsimp only [put, List.take, List.drop, List.set, ev, nth, List.nil_append, List.cons_append, md, Nat.reducePow, Nat.reduceAdd, Nat.reduceMul]
  refine WL_det rfl (det_buildA (c := #[.int .i64 1, .int .i64 3]) Try.zeroValue59 Try.underlying59 Try.sizeOf3 (by kernel_rfl)) ?_
  dsimp only [put, List.take, List.drop, List.set, ev, nth, List.nil_append, List.cons_append, md, Nat.reducePow, Nat.reduceAdd, Nat.reduceMul]
  refine WL_det rfl (det_buildA (c := #[.int .i64 3, .int .i64 2]) Try.zeroValue59 Try.underlying59 Try.sizeOf3 (by kernel_rfl)) ?_
  dsimp only [put, List.take, List.drop, List.set, ev, nth, List.nil_append, List.cons_append, md, Nat.reducePow, Nat.reduceAdd, Nat.reduceMul]
  refine WL_relAt 0 rfl (rel_litN 2 (c := (([(1, 2), (1, 3), (3, 2)] : List (Int × Int)).flatMap pk).toArray) Try.underlying52 Try.zeroValue59 Try.sizeOf59 (by decide) (by decide) (by kernel_rfl)) ?_
  rintro _ _ ⟨b0, rfl, rfl⟩
  dsimp only [put, List.take, List.drop, List.set, ev, nth, List.nil_append, List.cons_append, md, Nat.reducePow, Nat.reduceAdd, Nat.reduceMul]
  refine WL_chg rfl (Chg_call rfl Try.call24 (fun w hw => graphA_spec [(1, 2), (1, 3), (3, 2)] _ (by decide) hw (RdP.own hw 0 rfl rfl))) ?_
  rintro _ _ ⟨M, ⟨gb, rfl, hM⟩, rfl⟩
  rw [show onceE [((1 : Int), (2 : Int)), (1, 3), (3, 2)] = [(1, 2), (1, 3), (3, 2)] by kernel_rfl] at hM
  dsimp only [put, setM, List.zip, List.zipWith, List.take, List.drop, List.append_nil, List.set, ev, nth, List.nil_append, List.cons_append, md, Nat.reducePow, Nat.reduceAdd, Nat.reduceMul]
  refine WL_det rfl (det_assign) ?_
  dsimp only [put, List.take, List.drop, List.set, ev, nth, List.nil_append, List.cons_append, md, Nat.reducePow, Nat.reduceAdd, Nat.reduceMul]
  refine WL_nil ?_
  refine WC_seq ?_
  refine WC_region ?_
  refine WL_det rfl (det_move) ?_
  dsimp only [put, List.take, List.drop, List.set, ev, nth, List.nil_append, List.cons_append, md, Nat.reducePow, Nat.reduceAdd, Nat.reduceMul]
  refine WL_relAt 0 rfl (rel_lit1 Try.underlying43 Try.zeroValue3 Try.sizeOf3 rfl rfl) ?_
  rintro _ _ ⟨bl, rfl, rfl⟩
  dsimp only [put, List.take, List.drop, List.set, ev, nth, List.nil_append, List.cons_append, md, Nat.reducePow, Nat.reduceAdd, Nat.reduceMul]
  refine WL_relAt 1 rfl (Rel_call rfl Try.call25 (fun w hw => pathI_yes gb _ [1] _ 2 (by decide) (by decide) (by decide) w (hM.facts (Has.dropN hw 1)) (ivA_rd (D := [1]) hw 0 rfl rfl))) ?_
  rintro _ _ ⟨v1, e1, rfl, h1, rfl⟩
  have h1 : RowO 3 (iv [1, 2]) v1 e1 := by
    rw [show pathA (srch [((1 : Int), (2 : Int)), (1, 3), (3, 2)] [1]) (((srch [((1 : Int), (2 : Int)), (1, 3), (3, 2)] [1]).map Prod.fst).idxOf 2) = [1, 2] by kernel_rfl] at h1
    exact h1
  dsimp only [put, List.append_nil, List.take, List.drop, List.set, ev, nth, List.nil_append, List.cons_append, md, Nat.reducePow, Nat.reduceAdd, Nat.reduceMul]
  try simp only [List.append_nil]
  refine WL_det rfl (det_move) ?_
  dsimp only [put, List.take, List.drop, List.set, ev, nth, List.nil_append, List.cons_append, md, Nat.reducePow, Nat.reduceAdd, Nat.reduceMul]
  refine WL_det rfl (det_extract rfl rfl) ?_
  dsimp only [put, List.take, List.drop, List.set, ev, nth, List.nil_append, List.cons_append, md, Nat.reducePow, Nat.reduceAdd, Nat.reduceMul]
  refine WL_det rfl (det_extract rfl rfl) ?_
  dsimp only [put, List.take, List.drop, List.set, ev, nth, List.nil_append, List.cons_append, md, Nat.reducePow, Nat.reduceAdd, Nat.reduceMul]
  refine WL_det rfl (det_assign) ?_
  dsimp only [put, List.take, List.drop, List.set, ev, nth, List.nil_append, List.cons_append, md, Nat.reducePow, Nat.reduceAdd, Nat.reduceMul]
  refine WL_det rfl (det_assign) ?_
  dsimp only [put, List.take, List.drop, List.set, ev, nth, List.nil_append, List.cons_append, md, Nat.reducePow, Nat.reduceAdd, Nat.reduceMul]
  refine WL_nil ?_
  refine WC_seq ?_
  refine WC_region ?_
  refine WL_det rfl (det_move) ?_
  dsimp only [put, List.take, List.drop, List.set, ev, nth, List.nil_append, List.cons_append, md, Nat.reducePow, Nat.reduceAdd, Nat.reduceMul]
  refine WL_relAt 2 rfl (Rel_call rfl Try.call34 (fun w hw => order_spec gb _ (by decide) w (hM.facts (Has.dropN hw 2)))) ?_
  rintro _ _ ⟨v2, e2, rfl, h2, rfl⟩
  rw [show ordE [((1 : Int), (2 : Int)), (1, 3), (3, 2)] = ([1, 3, 2], true) by kernel_rfl] at h2 ⊢
  dsimp only [put, List.append_nil, List.take, List.drop, List.set, ev, nth, List.nil_append, List.cons_append, md, Nat.reducePow, Nat.reduceAdd, Nat.reduceMul]
  try simp only [List.append_nil]
  refine WL_det rfl (det_move) ?_
  dsimp only [put, List.take, List.drop, List.set, ev, nth, List.nil_append, List.cons_append, md, Nat.reducePow, Nat.reduceAdd, Nat.reduceMul]
  refine WL_det rfl (det_extract rfl rfl) ?_
  dsimp only [put, List.take, List.drop, List.set, ev, nth, List.nil_append, List.cons_append, md, Nat.reducePow, Nat.reduceAdd, Nat.reduceMul]
  refine WL_det rfl (det_extract rfl rfl) ?_
  dsimp only [put, List.take, List.drop, List.set, ev, nth, List.nil_append, List.cons_append, md, Nat.reducePow, Nat.reduceAdd, Nat.reduceMul]
  refine WL_det rfl (det_assign) ?_
  dsimp only [put, List.take, List.drop, List.set, ev, nth, List.nil_append, List.cons_append, md, Nat.reducePow, Nat.reduceAdd, Nat.reduceMul]
  refine WL_det rfl (det_assign) ?_
  dsimp only [put, List.take, List.drop, List.set, ev, nth, List.nil_append, List.cons_append, md, Nat.reducePow, Nat.reduceAdd, Nat.reduceMul]
  refine WL_nil ?_
  refine WC_seq ?_
  refine WC_region ?_
  refine WL_det rfl (det_move) ?_
  dsimp only [put, List.take, List.drop, List.set, ev, nth, List.nil_append, List.cons_append, md, Nat.reducePow, Nat.reduceAdd, Nat.reduceMul]
  refine WL_det rfl (det_move) ?_
  dsimp only [put, List.take, List.drop, List.set, ev, nth, List.nil_append, List.cons_append, md, Nat.reducePow, Nat.reduceAdd, Nat.reduceMul]
  refine WL_detG rfl (det_move) ?_
  dsimp only [put, List.take, List.drop, List.set, ev, nth, List.nil_append, List.cons_append, md, Nat.reducePow, Nat.reduceAdd, Nat.reduceMul]
  refine WL_det rfl (det_pick_true rfl) ?_
  dsimp only [put, List.take, List.drop, List.set, ev, nth, List.nil_append, List.cons_append, md, Nat.reducePow, Nat.reduceAdd, Nat.reduceMul]
  refine WL_det rfl (det_move) ?_
  dsimp only [put, List.take, List.drop, List.set, ev, nth, List.nil_append, List.cons_append, md, Nat.reducePow, Nat.reduceAdd, Nat.reduceMul]
  refine WL_detG rfl (det_move) ?_
  dsimp only [put, List.take, List.drop, List.set, ev, nth, List.nil_append, List.cons_append, md, Nat.reducePow, Nat.reduceAdd, Nat.reduceMul]
  refine WL_relAtG 3 rfl (rel_lit (c := ivA [1, 2]) Try.underlying43 Try.zeroValue3 Try.sizeOf3 (by decide) (by decide) (by kernel_rfl)) ?_
  rintro _ _ ⟨b3, rfl, rfl⟩
  dsimp only [put, List.take, List.drop, List.set, ev, nth, List.nil_append, List.cons_append, md, Nat.reducePow, Nat.reduceAdd, Nat.reduceMul]
  refine WL_relG rfl (Rel_call rfl Try.call21 (fun w hw => ints_same [1, 2] v1 _ (by decide) w (RdL.z (RowO.rd hw 1 rfl h1)) (RdL.z (ivA_rd (D := [1, 2]) hw 3 rfl rfl)))) ?_
  rintro _ _ ⟨rfl, rfl⟩
  dsimp only [put, List.append_nil, List.set, ev, nth, List.nil_append, List.cons_append, md, Nat.reducePow, Nat.reduceAdd, Nat.reduceMul]
  try simp only [List.append_nil]
  refine WL_det rfl (det_pick_true rfl) ?_
  dsimp only [put, List.take, List.drop, List.set, ev, nth, List.nil_append, List.cons_append, md, Nat.reducePow, Nat.reduceAdd, Nat.reduceMul]
  refine WL_det rfl (det_move) ?_
  dsimp only [put, List.take, List.drop, List.set, ev, nth, List.nil_append, List.cons_append, md, Nat.reducePow, Nat.reduceAdd, Nat.reduceMul]
  refine WL_detG rfl (det_move) ?_
  dsimp only [put, List.take, List.drop, List.set, ev, nth, List.nil_append, List.cons_append, md, Nat.reducePow, Nat.reduceAdd, Nat.reduceMul]
  refine WL_relAtG 4 rfl (rel_lit (c := ivA [1, 3, 2]) Try.underlying43 Try.zeroValue3 Try.sizeOf3 (by decide) (by decide) (by kernel_rfl)) ?_
  rintro _ _ ⟨b4, rfl, rfl⟩
  dsimp only [put, List.take, List.drop, List.set, ev, nth, List.nil_append, List.cons_append, md, Nat.reducePow, Nat.reduceAdd, Nat.reduceMul]
  refine WL_relG rfl (Rel_call rfl Try.call21 (fun w hw => ints_same [1, 3, 2] v2 _ (by decide) w (RdL.z (RowO.rd hw 2 rfl h2)) (RdL.z (ivA_rd (D := [1, 3, 2]) hw 4 rfl rfl)))) ?_
  rintro _ _ ⟨rfl, rfl⟩
  dsimp only [put, List.append_nil, List.set, ev, nth, List.nil_append, List.cons_append, md, Nat.reducePow, Nat.reduceAdd, Nat.reduceMul]
  try simp only [List.append_nil]
  refine WL_det rfl (det_pick_true rfl) ?_
  dsimp only [put, List.take, List.drop, List.set, ev, nth, List.nil_append, List.cons_append, md, Nat.reducePow, Nat.reduceAdd, Nat.reduceMul]
  refine WL_det rfl (det_assign) ?_
  dsimp only [put, List.take, List.drop, List.set, ev, nth, List.nil_append, List.cons_append, md, Nat.reducePow, Nat.reduceAdd, Nat.reduceMul]
  refine WL_nil ?_
  refine WC_ret ?_
  refine fin_tmp Try.results23 rfl ([]) (List.nil_sublist _) ?_
  exact ⟨rfl, rfl⟩

theorem lawake_spec (w : World) : Calls Try.prog 23 #[] w (PostV w (.bool true)) := lawake0_spec (Has.nil w)

end Go.Proofs.Ytocmlaloafmfkaa

set_option linter.unusedVariables false
namespace Go.Proofs.Ytocmlaloafmfkaa
open Go.MW
open Go.ChangeShapes Go.WideShapes Go.ChangeAt Go.RowKit
def prs (n : Nat) (g : Nat → Nat → Int) : List (Int × Int) := (List.range n).map fun i => (g i 0, g i 1)
def ints (n : Nat) (g : Nat → Nat → Int) : List Int := (List.range n).map fun i => g i 0
theorem RdP.of {w : World} {n c b o : Nat} {p : Option Addr} {g : Nat → Nat → Int} (hp : 0 < n → p = some ⟨b, o, none⟩) (hx : ∀ i, i < n → ∀ j, j < 2 → w.cell? ⟨b, o + 2 * i + j, none⟩ = some (.int .i64 (g i j))) : RdP w (prs n g) (.slice p n c) := by
  refine ⟨p, c, b, o, by simp [prs], fun h => hp (by simpa [prs] using h), fun i hi => ?_⟩
  have hi : i < n := by simpa [prs] using hi
  have e : (prs n g).getD i (0, 0) = (g i 0, g i 1) := by simp [prs, List.getD_eq_getElem?_getD, hi]
  rw [e]
  exact ⟨hx i hi 0 (by decide), hx i hi 1 (by decide)⟩
theorem RdL.of {w : World} {n c b o : Nat} {p : Option Addr} {g : Nat → Nat → Int} (hp : 0 < n → p = some ⟨b, o, none⟩) (hx : ∀ i, i < n → ∀ j, j < 1 → w.cell? ⟨b, o + 1 * i + j, none⟩ = some (.int .i64 (g i j))) : RdL w (iv (ints n g)) (.slice p n c) := by
  have hl : (iv (ints n g)).length = n := by simp [iv, ints]
  refine ⟨p, c, b, o, by rw [hl], fun h => hp (by omega), fun i hi => ?_⟩
  rw [hl] at hi
  have := hx i hi 0 (by decide)
  rw [Nat.one_mul, Nat.add_zero] at this
  rw [this]
  simp [iv, ints, hi]

end Go.Proofs.Ytocmlaloafmfkaa
