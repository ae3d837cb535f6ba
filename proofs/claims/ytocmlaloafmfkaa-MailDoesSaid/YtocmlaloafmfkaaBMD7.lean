/- What the claim of this folder needs of its texts, put together by a program of this claim. Conditions: none. -/
import Derived.Test.YtocmlaloafmfkaaBMD6
set_option linter.unusedVariables false
namespace Go.Proofs.Ytocmlaloafmfkaa
open Go.MW
theorem one_spec (K : Bx) (X : Nat → List Int) (lv : Nat → Value) (M : Mem) (hM : BMl 3 K X X lv M) (hX : ∀ a, a < 3 → (X a).length ≤ K.R a) (hR : ∀ a, a < 3 → K.R a ≤ 9) (rb rb2 cL cW : Nat) (cl cw : Array Value) (hrl : ∀ a, a < 3 → cl[a]? = some (pS K a)) (hrw : ∀ a, a < 3 → cw[a]? = some (pW K a)) (op d1 d2 d3 : Int)
    {w0 : World} {m0 : Mem} {w : World} (hw0 : Has w0 ((some rb, .cells cl 39 (0, 0)) :: (some rb2, .cells cw 42 (0, 0)) :: (M ++ m0)) w) :
    Calls Try.prog 20 #[.slice (some ⟨rb, 0, none⟩) 3 cL, .slice (some ⟨rb2, 0, none⟩) 3 cW, .agg #[.int .i64 op, .int .i64 d1, .int .i64 d2, .int .i64 d3]] w
      (Post w0 fun v m => ∃ M1, (v = .bool true ∧ ∃ X' lv', (∀ a, a < 3 → (X' a).length ≤ K.R a) ∧ BMl 3 K X' X' lv' M1) ∧ m = (some rb, .cells cl 39 (0, 0)) :: (some rb2, .cells cw 42 (0, 0)) :: (M1 ++ m0)) := by
  by_cases h1 : op = 1
  · exact one_put K X lv M hM hX hR rb rb2 cL cW cl cw hrl hrw op d1 d2 d3 _ _ rfl rfl h1 hw0
  by_cases h2 : op = 2
  · exact one_take K X lv M hM hX hR rb rb2 cL cW cl cw hrl hrw op d1 d2 d3 _ _ rfl rfl h2 hw0
  by_cases h3 : op = 3
  · by_cases hab : pl d1 = pl d2
    · exact one_same K X lv M hM hX hR rb rb2 cL cW cl cw hrl hrw op d1 d2 d3 _ _ rfl rfl h3 hab hw0
    · exact one_move K X lv M hM hX hR rb rb2 cL cW cl cw hrl hrw op d1 d2 d3 _ _ rfl rfl h3 hab hw0
  by_cases h4 : op = 4
  · exact one_drain K X lv M hM hX hR rb rb2 cL cW cl cw hrl hrw op d1 d2 d3 _ _ rfl rfl h4 hw0
  · exact one_other K X lv M hM hX hR rb rb2 cL cW cl cw hrl hrw op d1 d2 d3 _ _ rfl rfl ⟨h1, h2, h3, h4⟩ hw0
theorem ei39 : (Try.prog.info? 39).map (fun i => (i.zero, i.size, i.bytes)) = some (some (.pointer none), 1, 8) := by kernel_rfl
theorem ei42 : (Try.prog.info? 42).map (fun i => (i.zero, i.size, i.bytes)) = some (some (.pointer none), 1, 8) := by kernel_rfl
theorem i35 : (Try.prog.info? 35).map (·.size) = some 3 := by kernel_rfl
theorem i47 : (Try.prog.info? 47).map (·.size) = some 4 := by kernel_rfl
def Bx.ext (K : Bx) (n c b w r : Nat) : Bx := ⟨up K.cb n c, up K.sb n b, up K.wb n w, up K.R n r⟩
def bx0 : Bx := ⟨fun _ => 0, fun _ => 0, fun _ => 0, fun _ => 0⟩
theorem BMl.zero (K : Bx) (X Y : Nat → List Int) (lv : Nat → Value) : BMl 0 K X Y lv [] := ⟨fun _ => (none, .cells #[] 3 (0, 0)), fun _ => (none, .cells #[] 3 (0, 0)), fun a h => absurd h (Nat.not_lt_zero _), fun a h => absurd h (Nat.not_lt_zero _), rfl⟩
theorem BMl.snoc {n : Nat} {K : Bx} {lv : Nat → Value} {M : Mem} (h : BMl n K (fun _ => []) (fun _ => []) lv M) (c b w r : Nat) (o : Obj) :
    BMl (n + 1) (K.ext n c b w r) (fun _ => []) (fun _ => []) (up lv n (.slice none 0 0)) (M ++ [(some c, .chan r #[] false 0 0 false), (some b, .cells #[.chan (some c), vn .i64 r] 88 (0, 0)), (some w, .cells #[.slice none 0 0, vn .i64 r] 45 (0, 0)), (none, o)]) := by
  obtain ⟨C, Q, hC, hQ, rfl⟩ := h
  refine ⟨up C n (some c, .chan r #[] false 0 0 false), up Q n (none, o), fun a ha => ?_, fun a ha => ?_, ?_⟩
  · by_cases e : a = n
    · subst e
      rw [up_self]
      exact ⟨0, 0, by simp [Bx.ext, up_self, iv]⟩
    · rw [up_ne _ _ e]
      have := hC a (by omega)
      simpa [Bx.ext, up_ne _ _ e] using this
  · by_cases e : a = n
    · subst e
      rw [up_self, up_self]
      exact RowO.nil _ _
    · rw [up_ne _ _ e, up_ne _ _ e]
      exact hQ a (by omega)
  · rw [List.range_succ, List.flatMap_append]
    congr 1
    · refine flatMap_congr' _ fun a ha => ?_
      have e : a ≠ n := by have := List.mem_range.1 ha; omega
      simp [g4, eS, eW, Bx.ext, up_ne _ _ e]
    · simp [g4, eS, eW, Bx.ext, up_self]
theorem WC.fold {P : Program} {w0 : World} {K : List Value → Mem → Prop} {E : Exit → List Value → Mem → Prop} {L : List Value} {c : Code} (x0 e1 e2 : Option Nat × Obj) (q M m0 : Mem) (h : WC P w0 c K E L (x0 :: e1 :: e2 :: ((M ++ q) ++ m0))) : WC P w0 c K E L (x0 :: e1 :: e2 :: (q ++ (M ++ m0))) := fun w hw => h w (hw.perm (by
  refine List.Perm.cons _ (List.Perm.cons _ (List.Perm.cons _ ?_))
  rw [← List.append_assoc]
  exact List.Perm.append_right _ List.perm_append_comm))
def dr (X : Nat → List Int) (k : Nat) : Nat → List Int := fun a => if a < k then [] else X a
theorem dr_zero (X : Nat → List Int) : dr X 0 = X := by funext a; simp [dr]
theorem dr_at (X : Nat → List Int) (k : Nat) : dr X k k = X k := by simp [dr]
theorem dr_step (X : Nat → List Int) (k : Nat) : up (dr X k) k [] = dr X (k + 1) := by
  funext a
  by_cases h : a = k
  · subst h; simp [up, dr]
  · rw [up_ne _ _ h]
    unfold dr
    by_cases h2 : a < k
    · rw [if_pos h2, if_pos (by omega)]
    · rw [if_neg h2, if_neg (by omega)]
def Ws (K : Bx) (lv : Nat → Value) (n : Nat) : Mem := (List.range n).map fun a => eW K (lv a) a
theorem sub_flat {α β : Type} {f : α → β} {g : α → List β} (h : ∀ a, [f a].Sublist (g a)) : ∀ l : List α, (l.map f).Sublist (l.flatMap g)
  | [] => .slnil
  | a :: l => (h a).append (sub_flat h l)
theorem BMl.subW {n : Nat} {K : Bx} {X Y : Nat → List Int} {lv : Nat → Value} {M : Mem} (h : BMl n K X Y lv M) : (Ws K lv n).Sublist M := by
  obtain ⟨C, Q, _, _, rfl⟩ := h
  exact sub_flat (fun a => .cons _ (.cons _ (.cons_cons _ (List.nil_sublist _)))) _
theorem Ws.cell0 {n : Nat} {K : Bx} {lv : Nat → Value} {w0 w : World} {a : Nat} (ha : a < n) (hw : Has w0 (Ws K lv n) w) : w.cell? ⟨K.wb a, 0, none⟩ = some (lv a) := by
  have := hw.at (o := .cells #[lv a, vn .i64 (K.R a)] 45 (0, 0)) (b := K.wb a) a (by simp [Ws, ha, eW])
  simp [World.cell?, this]
theorem do_load {w0 w : World} {m : Mem} (hw : Has w0 m w) {b o : Nat} {z : Nat → Int} (h : ∀ j, j < 4 → w0.cell? ⟨b, o + j, none⟩ = some (.int .i64 (z j))) (j : Nat) (hj : j < [Value.int .i64 (z 0), .int .i64 (z 1), .int .i64 (z 2), .int .i64 (z 3)].length) : w.cell? ⟨b, o + j, none⟩ = [Value.int .i64 (z 0), .int .i64 (z 1), .int .i64 (z 2), .int .i64 (z 3)][j]? := by
  simp only [List.length_cons, List.length_nil] at hj
  rw [hw.far (h j (by omega))]
  rcases (by omega : j = 0 ∨ j = 1 ∨ j = 2 ∨ j = 3) with rfl | rfl | rfl | rfl <;> rfl
theorem four_one (a b c d : Int) : ∀ u ∈ (#[Value.int .i64 a, .int .i64 b, .int .i64 c, .int .i64 d] : Array Value).toList, u.oneCell' = true := by
  intro u hu
  simp only [List.mem_cons, List.not_mem_nil, or_false] at hu
  rcases hu with rfl | rfl | rfl | rfl <;> rfl

set_option maxRecDepth 100000 in
set_option maxHeartbeats 2000000 in
theorem mdoes_spec (f : Nat → Nat) (hf : ∀ i, i < 3 → f i < 256) (n c1 b1 o1 : Nat) (p1 : Option Addr) (g : Nat → Nat → Int) {w0 : World} {m0 : Mem} {w : World} (hw0 : Has w0 (m0) w) (hp1 : 0 < n → p1 = some ⟨b1, o1, none⟩) (hx1 : ∀ i, i < n → ∀ j, j < 4 → w0.cell? ⟨b1, o1 + 4 * i + j, none⟩ = some (.int .i64 (g i j))) :
    Calls Try.prog 4 [.agg (arr .u8 3 f), .slice p1 n c1].toArray w (Post w0 fun v m => v = .bool true ∧ m = []) := by
  refine calls_of_WCm Try.func4 rfl ?_ hw0
  simp only [Try.ntmps4, List.length_cons, List.length_nil, Nat.reduceAdd, Nat.reduceSub, List.replicate, List.cons_append, List.nil_append]
  refine WC_seq ?_
  refine WC_region ?_
  refine WL_relAt 0 rfl (rel_box rfl rfl) ?_
  rintro _ _ ⟨b0, rfl, rfl⟩
  dsimp only [put, List.take, List.drop, List.set, ev, nth, List.nil_append, List.cons_append, md, Nat.reducePow, Nat.reduceAdd, Nat.reduceMul]
  refine WL_det rfl (det_assign) ?_
  dsimp only [put, List.take, List.drop, List.set, ev, nth, List.nil_append, List.cons_append, md, Nat.reducePow, Nat.reduceAdd, Nat.reduceMul]
  refine WL_nil ?_
  refine WC_seq ?_
  refine WC_seq ?_
  refine WC_region ?_
  refine WL_rel rfl (Rel_call rfl Try.call9 (fun w hw => mawake_spec w)) ?_
  rintro _ _ ⟨rfl, rfl⟩
  dsimp only [put, List.append_nil, List.set, ev, nth, List.nil_append, List.cons_append, md, Nat.reducePow, Nat.reduceAdd, Nat.reduceMul]
  try simp only [List.append_nil]
  refine WL_det rfl (det_not rfl) ?_
  dsimp only [put, List.take, List.drop, List.set, ev, nth, List.nil_append, List.cons_append, md, Nat.reducePow, Nat.reduceAdd, Nat.reduceMul]
  refine WL_nil ?_
  refine WC_cond_false rfl ?_
  refine WC_skip ?_
  refine WC_seq ?_
  refine WC_seq ?_
  refine WC_region ?_
  refine WL_det rfl (det_move) ?_
  dsimp only [put, List.take, List.drop, List.set, ev, nth, List.nil_append, List.cons_append, md, Nat.reducePow, Nat.reduceAdd, Nat.reduceMul]
  refine WL_det rfl (det_len Try.underlying36 rfl) ?_
  dsimp only [put, List.take, List.drop, List.set, ev, nth, List.nil_append, List.cons_append, md, Nat.reducePow, Nat.reduceAdd, Nat.reduceMul]
  refine WL_det rfl (det_gtr (q := 60) rfl rfl) ?_
  dsimp only [put, List.take, List.drop, List.set, ev, nth, List.nil_append, List.cons_append, md, Nat.reducePow, Nat.reduceAdd, Nat.reduceMul]
  refine WL_nil ?_
  refine WC_cond rfl (fun hc1 => ?_) (fun hc1 => ?_)
  · have hc1 := of_decide_eq_true hc1
    refine WC_seq ?_
    refine WC_region ?_
    refine WL_det rfl (det_assign) ?_
    dsimp only [put, List.take, List.drop, List.set, ev, nth, List.nil_append, List.cons_append, md, Nat.reducePow, Nat.reduceAdd, Nat.reduceMul]
    refine WL_nil ?_
    refine WC_ret ?_
    refine fin_tmp Try.results4 rfl ([]) (List.nil_sublist _) ?_
    exact ⟨rfl, rfl⟩
  · have hc1 := of_decide_eq_false hc1
    refine WC_skip ?_
    refine WC_seq ?_
    refine WC_region ?_
    refine WL_det rfl (det_assign) ?_
    dsimp only [put, List.take, List.drop, List.set, ev, nth, List.nil_append, List.cons_append, md, Nat.reducePow, Nat.reduceAdd, Nat.reduceMul]
    refine WL_nil ?_
    refine WC_seq ?_
    refine WC_region ?_
    refine WL_det rfl (det_assign) ?_
    dsimp only [put, List.take, List.drop, List.set, ev, nth, List.nil_append, List.cons_append, md, Nat.reducePow, Nat.reduceAdd, Nat.reduceMul]
    refine WL_nil ?_
    refine WC_seq ?_
    refine WC_seq ?_
    refine WC_region ?_
    refine WL_det rfl (det_loadWA 0 Try.underlying35 rfl i35 rfl rfl) ?_
    dsimp only [put, List.take, List.drop, List.set, ev, nth, List.nil_append, List.cons_append, md, Nat.reducePow, Nat.reduceAdd, Nat.reduceMul]
    refine WL_det rfl (det_move) ?_
    dsimp only [put, List.take, List.drop, List.set, ev, nth, List.nil_append, List.cons_append, md, Nat.reducePow, Nat.reduceAdd, Nat.reduceMul]
    refine WL_nil ?_
    refine WC_block ?_
    refine WC.addNoneAt 1 (.cells #[] 39 (0, 0)) ?_
    dsimp only [List.take, List.drop, List.cons_append, List.nil_append]
    refine WC.addNoneAt 2 (.cells #[] 42 (0, 0)) ?_
    dsimp only [List.take, List.drop, List.cons_append, List.nil_append]
    refine WC_loopF (ι := Nat × Bx × (Nat → Value) × Value × (Option Nat × Obj) × Value × (Option Nat × Obj) × Mem) [23, 24, 8, 25, 26, 27, 28, 9, 30, 31, 29, 32, 33, 10, 11, 34, 35, 36, 37, 38, 39, 40, 41, 42, 43, 44, 45, 46, 4, 47, 48, 49, 50, 51, 52, 53, 54, 55, 56, 57] (fun x => [(22, vn .i64 (x.1)), (5, x.2.2.2.1), (6, x.2.2.2.2.2.1)]) (fun x => (some b0, .cells (arr .u8 3 f) 35 (0, 0)) :: x.2.2.2.2.1 :: x.2.2.2.2.2.2.1 :: (x.2.2.2.2.2.2.2 ++ m0)) (fun x => x.1 ≤ 3 ∧ (∀ a, a < x.1 → x.2.1.R a = f a % 9 + 1) ∧ RowV 39 x.1 (fun a => pS x.2.1 a) x.2.2.2.1 x.2.2.2.2.1 ∧ RowV 42 x.1 (fun a => pW x.2.1 a) x.2.2.2.2.2.1 x.2.2.2.2.2.2.1 ∧ BMl x.1 x.2.1 (fun _ => []) (fun _ => []) x.2.2.1 x.2.2.2.2.2.2.2) (fun x => 3 - x.1) (0, bx0, fun _ => undef, .slice none 0 0, (none, .cells #[] 39 (0, 0)), .slice none 0 0, (none, .cells #[] 42 (0, 0)), []) ?_ ?_ ?_ ?_
    · rfl
    · rfl
    · exact ⟨Nat.zero_le _, fun a ha => absurd ha (Nat.not_lt_zero _), RowV.nil _ _ _, RowV.nil _ _ _, BMl.zero _ _ _ _⟩
    · rintro ⟨k, K, lv, v1, e1, v2, e2, M⟩ g' ⟨hk, hK, hr1, hr2, hM⟩
      dsimp only [setAll, setG, setM, List.set]
      dsimp only at hk hK hr1 hr2 hM
      refine WC_seq ?_
      refine WC_region ?_
      refine WL_det rfl (det_lss (q := 3) rfl rfl) ?_
      dsimp only [put, List.take, List.drop, List.set, ev, nth, List.nil_append, List.cons_append, md, Nat.reducePow, Nat.reduceAdd, Nat.reduceMul]
      refine WL_nil ?_
      refine WC_seq ?_
      refine WC_cond rfl (fun hc2 => ?_) (fun hc2 => ?_)
      · have hc2 := of_decide_eq_true hc2
        refine WC_skip ?_
        refine WC_seq ?_
        refine WC_block ?_
        refine WC_seq ?_
        refine WC_region ?_
        refine WL_det rfl (det_index Try.underlying35 Try.sizeOf5 Try.isAgg5 rfl rfl rfl (by omega)) ?_
        dsimp only [put, List.take, List.drop, List.set, ev, nth, List.nil_append, List.cons_append, md, Nat.reducePow, Nat.reduceAdd, Nat.reduceMul]
        refine WL_det rfl (det_assign) ?_
        dsimp only [put, List.take, List.drop, List.set, ev, nth, List.nil_append, List.cons_append, md, Nat.reducePow, Nat.reduceAdd, Nat.reduceMul]
        refine WL_nil ?_
        refine WC_seq ?_
        refine WC_region ?_
        refine WL_det rfl (det_move) ?_
        dsimp only [put, List.take, List.drop, List.set, ev, nth, List.nil_append, List.cons_append, md, Nat.reducePow, Nat.reduceAdd, Nat.reduceMul]
        refine WL_det rfl (det_remi (q := 9) rfl rfl (by omega)) ?_
        dsimp only [put, List.take, List.drop, List.set, ev, nth, List.nil_append, List.cons_append, md, Nat.reducePow, Nat.reduceAdd, Nat.reduceMul]
        refine WL_det rfl (det_convi Try.underlying3 Try.underlying5 rfl (by omega)) ?_
        dsimp only [put, List.take, List.drop, List.set, ev, nth, List.nil_append, List.cons_append, md, Nat.reducePow, Nat.reduceAdd, Nat.reduceMul]
        refine WL_det rfl (det_addi (q := 1) rfl rfl (by omega)) ?_
        dsimp only [put, List.take, List.drop, List.set, ev, nth, List.nil_append, List.cons_append, md, Nat.reducePow, Nat.reduceAdd, Nat.reduceMul]
        refine WL_det rfl (det_assign) ?_
        dsimp only [put, List.take, List.drop, List.set, ev, nth, List.nil_append, List.cons_append, md, Nat.reducePow, Nat.reduceAdd, Nat.reduceMul]
        refine WL_nil ?_
        refine WC_seq ?_
        refine WC_region ?_
        refine WL_det rfl (det_move) ?_
        dsimp only [put, List.take, List.drop, List.set, ev, nth, List.nil_append, List.cons_append, md, Nat.reducePow, Nat.reduceAdd, Nat.reduceMul]
        refine WL_relAt 3 rfl (Rel_call rfl Try.call17 (fun w hw => newI_ok (f k % 9 + 1) (by omega) (by omega) w)) ?_
        rintro _ _ ⟨b, c, rfl, rfl⟩
        dsimp only [put, List.append_nil, List.take, List.drop, List.set, ev, nth, List.nil_append, List.cons_append, md, Nat.reducePow, Nat.reduceAdd, Nat.reduceMul]
        try simp only [List.append_nil]
        refine WL_det rfl (det_move) ?_
        dsimp only [put, List.take, List.drop, List.set, ev, nth, List.nil_append, List.cons_append, md, Nat.reducePow, Nat.reduceAdd, Nat.reduceMul]
        refine WL_det rfl (det_extract rfl rfl) ?_
        dsimp only [put, List.take, List.drop, List.set, ev, nth, List.nil_append, List.cons_append, md, Nat.reducePow, Nat.reduceAdd, Nat.reduceMul]
        refine WL_det rfl (det_extract rfl rfl) ?_
        dsimp only [put, List.take, List.drop, List.set, ev, nth, List.nil_append, List.cons_append, md, Nat.reducePow, Nat.reduceAdd, Nat.reduceMul]
        refine WL_det rfl (det_assign) ?_
        dsimp only [put, List.take, List.drop, List.set, ev, nth, List.nil_append, List.cons_append, md, Nat.reducePow, Nat.reduceAdd, Nat.reduceMul]
        refine WL_det rfl (det_assign) ?_
        dsimp only [put, List.take, List.drop, List.set, ev, nth, List.nil_append, List.cons_append, md, Nat.reducePow, Nat.reduceAdd, Nat.reduceMul]
        refine WL_nil ?_
        refine WC_seq ?_
        refine WC_seq ?_
        refine WC_region ?_
        refine WL_det rfl (det_move) ?_
        dsimp only [put, List.take, List.drop, List.set, ev, nth, List.nil_append, List.cons_append, md, Nat.reducePow, Nat.reduceAdd, Nat.reduceMul]
        refine WL_det rfl (Det.bv false (det_neq (q := 0) rfl rfl) (by simp)) ?_
        dsimp only [put, List.take, List.drop, List.set, ev, nth, List.nil_append, List.cons_append, md, Nat.reducePow, Nat.reduceAdd, Nat.reduceMul]
        refine WL_det rfl (det_move) ?_
        dsimp only [put, List.take, List.drop, List.set, ev, nth, List.nil_append, List.cons_append, md, Nat.reducePow, Nat.reduceAdd, Nat.reduceMul]
        refine WL_detG rfl (det_move) ?_
        dsimp only [put, List.take, List.drop, List.set, ev, nth, List.nil_append, List.cons_append, md, Nat.reducePow, Nat.reduceAdd, Nat.reduceMul]
        refine WL_relG rfl (Rel_call rfl Try.call18 (fun w hw => roomI_spec b c (f k % 9 + 1) 0 0 [] (by simp) (by omega) w (hw.at 4 rfl) (hw.at 3 rfl))) ?_
        rintro _ _ ⟨rfl, rfl⟩
        dsimp only [put, List.append_nil, List.set, ev, nth, List.nil_append, List.cons_append, md, Nat.reducePow, Nat.reduceAdd, Nat.reduceMul]
        try simp only [List.append_nil]
        refine WL_detG rfl (det_move) ?_
        dsimp only [put, List.take, List.drop, List.set, ev, nth, List.nil_append, List.cons_append, md, Nat.reducePow, Nat.reduceAdd, Nat.reduceMul]
        refine WL_detG rfl (Det.bv false (det_neq rfl rfl) (by simp)) ?_
        dsimp only [put, List.take, List.drop, List.set, ev, nth, List.nil_append, List.cons_append, md, Nat.reducePow, Nat.reduceAdd, Nat.reduceMul]
        refine WL_det rfl (det_pick_false rfl) ?_
        dsimp only [put, List.take, List.drop, List.set, ev, nth, List.nil_append, List.cons_append, md, Nat.reducePow, Nat.reduceAdd, Nat.reduceMul]
        refine WL_det rfl (det_move) ?_
        dsimp only [put, List.take, List.drop, List.set, ev, nth, List.nil_append, List.cons_append, md, Nat.reducePow, Nat.reduceAdd, Nat.reduceMul]
        refine WL_detG rfl (det_move) ?_
        dsimp only [put, List.take, List.drop, List.set, ev, nth, List.nil_append, List.cons_append, md, Nat.reducePow, Nat.reduceAdd, Nat.reduceMul]
        refine WL_relG rfl (Rel_call rfl Try.call19 (fun w hw => lenI_spec b c (f k % 9 + 1) 0 0 [] w (hw.at 4 rfl) (hw.at 3 rfl))) ?_
        rintro _ _ ⟨rfl, rfl⟩
        dsimp only [put, List.append_nil, List.set, ev, nth, List.nil_append, List.cons_append, md, Nat.reducePow, Nat.reduceAdd, Nat.reduceMul]
        try simp only [List.append_nil]
        refine WL_detG rfl (Det.bv false (det_neq (q := 0) rfl rfl) (by simp)) ?_
        dsimp only [put, List.take, List.drop, List.set, ev, nth, List.nil_append, List.cons_append, md, Nat.reducePow, Nat.reduceAdd, Nat.reduceMul]
        refine WL_det rfl (det_pick_false rfl) ?_
        dsimp only [put, List.take, List.drop, List.set, ev, nth, List.nil_append, List.cons_append, md, Nat.reducePow, Nat.reduceAdd, Nat.reduceMul]
        refine WL_nil ?_
        refine WC_cond_false rfl ?_
        refine WC_skip ?_
        refine WC_region ?_
        refine WL_det rfl (det_move) ?_
        dsimp only [put, List.take, List.drop, List.set, ev, nth, List.nil_append, List.cons_append, md, Nat.reducePow, Nat.reduceAdd, Nat.reduceMul]
        refine WL_det rfl (det_move) ?_
        dsimp only [put, List.take, List.drop, List.set, ev, nth, List.nil_append, List.cons_append, md, Nat.reducePow, Nat.reduceAdd, Nat.reduceMul]
        refine WL_relAt 5 rfl (rel_lit1 Try.underlying37 Try.zeroValue39 Try.sizeOf39 rfl rfl) ?_
        rintro _ _ ⟨bl, rfl, rfl⟩
        dsimp only [put, List.take, List.drop, List.set, ev, nth, List.nil_append, List.cons_append, md, Nat.reducePow, Nat.reduceAdd, Nat.reduceMul]
        refine WL_chg rfl (chg_append1 1 5 rfl (hr1) rfl rfl rfl rfl Try.underlying37 ei39 rfl (by omega) (by decide)) ?_
        rintro v50 _ ⟨e50, hr50, rfl⟩
        dsimp only [put, List.eraseIdx, List.set, ev, nth, List.nil_append, List.cons_append, md, Nat.reducePow, Nat.reduceAdd, Nat.reduceMul]
        refine WL_det rfl (det_move) ?_
        dsimp only [put, List.take, List.drop, List.set, ev, nth, List.nil_append, List.cons_append, md, Nat.reducePow, Nat.reduceAdd, Nat.reduceMul]
        refine WL_det rfl (det_move) ?_
        dsimp only [put, List.take, List.drop, List.set, ev, nth, List.nil_append, List.cons_append, md, Nat.reducePow, Nat.reduceAdd, Nat.reduceMul]
        refine WL_det rfl (det_buildS (c := #[.slice none 0 0, vn .i64 (f k % 9 + 1)]) (pl := #[(0, 1), (1, 1)]) Try.zeroValue45 Try.underlying45 (fun w => by kernel_rfl) (by kernel_rfl)) ?_
        dsimp only [put, List.take, List.drop, List.set, ev, nth, List.nil_append, List.cons_append, md, Nat.reducePow, Nat.reduceAdd, Nat.reduceMul]
        refine WL_relAt 5 rfl (rel_box rfl rfl) ?_
        rintro _ _ ⟨b5, rfl, rfl⟩
        dsimp only [put, List.take, List.drop, List.set, ev, nth, List.nil_append, List.cons_append, md, Nat.reducePow, Nat.reduceAdd, Nat.reduceMul]
        refine WL_relAt 6 rfl (rel_lit1 Try.underlying38 Try.zeroValue42 Try.sizeOf42 rfl rfl) ?_
        rintro _ _ ⟨bl, rfl, rfl⟩
        dsimp only [put, List.take, List.drop, List.set, ev, nth, List.nil_append, List.cons_append, md, Nat.reducePow, Nat.reduceAdd, Nat.reduceMul]
        refine WL_chg rfl (chg_append1 2 6 rfl (hr2) rfl rfl rfl rfl Try.underlying38 ei42 rfl (by omega) (by decide)) ?_
        rintro v56 _ ⟨e56, hr56, rfl⟩
        dsimp only [put, List.eraseIdx, List.set, ev, nth, List.nil_append, List.cons_append, md, Nat.reducePow, Nat.reduceAdd, Nat.reduceMul]
        refine WL_det rfl (det_assign) ?_
        dsimp only [put, List.take, List.drop, List.set, ev, nth, List.nil_append, List.cons_append, md, Nat.reducePow, Nat.reduceAdd, Nat.reduceMul]
        refine WL_det rfl (det_assign) ?_
        dsimp only [put, List.take, List.drop, List.set, ev, nth, List.nil_append, List.cons_append, md, Nat.reducePow, Nat.reduceAdd, Nat.reduceMul]
        refine WL_nil ?_
        refine WC.addNoneAt 6 (.cells #[] 3 (0, 0)) ?_
        dsimp only [List.take, List.drop, List.cons_append, List.nil_append]
        refine WC.fold _ _ _ [_, _, _, _] _ _ ?_
        refine WC_region ?_
        refine WL_det rfl (det_addi (q := 1) rfl rfl (by omega)) ?_
        dsimp only [put, List.take, List.drop, List.set, ev, nth, List.nil_append, List.cons_append, md, Nat.reducePow, Nat.reduceAdd, Nat.reduceMul]
        refine WL_det rfl (det_move) ?_
        dsimp only [put, List.take, List.drop, List.set, ev, nth, List.nil_append, List.cons_append, md, Nat.reducePow, Nat.reduceAdd, Nat.reduceMul]
        refine WL_nil ?_
        refine ⟨(k + 1, K.ext k c b b5 (f k % 9 + 1), up lv k (.slice none 0 0), v50, e50, v56, e56, M ++ [(some c, .chan (f k % 9 + 1) #[] false 0 0 false), (some b, .cells #[.chan (some c), vn .i64 (f k % 9 + 1)] 88 (0, 0)), (some b5, .cells #[.slice none 0 0, vn .i64 (f k % 9 + 1)] 45 (0, 0)), (none, .cells #[] 3 (0, 0))]), ?_, ?_, ?_, ?_⟩
        · rfl
        · rfl
        · refine ⟨by dsimp only; omega, fun a ha => ?_, hr50.congr fun i hi => ?_, hr56.congr fun i hi => ?_, hM.snoc c b b5 _ _⟩
          · dsimp only at ha
            by_cases e : a = k
            · subst e; exact up_self _ _ _
            · exact (up_ne _ _ e).trans (hK a (by omega))
          · unfold catV
            by_cases e : i < k
            · rw [if_pos e]; show pS K i = .pointer (some ⟨up K.sb k b i, 0, none⟩); rw [up_ne _ _ (by omega)]
            · rw [if_neg e, show i = k by omega]; show _ = Value.pointer (some ⟨up K.sb k b k, 0, none⟩); rw [up_self]; rfl
          · unfold catV
            by_cases e : i < k
            · rw [if_pos e]; show pW K i = .pointer (some ⟨up K.wb k b5 i, 0, none⟩); rw [up_ne _ _ (by omega)]
            · rw [if_neg e, show i = k by omega]; show _ = Value.pointer (some ⟨up K.wb k b5 k, 0, none⟩); rw [up_self]
        · dsimp only; omega
      · have hc2 := of_decide_eq_false hc2
        obtain rfl : k = 3 := by omega
        obtain ⟨rb, cL, cl, rfl, rfl, _, _, _, hcl⟩ := hr1.pos (by decide)
        obtain ⟨rb2, cW, cw, rfl, rfl, _, _, _, hcw⟩ := hr2.pos (by decide)
        have hR : ∀ a, a < 3 → K.R a ≤ 9 := fun a ha => by rw [hK a ha]; omega
        refine WC_exit ?_
        refine inB_same ?_
        refine WC_seq ?_
        refine WC_seq ?_
        refine WC_region ?_
        refine WL_det rfl (det_move) ?_
        dsimp only [put, List.take, List.drop, List.set, ev, nth, List.nil_append, List.cons_append, md, Nat.reducePow, Nat.reduceAdd, Nat.reduceMul]
        refine WL_det rfl (det_len Try.underlying36 rfl) ?_
        dsimp only [put, List.take, List.drop, List.set, ev, nth, List.nil_append, List.cons_append, md, Nat.reducePow, Nat.reduceAdd, Nat.reduceMul]
        refine WL_det rfl (det_move) ?_
        dsimp only [put, List.take, List.drop, List.set, ev, nth, List.nil_append, List.cons_append, md, Nat.reducePow, Nat.reduceAdd, Nat.reduceMul]
        refine WL_nil ?_
        refine WC.forget (.cons _ (.cons_cons _ (.cons_cons _ (List.Sublist.refl _)))) ?_
        refine WC_block ?_
        refine WC_loopF (ι := Nat × Mem) [61, 62, 63, 13, 64, 65, 66, 67, 68, 4, 69] (fun x => [(60, vn .i64 (x.1))]) (fun x => (some rb, .cells cl 39 (0, 0)) :: (some rb2, .cells cw 42 (0, 0)) :: (x.2 ++ m0)) (fun x => x.1 ≤ n ∧ ∃ X lv, (∀ a, a < 3 → (X a).length ≤ K.R a) ∧ BMl 3 K X X lv x.2) (fun x => n - x.1) (0, M) ?_ ?_ ?_ ?_
        · rfl
        · rfl
        · exact ⟨Nat.zero_le _, _, lv, fun a _ => Nat.zero_le _, hM⟩
        · rintro ⟨k, M⟩ g' ⟨hk, X, lv, hX, hM⟩
          dsimp only [setAll, setG, setM, List.set]
          dsimp only at hk hM
          refine WC_seq ?_
          refine WC_region ?_
          refine WL_det rfl (det_lss rfl rfl) ?_
          dsimp only [put, List.take, List.drop, List.set, ev, nth, List.nil_append, List.cons_append, md, Nat.reducePow, Nat.reduceAdd, Nat.reduceMul]
          refine WL_nil ?_
          refine WC_seq ?_
          refine WC_cond rfl (fun hc4 => ?_) (fun hc4 => ?_)
          · have hc4 := of_decide_eq_true hc4
            refine WC_skip ?_
            refine WC_seq ?_
            refine WC_block ?_
            refine WC_seq ?_
            refine WC_region ?_
            refine WL_det rfl (det_idxSn 3 Try.underlying36 Try.sizeOf47 rfl rfl rfl (by omega) (hp1 (by omega))) ?_
            dsimp only [put, List.take, List.drop, List.set, ev, nth, List.nil_append, List.cons_append, md, Nat.reducePow, Nat.reduceAdd, Nat.reduceMul]
            refine WL_det rfl (det_loadLs (l := [.int .i64 (g k 0), .int .i64 (g k 1), .int .i64 (g k 2), .int .i64 (g k 3)]) Try.underlying47 rfl i47 rfl (fun w hw => do_load hw (hx1 k (by omega)))) ?_
            dsimp only [put, List.take, List.drop, List.set, ev, nth, List.nil_append, List.cons_append, md, Nat.reducePow, Nat.reduceAdd, Nat.reduceMul]
            refine WL_relAt 2 rfl (rel_alloc Try.zeroValue47 rfl) ?_
            rintro _ _ ⟨b2, rfl, rfl⟩
            dsimp only [put, List.take, List.drop, List.set, ev, nth, List.nil_append, List.cons_append, md, Nat.reducePow, Nat.reduceAdd, Nat.reduceMul]
            refine WL_chg rfl (chg_storeWn 2 _ rfl rfl rfl Try.sizeOf47 rfl rfl rfl (four_one _ _ _ _)) ?_
            rintro _ _ rfl
            dsimp only [put, List.take, List.drop, List.set, ev, nth, List.nil_append, List.cons_append, md, Nat.reducePow, Nat.reduceAdd, Nat.reduceMul]
            refine WL_nil ?_
            refine WC_seq ?_
            refine WC_region ?_
            refine WL_det rfl (det_move) ?_
            dsimp only [put, List.take, List.drop, List.set, ev, nth, List.nil_append, List.cons_append, md, Nat.reducePow, Nat.reduceAdd, Nat.reduceMul]
            refine WL_det rfl (det_move) ?_
            dsimp only [put, List.take, List.drop, List.set, ev, nth, List.nil_append, List.cons_append, md, Nat.reducePow, Nat.reduceAdd, Nat.reduceMul]
            refine WL_det rfl (det_loadWn 2 _ rfl rfl rfl Try.underlying47 rfl i47) ?_
            dsimp only [put, List.take, List.drop, List.set, ev, nth, List.nil_append, List.cons_append, md, Nat.reducePow, Nat.reduceAdd, Nat.reduceMul]
            refine WL.forget (.cons_cons _ (.cons_cons _ (.cons _ (List.Sublist.refl _)))) ?_
            refine WL_chg rfl (Chg_call rfl Try.call20 (fun w hw => one_spec K X lv M hM hX hR rb rb2 cL cW cl cw hcl hcw _ _ _ _ hw)) ?_
            rintro _ _ ⟨M1, ⟨rfl, X1, lv1, hX1, hM1⟩, rfl⟩
            dsimp only [put, setM, List.zip, List.zipWith, List.take, List.drop, List.append_nil, List.set, ev, nth, List.nil_append, List.cons_append, md, Nat.reducePow, Nat.reduceAdd, Nat.reduceMul]
            refine WL_det rfl (det_not rfl) ?_
            dsimp only [put, List.take, List.drop, List.set, ev, nth, List.nil_append, List.cons_append, md, Nat.reducePow, Nat.reduceAdd, Nat.reduceMul]
            refine WL_nil ?_
            refine WC_cond_false rfl ?_
            refine WC_skip ?_
            refine WC_region ?_
            refine WL_det rfl (det_addi (q := 1) rfl rfl (by omega)) ?_
            dsimp only [put, List.take, List.drop, List.set, ev, nth, List.nil_append, List.cons_append, md, Nat.reducePow, Nat.reduceAdd, Nat.reduceMul]
            refine WL_det rfl (det_move) ?_
            dsimp only [put, List.take, List.drop, List.set, ev, nth, List.nil_append, List.cons_append, md, Nat.reducePow, Nat.reduceAdd, Nat.reduceMul]
            refine WL_nil ?_
            refine ⟨(k + 1, M1), ?_, ?_, ?_, ?_⟩
            · rfl
            · rfl
            · exact ⟨by dsimp only; omega, X1, lv1, hX1, hM1⟩
            · dsimp only; omega
          · have hc4 := of_decide_eq_false hc4
            refine WC_exit ?_
            refine inB_same ?_
            refine WC_seq ?_
            refine WC_seq ?_
            refine WC_region ?_
            refine WL_det rfl (det_move) ?_
            dsimp only [put, List.take, List.drop, List.set, ev, nth, List.nil_append, List.cons_append, md, Nat.reducePow, Nat.reduceAdd, Nat.reduceMul]
            refine WL_det rfl (det_len Try.underlying37 rfl) ?_
            dsimp only [put, List.take, List.drop, List.set, ev, nth, List.nil_append, List.cons_append, md, Nat.reducePow, Nat.reduceAdd, Nat.reduceMul]
            refine WL_det rfl (det_move) ?_
            dsimp only [put, List.take, List.drop, List.set, ev, nth, List.nil_append, List.cons_append, md, Nat.reducePow, Nat.reduceAdd, Nat.reduceMul]
            refine WL_nil ?_
            refine WC_block ?_
            refine WC_loopF (ι := Nat × Mem) [73, 74, 75, 76, 14, 15, 77, 78, 79, 80, 81, 82, 83, 84, 85, 86, 87, 88, 89, 90, 91, 92, 93, 94, 95, 96, 97, 98, 99, 100, 101, 102, 103, 104, 105, 106, 107, 108, 109, 110, 111, 112, 113, 114, 115, 116, 117, 118, 119, 120, 121, 4, 122] (fun x => [(72, vn .i64 (x.1))]) (fun x => (some rb, .cells cl 39 (0, 0)) :: (some rb2, .cells cw 42 (0, 0)) :: (x.2 ++ m0)) (fun x => x.1 ≤ 3 ∧ BMl 3 K (dr X x.1) X lv x.2) (fun x => 3 - x.1) (0, M) ?_ ?_ ?_ ?_
            · rfl
            · rfl
            · exact ⟨Nat.zero_le _, by rw [dr_zero]; exact hM⟩
            · rintro ⟨k, M⟩ g' ⟨hk, hM⟩
              dsimp only [setAll, setG, setM, List.set]
              dsimp only at hk hM
              refine WC_seq ?_
              refine WC_region ?_
              refine WL_det rfl (det_lss rfl rfl) ?_
              dsimp only [put, List.take, List.drop, List.set, ev, nth, List.nil_append, List.cons_append, md, Nat.reducePow, Nat.reduceAdd, Nat.reduceMul]
              refine WL_nil ?_
              refine WC_seq ?_
              refine WC_cond rfl (fun hc6 => ?_) (fun hc6 => ?_)
              · have hc6 := of_decide_eq_true hc6
                have hXk := hX k (by omega)
                have hRk := hR k (by omega)
                refine WC_skip ?_
                refine WC_seq ?_
                refine WC_block ?_
                refine WC_seq ?_
                refine WC_region ?_
                refine WL_det rfl (det_move) ?_
                dsimp only [put, List.take, List.drop, List.set, ev, nth, List.nil_append, List.cons_append, md, Nat.reducePow, Nat.reduceAdd, Nat.reduceMul]
                refine WL_det rfl (det_idxS0 Try.underlying37 Try.sizeOf39 rfl rfl (rfl) (by omega)) ?_
                dsimp only [put, List.take, List.drop, List.set, ev, nth, List.nil_append, List.cons_append, md, Nat.reducePow, Nat.reduceAdd, Nat.reduceMul]
                refine WL_det rfl (det_load 0 Try.isAgg39 rfl rfl (hcl _ (by omega))) ?_
                dsimp only [put, List.take, List.drop, List.set, ev, nth, List.nil_append, List.cons_append, md, Nat.reducePow, Nat.reduceAdd, Nat.reduceMul]
                refine WL_det rfl (det_assign) ?_
                dsimp only [put, List.take, List.drop, List.set, ev, nth, List.nil_append, List.cons_append, md, Nat.reducePow, Nat.reduceAdd, Nat.reduceMul]
                refine WL_det rfl (det_assign) ?_
                dsimp only [put, List.take, List.drop, List.set, ev, nth, List.nil_append, List.cons_append, md, Nat.reducePow, Nat.reduceAdd, Nat.reduceMul]
                refine WL_nil ?_
                refine WC_seq ?_
                refine WC_draw [[], [0], [], [], [2, 3], [2, 3, 4], [2, 3, 4, 5], [2, 3, 4, 5, 6], [2, 3, 4, 5, 6, 7], [2, 3, 4, 5, 6, 7, 8], [0, 1, 2, 3, 4, 5, 6, 7, 8, 9], [0, 1, 2, 3, 4, 5, 6, 7, 8, 9, 10], [0, 1, 2, 3, 4, 5, 6, 7, 8, 9, 10, 11], [0, 1, 2, 3, 4, 5, 6, 7, 8, 9, 10, 11, 12], [0, 1, 2, 3, 4, 5, 6, 7, 8, 9, 10, 11], [0, 1, 2, 3, 4, 5, 6, 7, 8, 9, 10, 11], [0, 1, 2, 3, 4, 5, 6, 7, 8, 9, 10, 11, 14, 15], [0, 1, 2, 3, 4, 5, 6, 7, 8, 9, 10, 11, 14, 15, 16], [0, 1, 2, 3, 4, 5, 6, 7, 8, 9, 10, 11, 14, 15, 16, 17], [0, 1, 2, 3, 4, 5, 6, 7, 8, 9, 10, 11, 14, 15, 16, 17, 18], [0, 1, 2, 3, 4, 5, 6, 7, 8, 9, 10, 11, 14, 15, 16, 17, 18, 19], [0, 1, 2, 3, 4, 5, 6, 7, 8, 9, 10, 11], [0, 1, 2, 3, 4, 5, 6, 7, 8, 9, 10, 11], [0, 1, 2, 3, 4, 5, 6, 7, 8, 9, 10, 11, 21, 22], [0, 1, 2, 3, 4, 5, 6, 7, 8, 9, 10, 11, 21, 22, 23], [0, 1, 2, 3, 4, 5, 6, 7, 8, 9, 10, 11, 21, 22, 23, 24], [0, 1, 2, 3, 4, 5, 6, 7, 8, 9, 10, 11, 21, 22, 23, 24, 25], [0, 1, 2, 3, 4, 5, 6, 7, 8, 9, 10, 11, 21, 22, 23, 24, 25, 26], [0, 1, 2, 3, 4, 5, 6, 7, 8, 9, 10, 11, 21, 22, 23, 24, 25, 26, 27], [0, 1, 2, 3, 4, 5, 6, 7, 8, 9, 10, 11, 14, 15, 16, 17, 18, 19, 20, 21, 22, 23, 24, 25, 26, 27, 28], [0, 1, 2, 3, 4, 5, 6, 7, 8, 9, 10, 11, 12, 13, 14, 15, 16, 17, 18, 19, 20, 21, 22, 23, 24, 25, 26, 27, 28, 29], [0, 1, 2, 3, 4, 5, 6, 7, 8, 9, 10, 11, 12, 13, 14, 15, 16, 17, 18, 19, 20, 21, 22, 23, 24, 25, 26, 27, 28, 29, 30], [0, 1, 2, 3, 4, 5, 6, 7, 8, 9, 10, 11, 12, 13, 14, 15, 16, 17, 18, 19, 20, 21, 22, 23, 24, 25, 26, 27, 28, 29, 30, 31], [0, 1, 2, 3, 4, 5, 6, 7, 8, 9, 10, 11, 12, 13, 14, 15, 16, 17, 18, 19, 20, 21, 22, 23, 24, 25, 26, 27, 28, 29, 30, 31, 32], [0, 1, 2, 3, 4, 5, 6, 7, 8, 9, 10, 11, 12, 13, 14, 15, 16, 17, 18, 19, 20, 21, 22, 23, 24, 25, 26, 27, 28, 29, 30, 31, 32, 33], [0, 1, 2, 3, 4, 5, 6, 7, 8, 9, 10, 11, 12, 13, 14, 15, 16, 17, 18, 19, 20, 21, 22, 23, 24, 25, 26, 27, 28, 29, 30, 31, 32], [0, 1, 2, 3, 4, 5, 6, 7, 8, 9, 10, 11, 12, 13, 14, 15, 16, 17, 18, 19, 20, 21, 22, 23, 24, 25, 26, 27, 28, 29, 30, 31, 32], [0, 1, 2, 3, 4, 5, 6, 7, 8, 9, 10, 11, 12, 13, 14, 15, 16, 17, 18, 19, 20, 21, 22, 23, 24, 25, 26, 27, 28, 29, 30, 31, 32, 35, 36], [0, 1, 2, 3, 4, 5, 6, 7, 8, 9, 10, 11, 12, 13, 14, 15, 16, 17, 18, 19, 20, 21, 22, 23, 24, 25, 26, 27, 28, 29, 30, 31, 32, 35, 36, 37], [0, 1, 2, 3, 4, 5, 6, 7, 8, 9, 10, 11, 12, 13, 14, 15, 16, 17, 18, 19, 20, 21, 22, 23, 24, 25, 26, 27, 28, 29, 30, 31, 32, 35, 36, 37, 38], [0, 1, 2, 3, 4, 5, 6, 7, 8, 9, 10, 11, 12, 13, 14, 15, 16, 17, 18, 19, 20, 21, 22, 23, 24, 25, 26, 27, 28, 29, 30, 31, 32, 35, 36, 37, 38, 39], [0, 1, 2, 3, 4, 5, 6, 7, 8, 9, 10, 11, 12, 13, 14, 15, 16, 17, 18, 19, 20, 21, 22, 23, 24, 25, 26, 27, 28, 29, 30, 31, 32, 35, 36, 37, 38, 39, 40], [0, 1, 2, 3, 4, 5, 6, 7, 8, 9, 10, 11, 12, 13, 14, 15, 16, 17, 18, 19, 20, 21, 22, 23, 24, 25, 26, 27, 28, 29, 30, 31, 32, 33, 34, 35, 36, 37, 38, 39, 40, 41], [0, 1, 2, 3, 4, 5, 6, 7, 8, 9, 10, 11, 12, 13, 14, 15, 16, 17, 18, 19, 20, 21, 22, 23, 24, 25, 26, 27, 28, 29, 30, 31, 32, 33, 34, 35, 36, 37, 38, 39, 40, 41, 42], [0, 1, 2, 3, 4, 5, 6, 7, 8, 9, 10, 11, 12, 13, 14, 15, 16, 17, 18, 19, 20, 21, 22, 23, 24, 25, 26, 27, 28, 29, 30, 31, 32, 33, 34, 35, 36, 37, 38, 39, 40, 41, 42, 43]] [34] 123 ((some rb, .cells cl 39 (0, 0)) :: (some rb2, .cells cw 42 (0, 0)) :: Ws K lv 3) (.cons_cons _ (.cons_cons _ (hM.subW.trans (List.sublist_append_left _ _)))) mixed rfl (by decide) ?_
                refine RW.pure rfl rfl (fun _ => rfl) (fun V hV => det_move) (fun _ _ _ => rfl) ?_
                dsimp only [put, List.set, ev, nth, List.nil_append, List.cons_append, md, Nat.reducePow, Nat.reduceAdd, Nat.reduceMul]
                refine RW.det [] rfl rfl rfl rfl (fun _ => rfl) (fun V hV => Rel_call rfl Try.call19 (fun w hw => lenB hM (by omega) (Has.dropN (hflat0 hw) 2))) (fun _ _ _ => rfl) ?_
                dsimp only [put, List.set, ev, nth, List.nil_append, List.cons_append, md, Nat.reducePow, Nat.reduceAdd, Nat.reduceMul]
                refine RW.pure rfl rfl (fun _ => rfl) (fun V hV => det_move) (fun _ _ _ => rfl) ?_
                dsimp only [put, List.set, ev, nth, List.nil_append, List.cons_append, md, Nat.reducePow, Nat.reduceAdd, Nat.reduceMul]
                refine RW.pure rfl rfl (fun _ => rfl) (fun V hV => det_move) (fun _ _ _ => rfl) ?_
                dsimp only [put, List.set, ev, nth, List.nil_append, List.cons_append, md, Nat.reducePow, Nat.reduceAdd, Nat.reduceMul]
                refine RW.pure rfl rfl (fun _ => rfl) (fun V hV => det_idxS0 Try.underlying38 Try.sizeOf42 rfl rfl (rfl) (by omega)) (fun _ _ _ => rfl) ?_
                dsimp only [put, List.set, ev, nth, List.nil_append, List.cons_append, md, Nat.reducePow, Nat.reduceAdd, Nat.reduceMul]
                refine RW.det [] rfl rfl rfl rfl (fun _ => rfl) (fun V hV => Det.rel (det_load 1 Try.isAgg42 rfl rfl (hcw _ (by omega)))) (fun _ _ _ => rfl) ?_
                dsimp only [put, List.set, ev, nth, List.nil_append, List.cons_append, md, Nat.reducePow, Nat.reduceAdd, Nat.reduceMul]
                refine RW.pure rfl rfl (fun _ => rfl) (fun V hV => det_nilCheck rfl) (fun _ _ _ => rfl) ?_
                dsimp only [put, List.set, ev, nth, List.nil_append, List.cons_append, md, Nat.reducePow, Nat.reduceAdd, Nat.reduceMul]
                refine RW.pure rfl rfl (fun _ => rfl) (fun V hV => det_fieldAddr 0 Try.underlying45 rfl Try.sizeOf43 rfl) (fun _ _ _ => rfl) ?_
                dsimp only [put, List.set, ev, nth, List.nil_append, List.cons_append, md, Nat.reducePow, Nat.reduceAdd, Nat.reduceMul]
                refine RW.det [] rfl rfl rfl rfl (fun _ => rfl) (fun V hV => Det.rel (det_loadAt Try.isAgg43 rfl fun w hw => hM.cell0 (by omega) (Has.dropN (hflat0 hw) 2))) (fun _ _ _ => rfl) ?_
                dsimp only [put, List.set, ev, nth, List.nil_append, List.cons_append, md, Nat.reducePow, Nat.reduceAdd, Nat.reduceMul]
                refine RW.pure rfl rfl (fun _ => rfl) (fun V hV => det_lenL Try.underlying43 rfl (hM.slice (show k < 3 by omega))) (fun _ _ _ => rfl) ?_
                dsimp only [put, List.set, ev, nth, List.nil_append, List.cons_append, md, Nat.reducePow, Nat.reduceAdd, Nat.reduceMul]
                refine RW.pure rfl rfl (fun _ => rfl) (fun V hV => Det.bv false (det_neq rfl rfl) (by simp [dr])) (fun _ _ _ => rfl) ?_
                dsimp only [put, List.set, ev, nth, List.nil_append, List.cons_append, md, Nat.reducePow, Nat.reduceAdd, Nat.reduceMul]
                refine RW.pure rfl rfl (fun _ => rfl) (fun V hV => det_move) (fun _ _ _ => rfl) ?_
                dsimp only [put, List.set, ev, nth, List.nil_append, List.cons_append, md, Nat.reducePow, Nat.reduceAdd, Nat.reduceMul]
                refine RW.pure rfl rfl (fun _ => rfl) (fun V hV => det_move) (fun _ _ _ => rfl) ?_
                dsimp only [put, List.set, ev, nth, List.nil_append, List.cons_append, md, Nat.reducePow, Nat.reduceAdd, Nat.reduceMul]
                refine RW.det [] rfl rfl rfl rfl (fun _ => rfl) (fun V hV => Rel_call rfl Try.call18 (fun w hw => roomB hM (show k < 3 by omega) (by rw [dr_at]; exact hX k (by omega)) (by have := hR k (by omega); omega) (Has.dropN (hflat0 hw) 2))) (fun _ _ _ => rfl) ?_
                dsimp only [put, List.set, ev, nth, List.nil_append, List.cons_append, md, Nat.reducePow, Nat.reduceAdd, Nat.reduceMul]
                refine RW.pure rfl rfl (fun _ => rfl) (fun V hV => det_move) (fun _ _ _ => rfl) ?_
                dsimp only [put, List.set, ev, nth, List.nil_append, List.cons_append, md, Nat.reducePow, Nat.reduceAdd, Nat.reduceMul]
                refine RW.pure rfl rfl (fun _ => rfl) (fun V hV => det_move) (fun _ _ _ => rfl) ?_
                dsimp only [put, List.set, ev, nth, List.nil_append, List.cons_append, md, Nat.reducePow, Nat.reduceAdd, Nat.reduceMul]
                refine RW.pure rfl rfl (fun _ => rfl) (fun V hV => det_idxS0 Try.underlying38 Try.sizeOf42 rfl rfl (rfl) (by omega)) (fun _ _ _ => rfl) ?_
                dsimp only [put, List.set, ev, nth, List.nil_append, List.cons_append, md, Nat.reducePow, Nat.reduceAdd, Nat.reduceMul]
                refine RW.det [] rfl rfl rfl rfl (fun _ => rfl) (fun V hV => Det.rel (det_load 1 Try.isAgg42 rfl rfl (hcw _ (by omega)))) (fun _ _ _ => rfl) ?_
                dsimp only [put, List.set, ev, nth, List.nil_append, List.cons_append, md, Nat.reducePow, Nat.reduceAdd, Nat.reduceMul]
                refine RW.pure rfl rfl (fun _ => rfl) (fun V hV => det_nilCheck rfl) (fun _ _ _ => rfl) ?_
                dsimp only [put, List.set, ev, nth, List.nil_append, List.cons_append, md, Nat.reducePow, Nat.reduceAdd, Nat.reduceMul]
                refine RW.pure rfl rfl (fun _ => rfl) (fun V hV => det_fieldAddr 1 Try.underlying45 rfl Try.sizeOf3 rfl) (fun _ _ _ => rfl) ?_
                dsimp only [put, List.set, ev, nth, List.nil_append, List.cons_append, md, Nat.reducePow, Nat.reduceAdd, Nat.reduceMul]
                refine RW.det [] rfl rfl rfl rfl (fun _ => rfl) (fun V hV => Det.rel (det_loadAt Try.isAgg3 rfl fun w hw => hM.cell1 (by omega) (Has.dropN (hflat0 hw) 2))) (fun _ _ _ => rfl) ?_
                dsimp only [put, List.set, ev, nth, List.nil_append, List.cons_append, md, Nat.reducePow, Nat.reduceAdd, Nat.reduceMul]
                refine RW.pure rfl rfl (fun _ => rfl) (fun V hV => det_move) (fun _ _ _ => rfl) ?_
                dsimp only [put, List.set, ev, nth, List.nil_append, List.cons_append, md, Nat.reducePow, Nat.reduceAdd, Nat.reduceMul]
                refine RW.pure rfl rfl (fun _ => rfl) (fun V hV => det_move) (fun _ _ _ => rfl) ?_
                dsimp only [put, List.set, ev, nth, List.nil_append, List.cons_append, md, Nat.reducePow, Nat.reduceAdd, Nat.reduceMul]
                refine RW.pure rfl rfl (fun _ => rfl) (fun V hV => det_idxS0 Try.underlying38 Try.sizeOf42 rfl rfl (rfl) (by omega)) (fun _ _ _ => rfl) ?_
                dsimp only [put, List.set, ev, nth, List.nil_append, List.cons_append, md, Nat.reducePow, Nat.reduceAdd, Nat.reduceMul]
                refine RW.det [] rfl rfl rfl rfl (fun _ => rfl) (fun V hV => Det.rel (det_load 1 Try.isAgg42 rfl rfl (hcw _ (by omega)))) (fun _ _ _ => rfl) ?_
                dsimp only [put, List.set, ev, nth, List.nil_append, List.cons_append, md, Nat.reducePow, Nat.reduceAdd, Nat.reduceMul]
                refine RW.pure rfl rfl (fun _ => rfl) (fun V hV => det_nilCheck rfl) (fun _ _ _ => rfl) ?_
                dsimp only [put, List.set, ev, nth, List.nil_append, List.cons_append, md, Nat.reducePow, Nat.reduceAdd, Nat.reduceMul]
                refine RW.pure rfl rfl (fun _ => rfl) (fun V hV => det_fieldAddr 0 Try.underlying45 rfl Try.sizeOf43 rfl) (fun _ _ _ => rfl) ?_
                dsimp only [put, List.set, ev, nth, List.nil_append, List.cons_append, md, Nat.reducePow, Nat.reduceAdd, Nat.reduceMul]
                refine RW.det [] rfl rfl rfl rfl (fun _ => rfl) (fun V hV => Det.rel (det_loadAt Try.isAgg43 rfl fun w hw => hM.cell0 (by omega) (Has.dropN (hflat0 hw) 2))) (fun _ _ _ => rfl) ?_
                dsimp only [put, List.set, ev, nth, List.nil_append, List.cons_append, md, Nat.reducePow, Nat.reduceAdd, Nat.reduceMul]
                refine RW.pure rfl rfl (fun _ => rfl) (fun V hV => det_lenL Try.underlying43 rfl (hM.slice (show k < 3 by omega))) (fun _ _ _ => rfl) ?_
                dsimp only [put, List.set, ev, nth, List.nil_append, List.cons_append, md, Nat.reducePow, Nat.reduceAdd, Nat.reduceMul]
                refine RW.pure rfl rfl (fun _ => rfl) (fun V hV => det_subi rfl rfl (hX k (by omega)) (by have := hR k (by omega); omega)) (fun _ _ _ => rfl) ?_
                dsimp only [put, List.set, ev, nth, List.nil_append, List.cons_append, md, Nat.reducePow, Nat.reduceAdd, Nat.reduceMul]
                refine RW.pure rfl rfl (fun _ => rfl) (fun V hV => Det.bv false (det_neq rfl rfl) (by simp [dr])) (fun _ _ _ => rfl) ?_
                dsimp only [put, List.set, ev, nth, List.nil_append, List.cons_append, md, Nat.reducePow, Nat.reduceAdd, Nat.reduceMul]
                refine RW.pure rfl rfl (fun _ => rfl) (fun V hV => det_pick_false rfl) (fun _ _ _ => rfl) ?_
                dsimp only [put, List.set, ev, nth, List.nil_append, List.cons_append, md, Nat.reducePow, Nat.reduceAdd, Nat.reduceMul]
                refine RW.pure rfl rfl (fun _ => rfl) (fun V hV => det_move) (fun _ _ _ => rfl) ?_
                dsimp only [put, List.set, ev, nth, List.nil_append, List.cons_append, md, Nat.reducePow, Nat.reduceAdd, Nat.reduceMul]
                refine RW.pure rfl rfl (fun _ => rfl) (fun V hV => det_move) (fun _ _ _ => rfl) ?_
                dsimp only [put, List.set, ev, nth, List.nil_append, List.cons_append, md, Nat.reducePow, Nat.reduceAdd, Nat.reduceMul]
                refine RW.tailG' (R0 := fun _ v m' => ∃ m1, (∃ e M', m1 = e :: M' ∧ RowV 3 (dr X k k).length (fun i => .int .i64 ((dr X k k).getD i 0)) v e ∧ BMl 3 K (up (dr X k) k []) X lv M') ∧ m' = (some rb, .cells cl 39 (0, 0)) :: (some rb2, .cells cw 42 (0, 0)) :: (m1 ++ m0)) (B := fun V => _ ++ flat [] V) rfl rfl (fun _ => rfl) rfl (fun _ => rfl) (fun V hV => by
                      simp only [flat_nil, List.append_nil]
                      exact Chg_callT [_, _] _ _ rfl Try.call22 rfl (fun w mm hw => drainB hM (by omega) (by rw [dr_at]; omega) w mm hw)) (fun _ _ _ _ _ h => h) (fun V hV v m' h => by obtain ⟨_, ⟨e, M', rfl, _, hM'⟩, rfl⟩ := h; exact .cons_cons _ (.cons_cons _ ((hM'.subW.trans (List.sublist_cons_self _ _)).trans (List.sublist_append_left _ _)))) ?_
                dsimp only [put, List.set, ev, nth, List.nil_append, List.cons_append, md, Nat.reducePow, Nat.reduceAdd, Nat.reduceMul]
                refine RW.pure rfl rfl (fun _ => rfl) (fun V hV => det_move) (fun _ _ _ => rfl) ?_
                dsimp only [put, List.set, ev, nth, List.nil_append, List.cons_append, md, Nat.reducePow, Nat.reduceAdd, Nat.reduceMul]
                refine RW.pure rfl rfl (fun _ => rfl) (fun V hV => det_move) (fun _ _ _ => rfl) ?_
                dsimp only [put, List.set, ev, nth, List.nil_append, List.cons_append, md, Nat.reducePow, Nat.reduceAdd, Nat.reduceMul]
                refine RW.pure rfl rfl (fun _ => rfl) (fun V hV => det_idxS0 Try.underlying38 Try.sizeOf42 rfl rfl (rfl) (by omega)) (fun _ _ _ => rfl) ?_
                dsimp only [put, List.set, ev, nth, List.nil_append, List.cons_append, md, Nat.reducePow, Nat.reduceAdd, Nat.reduceMul]
                refine RW.pure rfl rfl (fun _ => rfl) (fun V hV => det_load 1 Try.isAgg42 rfl rfl (hcw _ (by omega))) (fun _ _ _ => rfl) ?_
                dsimp only [put, List.set, ev, nth, List.nil_append, List.cons_append, md, Nat.reducePow, Nat.reduceAdd, Nat.reduceMul]
                refine RW.pure rfl rfl (fun _ => rfl) (fun V hV => det_nilCheck rfl) (fun _ _ _ => rfl) ?_
                dsimp only [put, List.set, ev, nth, List.nil_append, List.cons_append, md, Nat.reducePow, Nat.reduceAdd, Nat.reduceMul]
                refine RW.pure rfl rfl (fun _ => rfl) (fun V hV => det_fieldAddr 0 Try.underlying45 rfl Try.sizeOf43 rfl) (fun _ _ _ => rfl) ?_
                dsimp only [put, List.set, ev, nth, List.nil_append, List.cons_append, md, Nat.reducePow, Nat.reduceAdd, Nat.reduceMul]
                refine RW.pure rfl rfl (fun _ => rfl) (fun V hV => det_loadAt Try.isAgg43 rfl fun w hw => Ws.cell0 (by omega) (Has.dropN hw 2)) (fun _ _ _ => rfl) ?_
                dsimp only [put, List.set, ev, nth, List.nil_append, List.cons_append, md, Nat.reducePow, Nat.reduceAdd, Nat.reduceMul]
                refine RW.late (fun V => (V 34).2) rfl rfl rfl rfl rfl (fun _ => rfl) (fun _ => rfl) (fun V hV => Rel_call rfl Try.call21 (fun w hw => by obtain ⟨_, ⟨e, M', rfl, hr, hM'⟩, ht⟩ := hV 34 (by decide) _ rfl; rw [ht] at hw; rw [dr_at] at hr; exact ints_same (X k) _ _ (by omega) w (RowV.z hw 2 rfl hr) ((hM'.facts (show k < 3 by omega) (Has.dropN hw 3)).2.2.2))) (fun _ _ _ => rfl) ?_
                dsimp only [put, List.set, ev, nth, List.nil_append, List.cons_append, md, Nat.reducePow, Nat.reduceAdd, Nat.reduceMul]
                refine RW.pure rfl rfl (fun _ => rfl) (fun V hV => det_not rfl) (fun _ _ _ => rfl) ?_
                dsimp only [put, List.set, ev, nth, List.nil_append, List.cons_append, md, Nat.reducePow, Nat.reduceAdd, Nat.reduceMul]
                refine RW.pure rfl rfl (fun _ => rfl) (fun V hV => det_pick_false rfl) (fun _ _ _ => rfl) ?_
                dsimp only [put, List.set, ev, nth, List.nil_append, List.cons_append, md, Nat.reducePow, Nat.reduceAdd, Nat.reduceMul]
                refine RW.done (fun V => (V 34).2) rfl rfl (fun _ => rfl) (fun V hV => ?_)
                obtain ⟨_, ⟨e34, M34, rfl, hr34, hM34⟩, ht34⟩ := hV 34 _ rfl
                obtain ⟨v34, hv34⟩ : ∃ v, v = (V 34).1 := ⟨_, rfl⟩
                rw [← hv34] at hr34
                simp only [← hv34, ht34, List.append_nil, flat_nil]
                try simp only [flat_nil, List.append_nil]
                try dsimp only [put, blk, flat_nil, List.append_nil, List.append, List.eraseIdx, List.set, ev, nth, List.nil_append, List.cons_append, md, Nat.reducePow, Nat.reduceAdd, Nat.reduceMul]
                clear hV ht34
                refine WC.forget (.cons_cons _ (.cons_cons _ (.cons _ (List.Sublist.refl _)))) ?_
                refine WC_cond_false rfl ?_
                refine WC_skip ?_
                refine WC_region ?_
                refine WL_det rfl (det_addi (q := 1) rfl rfl (by omega)) ?_
                dsimp only [put, List.take, List.drop, List.set, ev, nth, List.nil_append, List.cons_append, md, Nat.reducePow, Nat.reduceAdd, Nat.reduceMul]
                refine WL_det rfl (det_move) ?_
                dsimp only [put, List.take, List.drop, List.set, ev, nth, List.nil_append, List.cons_append, md, Nat.reducePow, Nat.reduceAdd, Nat.reduceMul]
                refine WL_nil ?_
                refine ⟨(k + 1, M34), ?_, ?_, ?_, ?_⟩
                · rfl
                · rfl
                · exact ⟨by dsimp only; omega, by rw [dr_step] at hM34; exact hM34⟩
                · dsimp only; omega
              · have hc6 := of_decide_eq_false hc6
                refine WC_exit ?_
                refine inB_same ?_
                refine WC_seq ?_
                refine WC_region ?_
                refine WL_det rfl (det_assign) ?_
                dsimp only [put, List.take, List.drop, List.set, ev, nth, List.nil_append, List.cons_append, md, Nat.reducePow, Nat.reduceAdd, Nat.reduceMul]
                refine WL_nil ?_
                refine WC_ret ?_
                refine fin_tmp Try.results4 rfl ([]) (List.nil_sublist _) ?_
                exact ⟨rfl, rfl⟩

end Go.Proofs.Ytocmlaloafmfkaa
