/- What the claim of this folder needs of its texts, put together by a program of this claim. Conditions: none. -/
import Derived.WalkKit
import Derived.ProofKit
import Derived.OpenShut
import Derived.ShutString
import Derived.ChangeOld
import Derived.Below
import Derived.Test.YtpmldkhgdpchjaaBCL4
namespace Go.MW
open Go.ChangeShapes Go.WideShapes Go.ChangeAt Go.RowKit

theorem open_unsigned {k : IntKind} {x : Int} (h : (Lit.int k x).wf = true) (hk : k.signed = false) : ∃ m : Nat, x = (m : Int) ∧ m < 2 ^ k.bits := by
  simp [Lit.wf, IntKind.min, IntKind.max, hk] at h
  refine ⟨x.toNat, (Int.toNat_of_nonneg h.1).symm, ?_⟩
  have h2 := h.2
  have h3 : ((2 ^ k.bits : Nat) : Int) = (2 : Int) ^ k.bits := by simp
  omega
theorem PostV.law {w : World} {v : Value} {e : Ending} {w' : World} (h : PostV w v e w') : e = .returned v ∧ Below w.heap.size w w' := by
  obtain ⟨v', mi, he, ⟨rfl, _⟩, hw⟩ := h
  exact ⟨he, hw.below⟩
end Go.MW

namespace Go.MW
open Go.ChangeShapes Go.WideShapes Go.ChangeAt Go.RowKit

theorem open_natsL {H : Type} {enc : TypeId × Value → H} {P : Program} {W : World} {base n fuel : Nat} {sp : Nat → Bool} {held : Bool} {t e : TypeId} {k : IntKind} {cs : List Value} {x : DataW H × List MemPlace} (hk : k.signed = false) (ht : P.underlying t = some (.array n e)) (he : P.underlying e = some (.int k)) (hce : P.cellsOf e = 1) (hct : P.cellsOf t = n)
    (hd : DataW.trod enc P W base sp held fuel t cs = some x) : ∃ f : Nat → Nat, (∀ i, i < n → f i < 2 ^ k.bits) ∧ cs = (arr k n f).toList := by
  obtain ⟨xs, m, _, _, hcl, hl, hel⟩ := DataW.trod_array ht hd
  rw [hct] at hcl
  have key : ∀ i, i < n → ∃ x : Nat, cs[i]? = some (vn k x) ∧ x < 2 ^ k.bits := by
    intro i hi
    have h := hel i hi
    obtain ⟨y, hy⟩ : ∃ y, xs[i]? = some y := ⟨xs[i], by simp [hl, hi]⟩
    rw [hy] at h
    obtain ⟨x, e1, _, w1⟩ := DataW.trod_int he h
    obtain ⟨q, rfl, hq⟩ := open_unsigned w1 hk
    refine ⟨q, ?_, hq⟩
    rw [hce, Nat.mul_one] at e1
    have e2 : (List.drop i cs)[0]? = some (vn k q) := by
      have : ((List.drop i cs).take 1)[0]? = some (vn k q) := by rw [e1]; rfl
      simpa using this
    simpa using e2
  let f : Nat → Nat := fun i => match cs[i]? with | some (.int _ x) => x.toNat | _ => 0
  have hf2 : ∀ i, i < n → cs[i]? = some (vn k (f i)) ∧ f i < 2 ^ k.bits := by
    intro i hi
    obtain ⟨x, h1, h2⟩ := key i hi
    have : f i = x := by show (match cs[i]? with | some (.int _ x) => x.toNat | _ => 0) = x; rw [h1]; simp
    rw [this]; exact ⟨h1, h2⟩
  refine ⟨f, fun i hi => (hf2 i hi).2, ?_⟩
  rw [arr_toList]
  apply List.ext_getElem?
  intro i
  by_cases hi : i < n
  · rw [(hf2 i hi).1]; simp [hi]
  · rw [List.getElem?_eq_none (by omega), List.getElem?_eq_none (by simp; omega)]
theorem open_bytesL {H : Type} {enc : TypeId × Value → H} {P : Program} {W : World} {base n fuel : Nat} {sp : Nat → Bool} {held : Bool} {t e : TypeId} {cs : List Value} {x : DataW H × List MemPlace} (ht : P.underlying t = some (.array n e)) (he : P.underlying e = some (.int .u8)) (hce : P.cellsOf e = 1) (hct : P.cellsOf t = n)
    (hd : DataW.trod enc P W base sp held fuel t cs = some x) : ∃ N, N < 256 ^ n ∧ cs = (arr .u8 n (byt N)).toList := by
  obtain ⟨f, hf, rfl⟩ := open_natsL rfl ht he hce hct hd
  refine ⟨lev f n, lev_lt f n fun i hi => hf i hi, ?_⟩
  rw [arr_congr fun i hi => byt_lev f n (fun i hi => hf i hi) i hi]
theorem open_natsA {H : Type} {enc : TypeId × Value → H} {P : Program} {W : World} {b0 base n : Nat} {sp : Nat → Bool} {held : Bool} {t e : TypeId} {k : IntKind} {v : Value} {d : DataW H} {ps : List MemPlace} (hk : k.signed = false) (ht : P.underlying t = some (.array n e)) (he : P.underlying e = some (.int k)) (hce : P.cellsOf e = 1) (hct : P.cellsOf t = n)
    (hval : Value.okWide P W .any b0 t v) (hd : DataW.Trod enc P W base sp held t v d ps) : ∃ f : Nat → Nat, (∀ i, i < n → f i < 2 ^ k.bits) ∧ v = .agg (arr k n f) := by
  obtain ⟨cs, rfl, hsz, _⟩ : ∃ cs, v = .agg cs ∧ cs.size = P.cellsOf t ∧ Row.okWide P W .any b0 t cs := by
    simpa [Value.okWide, ht] using hval
  obtain ⟨fuel, hf⟩ := hd
  obtain ⟨f, hf, he⟩ := open_natsL hk ht he hce hct hf
  refine ⟨f, hf, ?_⟩
  congr 1
  exact Array.toList_inj.1 he
/-- A struct, laid open: its cells, and each field's reading. -/
theorem open_struct {H : Type} {enc : TypeId × Value → H} {P : Program} {W : World} {b0 base : Nat} {sp : Nat → Bool} {held : Bool} {t : TypeId} {fs : Array Field} {v : Value} {d : DataW H} {ps : List MemPlace} (ht : P.underlying t = some (.struct fs))
    (hval : Value.okWide P W .any b0 t v) (hd : DataW.Trod enc P W base sp held t v d ps) : ∃ (cs : Array Value) (n : Nat), v = .agg cs ∧ cs.size = P.cellsOf t ∧ ∀ (i ft off : Nat), (fs[i]?).map (fun d => (d.type, d.offset)) = some (ft, off) → ∃ x, DataW.trod enc P W base sp held n ft ((cs.toList.drop off).take (P.cellsOf ft)) = some x := by
  obtain ⟨cs, rfl, hsz, _⟩ : ∃ cs, v = .agg cs ∧ cs.size = P.cellsOf t ∧ Row.okWide P W .any b0 t cs := by
    simpa [Value.okWide, ht] using hval
  obtain ⟨fuel, hf⟩ := hd
  obtain ⟨xs, n, _, _, _, hl, hel⟩ := DataW.trod_struct ht hf
  refine ⟨cs, n, rfl, hsz, fun i ft off hi0 => ?_⟩
  obtain ⟨f, hi, hf⟩ : ∃ f, fs[i]? = some f ∧ (f.type, f.offset) = (ft, off) := by
    cases hg : fs[i]? with
    | none => rw [hg] at hi0; cases hi0
    | some f => rw [hg] at hi0; exact ⟨f, rfl, by simpa using hi0⟩
  simp only [Prod.mk.injEq] at hf
  obtain ⟨rfl, rfl⟩ := hf
  have h := hel i f hi
  have hlt : i < fs.size := (Array.getElem?_eq_some_iff.1 hi).1
  exact ⟨xs[i], by rw [show (Value.agg cs).cells = cs from rfl] at h; rw [h]; simp [hl, hlt]⟩
end Go.MW

set_option linter.unusedVariables false
namespace Go.Proofs.Ytpmldkhgdpchjaa
open Go.MW
/-- A key, a nonce and a count, cell by cell. -/
def caseA (K N C : Nat) : Array Value := arr .u8 32 (byt K) ++ arr .u8 12 (byt N) ++ #[vn .u32 C]
theorem key_at (K N C : Nat) : ∀ j, j < 32 → (Value.agg (caseA K N C)).cells[0 + j]? = some (vn .u8 (byt K j)) := by
  intro j hj
  show (caseA K N C)[0 + j]? = _
  unfold caseA
  rw [Nat.zero_add, Array.getElem?_append_left (by simp [arr_size]; omega), Array.getElem?_append_left (by simp [arr_size]; omega), arr_get _ _ _ hj]
theorem nonce_at (K N C : Nat) : ∀ j, j < 12 → (Value.agg (caseA K N C)).cells[32 + j]? = some (vn .u8 (byt N j)) := by
  intro j hj
  show (caseA K N C)[32 + j]? = _
  unfold caseA
  rw [Array.getElem?_append_left (by simp [arr_size]; omega), Array.getElem?_append_right (by simp [arr_size]), arr_size, show 32 + j - 32 = j by omega, arr_get _ _ _ hj]
theorem count_at (K N C : Nat) : (Value.agg (caseA K N C)).cells[44]? = some (vn .u32 C) := by
  show (caseA K N C)[44]? = _
  unfold caseA
  rw [Array.getElem?_append_right (by simp [arr_size])]
  simp [arr_size]
theorem zb0 : blkb 0 0 0 0 = 118 := by decide +kernel
theorem zb1 : blkb 0 0 0 1 = 184 := by decide +kernel
theorem zb2 : blkb 0 0 0 2 = 224 := by decide +kernel
theorem zb3 : blkb 0 0 0 3 = 173 := by decide +kernel

set_option maxRecDepth 100000 in
set_option maxHeartbeats 400000 in
theorem cawake_spec  (w : World) :
    Calls Try.prog 15 [].toArray w (PostV w (.bool true)) := by
  refine calls_of_WC Try.func15 rfl ?_
  simp only [Try.ntmps15, List.length_nil, Nat.reduceSub, List.replicate, List.nil_append]
  refine WC_seq ?_
  refine WC_region ?_
  refine WL_det rfl (det_assign) ?_
  dsimp only [put, List.set, ev, nth, List.nil_append, List.cons_append, md, Nat.reducePow, Nat.reduceAdd, Nat.reduceMul]
  refine WL_nil ?_
  refine WC_seq ?_
  refine WC_region ?_
  refine WL_det (v := .agg (arr .u8 32 (byt 0))) rfl (fun w _ => by kernel_rfl) ?_
  dsimp only [put, List.set, ev, nth, List.nil_append, List.cons_append, md, Nat.reducePow, Nat.reduceAdd, Nat.reduceMul]
  refine WL_det (v := .agg (arr .u8 12 (byt 0))) rfl (fun w _ => by kernel_rfl) ?_
  dsimp only [put, List.set, ev, nth, List.nil_append, List.cons_append, md, Nat.reducePow, Nat.reduceAdd, Nat.reduceMul]
  refine WL_rel rfl (Rel_call rfl Try.call18 (fun w hw => block_spec 0 0 0 (by decide) w)) ?_
  rintro _ _ ⟨rfl, rfl⟩
  dsimp only [put, List.append_nil, List.set, ev, nth, List.nil_append, List.cons_append, md, Nat.reducePow, Nat.reduceAdd, Nat.reduceMul]
  refine WL_rel rfl (rel_alloc z33 rfl) ?_
  rintro _ _ ⟨b0, rfl, rfl⟩
  dsimp only [put, List.set, ev, nth, List.nil_append, List.cons_append, md, Nat.reducePow, Nat.reduceAdd, Nat.reduceMul]
  refine WL_chg rfl (chg_storeWA 0 Try.sizeOf33 rfl rfl rfl) ?_
  rintro _ _ rfl
  dsimp only [put, List.set, ev, nth, List.nil_append, List.cons_append, md, Nat.reducePow, Nat.reduceAdd, Nat.reduceMul]
  refine WL_nil ?_
  refine WC_seq ?_
  refine WC_region ?_
  refine WL_det rfl (det_idxA (j := 0) Try.underlying33 Try.sizeOf5 rfl rfl (rfl) (by omega)) ?_
  dsimp only [put, List.set, ev, nth, List.nil_append, List.cons_append, md, Nat.reducePow, Nat.reduceAdd, Nat.reduceMul]
  refine WL_det rfl (det_loadA 0 Try.isAgg5 rfl rfl (by omega)) ?_
  dsimp only [put, List.set, ev, nth, List.nil_append, List.cons_append, md, Nat.reducePow, Nat.reduceAdd, Nat.reduceMul]
  refine WL_det rfl (Det.bv true (det_eql (q := 118) rfl rfl) (decide_eq_true zb0)) ?_
  dsimp only [put, List.set, ev, nth, List.nil_append, List.cons_append, md, Nat.reducePow, Nat.reduceAdd, Nat.reduceMul]
  refine WL_det rfl (det_move) ?_
  dsimp only [put, List.set, ev, nth, List.nil_append, List.cons_append, md, Nat.reducePow, Nat.reduceAdd, Nat.reduceMul]
  refine WL_detG rfl (det_idxA (j := 1) Try.underlying33 Try.sizeOf5 rfl rfl (rfl) (by omega)) ?_
  dsimp only [put, List.set, ev, nth, List.nil_append, List.cons_append, md, Nat.reducePow, Nat.reduceAdd, Nat.reduceMul]
  refine WL_detG rfl (det_loadA 0 Try.isAgg5 rfl rfl (by omega)) ?_
  dsimp only [put, List.set, ev, nth, List.nil_append, List.cons_append, md, Nat.reducePow, Nat.reduceAdd, Nat.reduceMul]
  refine WL_detG rfl (Det.bv true (det_eql (q := 184) rfl rfl) (decide_eq_true zb1)) ?_
  dsimp only [put, List.set, ev, nth, List.nil_append, List.cons_append, md, Nat.reducePow, Nat.reduceAdd, Nat.reduceMul]
  refine WL_det rfl (det_pick_true rfl) ?_
  dsimp only [put, List.set, ev, nth, List.nil_append, List.cons_append, md, Nat.reducePow, Nat.reduceAdd, Nat.reduceMul]
  refine WL_det rfl (det_move) ?_
  dsimp only [put, List.set, ev, nth, List.nil_append, List.cons_append, md, Nat.reducePow, Nat.reduceAdd, Nat.reduceMul]
  refine WL_detG rfl (det_idxA (j := 2) Try.underlying33 Try.sizeOf5 rfl rfl (rfl) (by omega)) ?_
  dsimp only [put, List.set, ev, nth, List.nil_append, List.cons_append, md, Nat.reducePow, Nat.reduceAdd, Nat.reduceMul]
  refine WL_detG rfl (det_loadA 0 Try.isAgg5 rfl rfl (by omega)) ?_
  dsimp only [put, List.set, ev, nth, List.nil_append, List.cons_append, md, Nat.reducePow, Nat.reduceAdd, Nat.reduceMul]
  refine WL_detG rfl (Det.bv true (det_eql (q := 224) rfl rfl) (decide_eq_true zb2)) ?_
  dsimp only [put, List.set, ev, nth, List.nil_append, List.cons_append, md, Nat.reducePow, Nat.reduceAdd, Nat.reduceMul]
  refine WL_det rfl (det_pick_true rfl) ?_
  dsimp only [put, List.set, ev, nth, List.nil_append, List.cons_append, md, Nat.reducePow, Nat.reduceAdd, Nat.reduceMul]
  refine WL_det rfl (det_move) ?_
  dsimp only [put, List.set, ev, nth, List.nil_append, List.cons_append, md, Nat.reducePow, Nat.reduceAdd, Nat.reduceMul]
  refine WL_detG rfl (det_idxA (j := 3) Try.underlying33 Try.sizeOf5 rfl rfl (rfl) (by omega)) ?_
  dsimp only [put, List.set, ev, nth, List.nil_append, List.cons_append, md, Nat.reducePow, Nat.reduceAdd, Nat.reduceMul]
  refine WL_detG rfl (det_loadA 0 Try.isAgg5 rfl rfl (by omega)) ?_
  dsimp only [put, List.set, ev, nth, List.nil_append, List.cons_append, md, Nat.reducePow, Nat.reduceAdd, Nat.reduceMul]
  refine WL_detG rfl (Det.bv true (det_eql (q := 173) rfl rfl) (decide_eq_true zb3)) ?_
  dsimp only [put, List.set, ev, nth, List.nil_append, List.cons_append, md, Nat.reducePow, Nat.reduceAdd, Nat.reduceMul]
  refine WL_det rfl (det_pick_true rfl) ?_
  dsimp only [put, List.set, ev, nth, List.nil_append, List.cons_append, md, Nat.reducePow, Nat.reduceAdd, Nat.reduceMul]
  refine WL_det rfl (det_assign) ?_
  dsimp only [put, List.set, ev, nth, List.nil_append, List.cons_append, md, Nat.reducePow, Nat.reduceAdd, Nat.reduceMul]
  refine WL_nil ?_
  refine WC_ret ?_
  refine fin_tmp Try.results15 rfl ([]) (List.nil_sublist _) ?_
  exact ⟨rfl, rfl⟩

end Go.Proofs.Ytpmldkhgdpchjaa

set_option linter.unusedVariables false
namespace Go.Proofs.Ytpmldkhgdpchjaa
open Go.MW
set_option maxRecDepth 100000 in
theorem open_case {H : Type} {enc : TypeId × Value → H} {W : World} {b0 base : Nat} {sp : Nat → Bool} {held : Bool} {v : Value} {d : DataW H} {ps : List MemPlace}
    (hval : Value.okWide Try.prog W .any b0 26 v) (hd : DataW.Trod enc Try.prog W base sp held 26 v d ps) : ∃ K N C, K < 256 ^ 32 ∧ N < 256 ^ 12 ∧ C < 4294967296 ∧ v = .agg (caseA K N C) := by
  obtain ⟨cs, n, rfl, hsz, hfl⟩ := open_struct Try.underlying26 hval hd
  obtain ⟨x0, h0⟩ := hfl 0 22 0 rfl
  obtain ⟨x1, h1⟩ := hfl 1 23 32 rfl
  obtain ⟨x2, h2⟩ := hfl 2 24 44 rfl
  have c22 : Try.prog.cellsOf 22 = 32 := by kernel_rfl
  have c23 : Try.prog.cellsOf 23 = 12 := by kernel_rfl
  have c24 : Try.prog.cellsOf 24 = 1 := by kernel_rfl
  have c26 : Try.prog.cellsOf 26 = 45 := by kernel_rfl
  obtain ⟨K, hK, e0⟩ := open_bytesL Try.underlying22 Try.underlying5 (by kernel_rfl) c22 h0
  obtain ⟨N, hN, e1⟩ := open_bytesL Try.underlying23 Try.underlying5 (by kernel_rfl) c23 h1
  obtain ⟨C', e2, _, w2⟩ := DataW.trod_int Try.underlying24 h2
  obtain ⟨C, rfl, hC⟩ := open_unsigned w2 rfl
  refine ⟨K, N, C, hK, hN, hC, ?_⟩
  rw [c22, List.drop_zero] at e0
  rw [c23] at e1
  rw [c24] at e2
  rw [c26] at hsz
  congr 1
  apply Array.toList_inj.1
  have hl : cs.toList.length = 45 := by simpa using hsz
  have e3 : cs.toList = cs.toList.take 32 ++ ((cs.toList.drop 32).take 12 ++ (cs.toList.drop 44).take 1) := by
    rw [List.take_of_length_le (l := cs.toList.drop 44) (by simp [hl])]
    rw [show cs.toList.drop 44 = (cs.toList.drop 32).drop 12 by rw [List.drop_drop], List.take_append_drop, List.take_append_drop]
  rw [e3, e0, e1, e2]
  simp [caseA]
set_option maxRecDepth 100000 in
theorem open_words {H : Type} {enc : TypeId × Value → H} {W : World} {b0 base : Nat} {sp : Nat → Bool} {held : Bool} {v : Value} {d : DataW H} {ps : List MemPlace}
    (hval : Value.okWide Try.prog W .any b0 27 v) (hd : DataW.Trod enc Try.prog W base sp held 27 v d ps) : ∃ g : Nat → Nat, (∀ j, g j < 4294967296) ∧ v = .agg (arr .u32 4 g) := by
  obtain ⟨g, hg, rfl⟩ := open_natsA (n := 4) rfl Try.underlying27 Try.underlying24 (by kernel_rfl) (by kernel_rfl) hval hd
  exact ⟨fun j => g j % 4294967296, fun j => Nat.mod_lt _ (by decide), by rw [arr_congr fun i hi => (Nat.mod_eq_of_lt (hg i hi)).symm]; rfl⟩
theorem row_gd2 {l : List B8} {v : Value} {e : Option Nat × Obj} (a : B8) (h : RowV 5 (l.length + 1) (catV (fun i => vn .u8 (gd l i)) l.length (fun _ => vn .u8 a.1)) v e) : RowN .u8 5 (l ++ [a]).length (gd (l ++ [a])) v e := by
  rw [List.length_append, List.length_singleton]
  refine RowV.congr h fun i hi => ?_
  unfold catV
  split
  · rename_i h1; rw [gd_old l a h1]
  · rw [show i = l.length by omega, gd_new]
theorem row_len {n n' : Nat} {f : Nat → Nat} {v : Value} {e : Option Nat × Obj} (h : RowN .u8 5 n f v e) (hn : n = n') : RowN .u8 5 n' f v e := hn ▸ h
theorem strm_two (K N C : Nat) {v : Value} {e : Option Nat × Obj} (h : RowN .u8 5 (64 + 64) (catV (blkb K N C) 64 (blkb K N (C + 1))) v e) : RowN .u8 5 128 (strm K N C) v e :=
  RowN.congr h fun i hi => by
    unfold catV strm
    by_cases h : i < 64
    · rw [if_pos h, show i / 64 = 0 by omega, Nat.add_zero, show i % 64 = i by omega]
    · rw [if_neg h, show i / 64 = 1 by omega, show i % 64 = i - 64 by omega]
theorem strm_one (K N C : Nat) {v : Value} {e : Option Nat × Obj} (h : RowN .u8 5 64 (blkb K N C) v e) : RowN .u8 5 64 (strm K N C) v e :=
  RowN.congr h fun i hi => by
    unfold strm
    rw [show i / 64 = 0 by omega, Nat.add_zero, show i % 64 = i by omega]

set_option maxRecDepth 100000 in
set_option maxHeartbeats 2000000 in
theorem cblocks_spec (K N C : Nat) (hC : C < 4294967296) (g : Nat → Nat) (hg : ∀ j, g j < 4294967296) (w : World) :
    Calls Try.prog 3 [.agg (caseA K N C), .agg (arr .u32 4 g)].toArray w (PostV w (.bool true)) := by
  refine calls_of_TC Try.func3 rfl ?_
  simp only [Try.ntmps3, List.length_cons, List.length_nil, Nat.reduceAdd, Nat.reduceSub, List.replicate, List.cons_append, List.nil_append]
  refine TC_seq ?_
  refine WC_region ?_
  refine WL_rel rfl (rel_box rfl rfl) ?_
  rintro _ _ ⟨b0, rfl, rfl⟩
  dsimp only [put, List.set, ev, nth, List.nil_append, List.cons_append, md, Nat.reducePow, Nat.reduceAdd, Nat.reduceMul]
  refine WL_rel rfl (rel_box rfl rfl) ?_
  rintro _ _ ⟨b1, rfl, rfl⟩
  dsimp only [put, List.set, ev, nth, List.nil_append, List.cons_append, md, Nat.reducePow, Nat.reduceAdd, Nat.reduceMul]
  refine WL_det rfl (det_assign) ?_
  dsimp only [put, List.set, ev, nth, List.nil_append, List.cons_append, md, Nat.reducePow, Nat.reduceAdd, Nat.reduceMul]
  refine WL_nil ?_
  refine TC_seq ?_
  refine WC_seq ?_
  refine WC_region ?_
  refine WL_rel rfl (Rel_call rfl Try.call15 (fun w hw => cawake_spec w)) ?_
  rintro _ _ ⟨rfl, rfl⟩
  dsimp only [put, List.append_nil, List.set, ev, nth, List.nil_append, List.cons_append, md, Nat.reducePow, Nat.reduceAdd, Nat.reduceMul]
  refine WL_det rfl (det_not rfl) ?_
  dsimp only [put, List.set, ev, nth, List.nil_append, List.cons_append, md, Nat.reducePow, Nat.reduceAdd, Nat.reduceMul]
  refine WL_nil ?_
  refine WC_cond_false rfl ?_
  refine WC_skip ?_
  refine TC_seq ?_
  refine WC_region ?_
  refine WL_det rfl (det_sliceA Try.underlying27 Try.sizeOf24 rfl) ?_
  dsimp only [put, List.set, ev, nth, List.nil_append, List.cons_append, md, Nat.reducePow, Nat.reduceAdd, Nat.reduceMul]
  refine WL_det rfl (det_assign) ?_
  dsimp only [put, List.set, ev, nth, List.nil_append, List.cons_append, md, Nat.reducePow, Nat.reduceAdd, Nat.reduceMul]
  refine WL_nil ?_
  refine TC_seq ?_
  refine WC_region ?_
  refine WL_det rfl (det_idxA (j := 0) Try.underlying27 Try.sizeOf24 rfl rfl (rfl) (by omega)) ?_
  dsimp only [put, List.set, ev, nth, List.nil_append, List.cons_append, md, Nat.reducePow, Nat.reduceAdd, Nat.reduceMul]
  refine WL_det rfl (det_loadA 1 Try.isAgg24 rfl rfl (by omega)) ?_
  dsimp only [put, List.set, ev, nth, List.nil_append, List.cons_append, md, Nat.reducePow, Nat.reduceAdd, Nat.reduceMul]
  refine WL_det rfl (det_idxA (j := 1) Try.underlying27 Try.sizeOf24 rfl rfl (rfl) (by omega)) ?_
  dsimp only [put, List.set, ev, nth, List.nil_append, List.cons_append, md, Nat.reducePow, Nat.reduceAdd, Nat.reduceMul]
  refine WL_det rfl (det_loadA 1 Try.isAgg24 rfl rfl (by omega)) ?_
  dsimp only [put, List.set, ev, nth, List.nil_append, List.cons_append, md, Nat.reducePow, Nat.reduceAdd, Nat.reduceMul]
  refine WL_det rfl (det_idxA (j := 2) Try.underlying27 Try.sizeOf24 rfl rfl (rfl) (by omega)) ?_
  dsimp only [put, List.set, ev, nth, List.nil_append, List.cons_append, md, Nat.reducePow, Nat.reduceAdd, Nat.reduceMul]
  refine WL_det rfl (det_loadA 1 Try.isAgg24 rfl rfl (by omega)) ?_
  dsimp only [put, List.set, ev, nth, List.nil_append, List.cons_append, md, Nat.reducePow, Nat.reduceAdd, Nat.reduceMul]
  refine WL_det rfl (det_idxA (j := 3) Try.underlying27 Try.sizeOf24 rfl rfl (rfl) (by omega)) ?_
  dsimp only [put, List.set, ev, nth, List.nil_append, List.cons_append, md, Nat.reducePow, Nat.reduceAdd, Nat.reduceMul]
  refine WL_det rfl (det_loadA 1 Try.isAgg24 rfl rfl (by omega)) ?_
  dsimp only [put, List.set, ev, nth, List.nil_append, List.cons_append, md, Nat.reducePow, Nat.reduceAdd, Nat.reduceMul]
  refine WL_rel rfl (Rel_call rfl Try.call16 (fun w hw => quarter_spec _ _ _ _ (hg 0) (hg 1) (hg 2) (hg 3) w)) ?_
  rintro _ _ ⟨rfl, rfl⟩
  dsimp only [put, List.append_nil, List.set, ev, nth, List.nil_append, List.cons_append, md, Nat.reducePow, Nat.reduceAdd, Nat.reduceMul]
  refine WL_det rfl (det_move) ?_
  dsimp only [put, List.set, ev, nth, List.nil_append, List.cons_append, md, Nat.reducePow, Nat.reduceAdd, Nat.reduceMul]
  refine WL_det rfl (det_extract rfl rfl) ?_
  dsimp only [put, List.set, ev, nth, List.nil_append, List.cons_append, md, Nat.reducePow, Nat.reduceAdd, Nat.reduceMul]
  refine WL_det rfl (det_extract rfl rfl) ?_
  dsimp only [put, List.set, ev, nth, List.nil_append, List.cons_append, md, Nat.reducePow, Nat.reduceAdd, Nat.reduceMul]
  refine WL_det rfl (det_extract rfl rfl) ?_
  dsimp only [put, List.set, ev, nth, List.nil_append, List.cons_append, md, Nat.reducePow, Nat.reduceAdd, Nat.reduceMul]
  refine WL_det rfl (det_extract rfl rfl) ?_
  dsimp only [put, List.set, ev, nth, List.nil_append, List.cons_append, md, Nat.reducePow, Nat.reduceAdd, Nat.reduceMul]
  refine WL_det rfl (det_assign) ?_
  dsimp only [put, List.set, ev, nth, List.nil_append, List.cons_append, md, Nat.reducePow, Nat.reduceAdd, Nat.reduceMul]
  refine WL_det rfl (det_assign) ?_
  dsimp only [put, List.set, ev, nth, List.nil_append, List.cons_append, md, Nat.reducePow, Nat.reduceAdd, Nat.reduceMul]
  refine WL_det rfl (det_assign) ?_
  dsimp only [put, List.set, ev, nth, List.nil_append, List.cons_append, md, Nat.reducePow, Nat.reduceAdd, Nat.reduceMul]
  refine WL_det rfl (det_assign) ?_
  dsimp only [put, List.set, ev, nth, List.nil_append, List.cons_append, md, Nat.reducePow, Nat.reduceAdd, Nat.reduceMul]
  refine WL_nil ?_
  refine TC_seq ?_
  refine WC_region ?_
  refine WL_det rfl (det_move) ?_
  dsimp only [put, List.set, ev, nth, List.nil_append, List.cons_append, md, Nat.reducePow, Nat.reduceAdd, Nat.reduceMul]
  refine WL_chg rfl (Chg_callW 1 rfl Try.call17 rfl (fun w m0 hw => rquarter_spec g hg 4 b1 4 0 1 2 3 27 (arr .u32 4 g) (Nat.le_refl _) (arr_size _ _ _) (fun i hi => arr_get _ _ _ hi) (by decide) (by decide) (by decide) (by decide) (by decide) (by decide) (by decide) (by decide) (by decide) (by decide) hw)) ?_
  rintro _ _ ⟨_, ⟨rfl, cur2, hsz2, hcur2, rfl⟩, rfl⟩
  dsimp only [put, List.set, ev, nth, List.nil_append, List.cons_append, md, Nat.reducePow, Nat.reduceAdd, Nat.reduceMul]
  refine WL_nil ?_
  refine TC_seq ?_
  refine WC_seq ?_
  refine WC_region ?_
  refine WL_det rfl (det_move) ?_
  dsimp only [put, List.set, ev, nth, List.nil_append, List.cons_append, md, Nat.reducePow, Nat.reduceAdd, Nat.reduceMul]
  refine WL_det rfl (det_move) ?_
  dsimp only [put, List.set, ev, nth, List.nil_append, List.cons_append, md, Nat.reducePow, Nat.reduceAdd, Nat.reduceMul]
  refine WL_det rfl (det_idxS0 (j := 0) Try.underlying29 Try.sizeOf24 rfl rfl (rfl) (by omega)) ?_
  dsimp only [put, List.set, ev, nth, List.nil_append, List.cons_append, md, Nat.reducePow, Nat.reduceAdd, Nat.reduceMul]
  refine WL_det rfl (det_load 1 Try.isAgg24 rfl rfl (hcur2 _ (by decide))) ?_
  dsimp only [put, List.set, ev, nth, List.nil_append, List.cons_append, md, Nat.reducePow, Nat.reduceAdd, Nat.reduceMul]
  refine WL_det rfl (Det.bv false (det_neq rfl rfl) (by simp [qr, upd])) ?_
  dsimp only [put, List.set, ev, nth, List.nil_append, List.cons_append, md, Nat.reducePow, Nat.reduceAdd, Nat.reduceMul]
  refine WL_det rfl (det_move) ?_
  dsimp only [put, List.set, ev, nth, List.nil_append, List.cons_append, md, Nat.reducePow, Nat.reduceAdd, Nat.reduceMul]
  refine WL_detG rfl (det_move) ?_
  dsimp only [put, List.set, ev, nth, List.nil_append, List.cons_append, md, Nat.reducePow, Nat.reduceAdd, Nat.reduceMul]
  refine WL_detG rfl (det_move) ?_
  dsimp only [put, List.set, ev, nth, List.nil_append, List.cons_append, md, Nat.reducePow, Nat.reduceAdd, Nat.reduceMul]
  refine WL_detG rfl (det_idxS0 (j := 1) Try.underlying29 Try.sizeOf24 rfl rfl (rfl) (by omega)) ?_
  dsimp only [put, List.set, ev, nth, List.nil_append, List.cons_append, md, Nat.reducePow, Nat.reduceAdd, Nat.reduceMul]
  refine WL_detG rfl (det_load 1 Try.isAgg24 rfl rfl (hcur2 _ (by decide))) ?_
  dsimp only [put, List.set, ev, nth, List.nil_append, List.cons_append, md, Nat.reducePow, Nat.reduceAdd, Nat.reduceMul]
  refine WL_detG rfl (Det.bv false (det_neq rfl rfl) (by simp [qr, upd])) ?_
  dsimp only [put, List.set, ev, nth, List.nil_append, List.cons_append, md, Nat.reducePow, Nat.reduceAdd, Nat.reduceMul]
  refine WL_det rfl (det_pick_false rfl) ?_
  dsimp only [put, List.set, ev, nth, List.nil_append, List.cons_append, md, Nat.reducePow, Nat.reduceAdd, Nat.reduceMul]
  refine WL_det rfl (det_move) ?_
  dsimp only [put, List.set, ev, nth, List.nil_append, List.cons_append, md, Nat.reducePow, Nat.reduceAdd, Nat.reduceMul]
  refine WL_detG rfl (det_move) ?_
  dsimp only [put, List.set, ev, nth, List.nil_append, List.cons_append, md, Nat.reducePow, Nat.reduceAdd, Nat.reduceMul]
  refine WL_detG rfl (det_move) ?_
  dsimp only [put, List.set, ev, nth, List.nil_append, List.cons_append, md, Nat.reducePow, Nat.reduceAdd, Nat.reduceMul]
  refine WL_detG rfl (det_idxS0 (j := 2) Try.underlying29 Try.sizeOf24 rfl rfl (rfl) (by omega)) ?_
  dsimp only [put, List.set, ev, nth, List.nil_append, List.cons_append, md, Nat.reducePow, Nat.reduceAdd, Nat.reduceMul]
  refine WL_detG rfl (det_load 1 Try.isAgg24 rfl rfl (hcur2 _ (by decide))) ?_
  dsimp only [put, List.set, ev, nth, List.nil_append, List.cons_append, md, Nat.reducePow, Nat.reduceAdd, Nat.reduceMul]
  refine WL_detG rfl (Det.bv false (det_neq rfl rfl) (by simp [qr, upd])) ?_
  dsimp only [put, List.set, ev, nth, List.nil_append, List.cons_append, md, Nat.reducePow, Nat.reduceAdd, Nat.reduceMul]
  refine WL_det rfl (det_pick_false rfl) ?_
  dsimp only [put, List.set, ev, nth, List.nil_append, List.cons_append, md, Nat.reducePow, Nat.reduceAdd, Nat.reduceMul]
  refine WL_det rfl (det_move) ?_
  dsimp only [put, List.set, ev, nth, List.nil_append, List.cons_append, md, Nat.reducePow, Nat.reduceAdd, Nat.reduceMul]
  refine WL_detG rfl (det_move) ?_
  dsimp only [put, List.set, ev, nth, List.nil_append, List.cons_append, md, Nat.reducePow, Nat.reduceAdd, Nat.reduceMul]
  refine WL_detG rfl (det_move) ?_
  dsimp only [put, List.set, ev, nth, List.nil_append, List.cons_append, md, Nat.reducePow, Nat.reduceAdd, Nat.reduceMul]
  refine WL_detG rfl (det_idxS0 (j := 3) Try.underlying29 Try.sizeOf24 rfl rfl (rfl) (by omega)) ?_
  dsimp only [put, List.set, ev, nth, List.nil_append, List.cons_append, md, Nat.reducePow, Nat.reduceAdd, Nat.reduceMul]
  refine WL_detG rfl (det_load 1 Try.isAgg24 rfl rfl (hcur2 _ (by decide))) ?_
  dsimp only [put, List.set, ev, nth, List.nil_append, List.cons_append, md, Nat.reducePow, Nat.reduceAdd, Nat.reduceMul]
  refine WL_detG rfl (Det.bv false (det_neq rfl rfl) (by simp [qr, upd])) ?_
  dsimp only [put, List.set, ev, nth, List.nil_append, List.cons_append, md, Nat.reducePow, Nat.reduceAdd, Nat.reduceMul]
  refine WL_det rfl (det_pick_false rfl) ?_
  dsimp only [put, List.set, ev, nth, List.nil_append, List.cons_append, md, Nat.reducePow, Nat.reduceAdd, Nat.reduceMul]
  refine WL_nil ?_
  refine WC_cond_false rfl ?_
  refine WC_skip ?_
  refine TC_seq ?_
  refine WC_region ?_
  refine WL_det rfl (det_fieldAddr 0 Try.underlying26 rfl Try.sizeOf22 rfl) ?_
  dsimp only [put, List.set, ev, nth, List.nil_append, List.cons_append, md, Nat.reducePow, Nat.reduceAdd, Nat.reduceMul]
  refine WL_det rfl (det_loadMid 0 Try.underlying22 i22 rfl rfl (key_at K N C)) ?_
  dsimp only [put, List.set, ev, nth, List.nil_append, List.cons_append, md, Nat.reducePow, Nat.reduceAdd, Nat.reduceMul]
  refine WL_det rfl (det_fieldAddr 32 Try.underlying26 rfl Try.sizeOf23 rfl) ?_
  dsimp only [put, List.set, ev, nth, List.nil_append, List.cons_append, md, Nat.reducePow, Nat.reduceAdd, Nat.reduceMul]
  refine WL_det rfl (det_loadMid 0 Try.underlying23 i23 rfl rfl (nonce_at K N C)) ?_
  dsimp only [put, List.set, ev, nth, List.nil_append, List.cons_append, md, Nat.reducePow, Nat.reduceAdd, Nat.reduceMul]
  refine WL_det rfl (det_fieldAddr 44 Try.underlying26 rfl Try.sizeOf24 rfl) ?_
  dsimp only [put, List.set, ev, nth, List.nil_append, List.cons_append, md, Nat.reducePow, Nat.reduceAdd, Nat.reduceMul]
  refine WL_det rfl (det_load 0 Try.isAgg24 rfl rfl (count_at K N C)) ?_
  dsimp only [put, List.set, ev, nth, List.nil_append, List.cons_append, md, Nat.reducePow, Nat.reduceAdd, Nat.reduceMul]
  refine WL_rel rfl (Rel_call rfl Try.call18 (fun w hw => block_spec K N C hC w)) ?_
  rintro _ _ ⟨rfl, rfl⟩
  dsimp only [put, List.append_nil, List.set, ev, nth, List.nil_append, List.cons_append, md, Nat.reducePow, Nat.reduceAdd, Nat.reduceMul]
  refine WL_rel rfl (rel_alloc z33 rfl) ?_
  rintro _ _ ⟨b2, rfl, rfl⟩
  dsimp only [put, List.set, ev, nth, List.nil_append, List.cons_append, md, Nat.reducePow, Nat.reduceAdd, Nat.reduceMul]
  refine WL_chg rfl (chg_storeWA 2 Try.sizeOf33 rfl rfl rfl) ?_
  rintro _ _ rfl
  dsimp only [put, List.set, ev, nth, List.nil_append, List.cons_append, md, Nat.reducePow, Nat.reduceAdd, Nat.reduceMul]
  refine WL_nil ?_
  refine TC_seq ?_
  refine WC_region ?_
  refine WL_det rfl (det_fieldAddr 0 Try.underlying26 rfl Try.sizeOf22 rfl) ?_
  dsimp only [put, List.set, ev, nth, List.nil_append, List.cons_append, md, Nat.reducePow, Nat.reduceAdd, Nat.reduceMul]
  refine WL_det rfl (det_loadMid 0 Try.underlying22 i22 rfl rfl (key_at K N C)) ?_
  dsimp only [put, List.set, ev, nth, List.nil_append, List.cons_append, md, Nat.reducePow, Nat.reduceAdd, Nat.reduceMul]
  refine WL_det rfl (det_fieldAddr 32 Try.underlying26 rfl Try.sizeOf23 rfl) ?_
  dsimp only [put, List.set, ev, nth, List.nil_append, List.cons_append, md, Nat.reducePow, Nat.reduceAdd, Nat.reduceMul]
  refine WL_det rfl (det_loadMid 0 Try.underlying23 i23 rfl rfl (nonce_at K N C)) ?_
  dsimp only [put, List.set, ev, nth, List.nil_append, List.cons_append, md, Nat.reducePow, Nat.reduceAdd, Nat.reduceMul]
  refine WL_det rfl (det_fieldAddr 44 Try.underlying26 rfl Try.sizeOf24 rfl) ?_
  dsimp only [put, List.set, ev, nth, List.nil_append, List.cons_append, md, Nat.reducePow, Nat.reduceAdd, Nat.reduceMul]
  refine WL_det rfl (det_load 0 Try.isAgg24 rfl rfl (count_at K N C)) ?_
  dsimp only [put, List.set, ev, nth, List.nil_append, List.cons_append, md, Nat.reducePow, Nat.reduceAdd, Nat.reduceMul]
  refine WL_rel rfl (Rel_call rfl Try.call19 (fun w hw => rblock_spec K N C hC w)) ?_
  rintro v72 _ ⟨e72, hr72, rfl⟩
  dsimp only [put, List.append_nil, List.set, ev, nth, List.nil_append, List.cons_append, md, Nat.reducePow, Nat.reduceAdd, Nat.reduceMul]
  refine WL_det rfl (det_assign) ?_
  dsimp only [put, List.set, ev, nth, List.nil_append, List.cons_append, md, Nat.reducePow, Nat.reduceAdd, Nat.reduceMul]
  refine WL_nil ?_
  refine TC_seq ?_
  refine WC_seq ?_
  refine WC_region ?_
  refine WL_det rfl (det_sliceA Try.underlying33 Try.sizeOf5 rfl) ?_
  dsimp only [put, List.set, ev, nth, List.nil_append, List.cons_append, md, Nat.reducePow, Nat.reduceAdd, Nat.reduceMul]
  refine WL_det rfl (det_move) ?_
  dsimp only [put, List.set, ev, nth, List.nil_append, List.cons_append, md, Nat.reducePow, Nat.reduceAdd, Nat.reduceMul]
  refine WL_rel rfl (Rel_call rfl Try.call20 (fun w hw => same_true 64 (blkb K N C) (blkb K N C) (fun _ _ => rfl) (by decide) _ _ w (Rd.arr hw 2 rfl (Nat.le_refl _)) (Rd.row hw 3 rfl hr72))) ?_
  rintro _ _ ⟨rfl, rfl⟩
  dsimp only [put, List.append_nil, List.set, ev, nth, List.nil_append, List.cons_append, md, Nat.reducePow, Nat.reduceAdd, Nat.reduceMul]
  refine WL_det rfl (det_not rfl) ?_
  dsimp only [put, List.set, ev, nth, List.nil_append, List.cons_append, md, Nat.reducePow, Nat.reduceAdd, Nat.reduceMul]
  refine WL_nil ?_
  refine WC_cond_false rfl ?_
  refine WC_skip ?_
  refine TC_seq ?_
  refine WC_seq ?_
  refine WC_region ?_
  refine WL_det rfl (det_fieldAddr 44 Try.underlying26 rfl Try.sizeOf24 rfl) ?_
  dsimp only [put, List.set, ev, nth, List.nil_append, List.cons_append, md, Nat.reducePow, Nat.reduceAdd, Nat.reduceMul]
  refine WL_det rfl (det_load 0 Try.isAgg24 rfl rfl (count_at K N C)) ?_
  dsimp only [put, List.set, ev, nth, List.nil_append, List.cons_append, md, Nat.reducePow, Nat.reduceAdd, Nat.reduceMul]
  refine WL_det rfl (det_lss (q := 4294967295) rfl rfl) ?_
  dsimp only [put, List.set, ev, nth, List.nil_append, List.cons_append, md, Nat.reducePow, Nat.reduceAdd, Nat.reduceMul]
  refine WL_nil ?_
  refine WC_cond rfl (fun hc3 => ?_) (fun hc3 => ?_)
  · have hc3 := of_decide_eq_true hc3
    refine WC_region ?_
    refine WL_det rfl (det_move) ?_
    dsimp only [put, List.set, ev, nth, List.nil_append, List.cons_append, md, Nat.reducePow, Nat.reduceAdd, Nat.reduceMul]
    refine WL_det rfl (det_fieldAddr 0 Try.underlying26 rfl Try.sizeOf22 rfl) ?_
    dsimp only [put, List.set, ev, nth, List.nil_append, List.cons_append, md, Nat.reducePow, Nat.reduceAdd, Nat.reduceMul]
    refine WL_det rfl (det_loadMid 0 Try.underlying22 i22 rfl rfl (key_at K N C)) ?_
    dsimp only [put, List.set, ev, nth, List.nil_append, List.cons_append, md, Nat.reducePow, Nat.reduceAdd, Nat.reduceMul]
    refine WL_det rfl (det_fieldAddr 32 Try.underlying26 rfl Try.sizeOf23 rfl) ?_
    dsimp only [put, List.set, ev, nth, List.nil_append, List.cons_append, md, Nat.reducePow, Nat.reduceAdd, Nat.reduceMul]
    refine WL_det rfl (det_loadMid 0 Try.underlying23 i23 rfl rfl (nonce_at K N C)) ?_
    dsimp only [put, List.set, ev, nth, List.nil_append, List.cons_append, md, Nat.reducePow, Nat.reduceAdd, Nat.reduceMul]
    refine WL_det rfl (det_fieldAddr 44 Try.underlying26 rfl Try.sizeOf24 rfl) ?_
    dsimp only [put, List.set, ev, nth, List.nil_append, List.cons_append, md, Nat.reducePow, Nat.reduceAdd, Nat.reduceMul]
    refine WL_det rfl (det_load 0 Try.isAgg24 rfl rfl (count_at K N C)) ?_
    dsimp only [put, List.set, ev, nth, List.nil_append, List.cons_append, md, Nat.reducePow, Nat.reduceAdd, Nat.reduceMul]
    refine WL_det rfl (det_add' (q := 1) rfl rfl rfl (by simp only [md]; omega)) ?_
    dsimp only [put, List.set, ev, nth, List.nil_append, List.cons_append, md, Nat.reducePow, Nat.reduceAdd, Nat.reduceMul]
    refine WL_rel rfl (Rel_call rfl Try.call19 (fun w hw => rblock_spec K N (C + 1) (by omega) w)) ?_
    rintro v88 _ ⟨e88, hr88, rfl⟩
    dsimp only [put, List.append_nil, List.set, ev, nth, List.nil_append, List.cons_append, md, Nat.reducePow, Nat.reduceAdd, Nat.reduceMul]
    refine WL_chg rfl (chg_appendRd 3 rfl (hr72) rfl rfl (fun w hw => Rd.row hw 4 rfl hr88) Try.underlying35 ei5 rfl (by decide) (by decide)) ?_
    rintro vw _ ⟨ew, hrw, rfl⟩
    dsimp only [put, List.eraseIdx, List.set, ev, nth, List.nil_append, List.cons_append, md, Nat.reducePow, Nat.reduceAdd, Nat.reduceMul]
    have hrw := strm_two K N C hrw
    refine WL_det rfl (det_assign) ?_
    dsimp only [put, List.set, ev, nth, List.nil_append, List.cons_append, md, Nat.reducePow, Nat.reduceAdd, Nat.reduceMul]
    refine WL_nil ?_
    refine TC.forget (.cons_cons _ (.cons_cons _ (.cons_cons _ (.cons_cons _ (.cons _ .slnil))))) ?_
    obtain ⟨M, hMe⟩ : ∃ M, M = 128 := ⟨_, rfl⟩
    rw [← hMe] at hrw
    have hM : (M = 128 ∧ C < 4294967295) ∨ (M = 64 ∧ C = 4294967295) := .inl ⟨hMe, hc3⟩
    obtain ⟨pw, cw, rfl, hcw⟩ := hrw.slice
    refine TC_seq ?_
    refine WC_region ?_
    refine WL_rel rfl (rel_alloc Try.zeroValue35 rfl) ?_
    rintro _ _ ⟨b4, rfl, rfl⟩
    dsimp only [put, List.set, ev, nth, List.nil_append, List.cons_append, md, Nat.reducePow, Nat.reduceAdd, Nat.reduceMul]
    refine WL_nil ?_
    refine TC_seqB ?_
    refine WC_region ?_
    refine WL.addNone (.cells #[] 5 (0, 0)) ?_
    dsimp only [List.cons_append, List.nil_append]
    refine WL_det rfl (det_fieldAddr 0 Try.underlying26 rfl Try.sizeOf22 rfl) ?_
    dsimp only [put, List.set, ev, nth, List.nil_append, List.cons_append, md, Nat.reducePow, Nat.reduceAdd, Nat.reduceMul]
    refine WL_det rfl (det_loadMid 0 Try.underlying22 i22 rfl rfl (key_at K N C)) ?_
    dsimp only [put, List.set, ev, nth, List.nil_append, List.cons_append, md, Nat.reducePow, Nat.reduceAdd, Nat.reduceMul]
    refine WL_det rfl (det_fieldAddr 32 Try.underlying26 rfl Try.sizeOf23 rfl) ?_
    dsimp only [put, List.set, ev, nth, List.nil_append, List.cons_append, md, Nat.reducePow, Nat.reduceAdd, Nat.reduceMul]
    refine WL_det rfl (det_loadMid 0 Try.underlying23 i23 rfl rfl (nonce_at K N C)) ?_
    dsimp only [put, List.set, ev, nth, List.nil_append, List.cons_append, md, Nat.reducePow, Nat.reduceAdd, Nat.reduceMul]
    refine WL_det rfl (det_fieldAddr 44 Try.underlying26 rfl Try.sizeOf24 rfl) ?_
    dsimp only [put, List.set, ev, nth, List.nil_append, List.cons_append, md, Nat.reducePow, Nat.reduceAdd, Nat.reduceMul]
    refine WL_det rfl (det_load 0 Try.isAgg24 rfl rfl (count_at K N C)) ?_
    dsimp only [put, List.set, ev, nth, List.nil_append, List.cons_append, md, Nat.reducePow, Nat.reduceAdd, Nat.reduceMul]
    refine WL_rel rfl (Rel_call rfl Try.call21 (fun w hw => stream_spec K N C w)) ?_
    rintro _ _ ⟨c0, c1q, c2, rfl, rfl⟩
    dsimp only [put, List.append_nil, List.set, ev, nth, List.nil_append, List.cons_append, md, Nat.reducePow, Nat.reduceAdd, Nat.reduceMul]
    refine WL_nil ?_
    refine TC_range1 (α := B8) (ι := Value × (Option Nat × Obj)) (ve := fun x : B8 => vn .u8 x.1) (S := fun xs => xs = upTo K N C (64 * (4294967296 - C))) (Sp := fun pre => ∃ k, k ≤ 64 * (4294967296 - C) ∧ pre = upTo K N C k) (N := 64 * (4294967296 - C)) (t := 97) (d := 13) [c0, c1q, c2] rfl Try.call67 (fun w hw => stream_seq K N C hC c0 c1q c2 w (hw.at 6 rfl) (hw.at 7 rfl) (hw.at 8 rfl)) (fun pre x => pre.length < 100 ∧ RowN .u8 5 pre.length (gd pre) x.1 x.2) (fun xs x => xs.length = 100 ∧ RowN .u8 5 100 (gd xs) x.1 x.2) (fun x => [(some b0, .cells (Value.agg (caseA K N C)).cells 26 (0, 0)), (some b1, .cells cur2 27 (0, 0)), (some b2, .cells (arr .u8 64 (blkb K N C)) 33 (0, 0)), ew, (some b4, .cells #[x.1] 35 (0, 0)), x.2, (some c0, .cells (arr .u8 32 (byt K)) 22 (0, 0)), (some c1q, .cells (arr .u8 12 (byt N)) 23 (0, 0)), (some c2, .cells #[vn .u32 C] 24 (0, 0))]) (.slice none 0 0, (none, .cells #[] 5 (0, 0))) rfl (⟨by decide, RowV.nil _ _ _⟩) (fun pre x h b o hb => by
      have hr : ∃ k g, RowV 5 k g x.1 x.2 := by
        rcases h with ⟨_, h⟩ | ⟨_, h⟩
        · exact ⟨_, _, h⟩
        · exact ⟨_, _, h⟩
      obtain ⟨_, _, hr⟩ := hr
      simp only [List.mem_cons, List.not_mem_nil, or_false] at hb
      rcases hb with hb | hb | hb | hb | hb | hb | hb | hb | hb <;> first | exact hr.cells hb | exact hrw.cells hb | (cases hb; rfl)) (fun b hb => by
      simp only [List.mem_cons, List.not_mem_nil, or_false] at hb
      rcases hb with rfl | rfl | rfl
      · exact ⟨.cells (arr .u8 32 (byt K)) 22 (0, 0), fun x => by simp⟩
      · exact ⟨.cells (arr .u8 12 (byt N)) 23 (0, 0), fun x => by simp⟩
      · exact ⟨.cells #[vn .u32 C] 24 (0, 0), fun x => by simp⟩) (fun pre a x x' h1 h2 => by
      have hk : ∃ b, x'.2.1 = some b := by
        rcases h2 with ⟨_, h⟩ | ⟨_, h⟩
        · exact h.key (by simp)
        · exact h.key (by omega)
      obtain ⟨b, hb⟩ := hk
      obtain ⟨v, k, o⟩ := x
      obtain ⟨v', k', o'⟩ := x'
      obtain ⟨kw, ow⟩ := ew
      dsimp only at hb
      subst hb
      cases k <;> cases kw <;> simp [keysOf]) (by simp) ?_ ?_ ?_
    · rintro l pre a ⟨v, e⟩ mt ⟨hk, hr⟩ hltN
      dsimp only at hk hr
      dsimp only [List.set, List.cons_append, List.nil_append]
      refine RC_block ?_
      refine RC_seq ?_
      refine RC_region ?_
      refine RL_det rfl (fun _ h => by cases h) (det_load 4 Try.isAgg35 rfl rfl rfl) ?_
      dsimp only [put, List.take, List.drop, List.set, ev, nth, List.nil_append, List.cons_append, md, Nat.reducePow, Nat.reduceAdd, Nat.reduceMul]
      refine RL_det rfl (fun _ h => by cases h) (det_move) ?_
      dsimp only [put, List.take, List.drop, List.set, ev, nth, List.nil_append, List.cons_append, md, Nat.reducePow, Nat.reduceAdd, Nat.reduceMul]
      refine RL_relAt 9 rfl (fun _ h => by cases h) (rel_lit1 Try.underlying35 Try.zeroValue5 Try.sizeOf5 rfl rfl) ?_
      rintro _ _ ⟨bl, rfl, rfl⟩
      dsimp only [put, List.take, List.drop, List.set, ev, nth, List.nil_append, List.cons_append, md, Nat.reducePow, Nat.reduceAdd, Nat.reduceMul]
      refine RL_chg rfl (fun _ h => by cases h) (chg_append1 5 9 rfl (hr) rfl rfl rfl rfl Try.underlying35 ei5 rfl (by omega) (by decide)) ?_
      rintro v101 _ ⟨e101, hr101, rfl⟩
      dsimp only [put, List.eraseIdx, List.set, ev, nth, List.nil_append, List.cons_append, md, Nat.reducePow, Nat.reduceAdd, Nat.reduceMul]
      have hr101 := row_gd2 a hr101
      obtain ⟨p101, c101, rfl, _⟩ := hr101.slice
      refine RL_chg rfl (fun _ h => by cases h) (chg_storeBox 4 Try.sizeOf35 rfl rfl rfl (rfl)) ?_
      rintro _ _ rfl
      dsimp only [put, List.take, List.drop, List.set, ev, nth, List.nil_append, List.cons_append, md, Nat.reducePow, Nat.reduceAdd, Nat.reduceMul]
      refine RL_nil ?_
      refine RC_seq ?_
      refine RC_region ?_
      refine RL_det rfl (fun _ h => by cases h) (det_load 4 Try.isAgg35 rfl rfl rfl) ?_
      dsimp only [put, List.take, List.drop, List.set, ev, nth, List.nil_append, List.cons_append, md, Nat.reducePow, Nat.reduceAdd, Nat.reduceMul]
      refine RL_det rfl (fun _ h => by cases h) (det_len Try.underlying35 rfl) ?_
      dsimp only [put, List.take, List.drop, List.set, ev, nth, List.nil_append, List.cons_append, md, Nat.reducePow, Nat.reduceAdd, Nat.reduceMul]
      refine RL_det rfl (fun _ h => by cases h) (det_eql (q := 100) rfl rfl) ?_
      dsimp only [put, List.take, List.drop, List.set, ev, nth, List.nil_append, List.cons_append, md, Nat.reducePow, Nat.reduceAdd, Nat.reduceMul]
      refine RL_nil ?_
      refine RC_cond rfl (fun hcz => ?_) (fun hcz => ?_)
      · have hcz := of_decide_eq_true hcz
        refine RC_exit ?_
        refine inB_other (by decide) ?_
        exact ⟨rfl, (_, e101), ⟨hcz, row_len hr101 hcz⟩, List.Sublist.refl _⟩
      · have hcz := of_decide_eq_false hcz
        refine RC_skip ?_
        exact ⟨(_, e101), ⟨by rw [List.length_append, List.length_singleton] at hcz ⊢; omega, hr101⟩, List.Sublist.refl _⟩
    · rintro D xs ⟨v, e⟩ rfl ⟨hk, hr⟩
      dsimp only at hk hr
      rw [upTo_len] at hk hr
      have hr : RowN .u8 5 (min M 100) (strm K N C) v e := by
        rw [show min M 100 = 64 * (4294967296 - C) by omega]
        exact RowN.congr hr fun i hi => gd_upTo K N C _ hi
      dsimp only [List.cons_append, List.nil_append]
      refine DC_seq ?_
      refine DC_draw [[], [], [], [2], [2, 3], [1, 2, 3, 4], [0, 1, 2, 3, 4, 5], [0, 1, 2, 3, 4, 5, 6]] [] 112 [] (List.nil_sublist _) mixed rfl (by decide) ?_
      refine RW.det [] rfl rfl rfl rfl (fun _ => rfl) (fun V hV => Det.rel (det_load 4 Try.isAgg35 rfl rfl rfl)) (fun _ _ _ => rfl) ?_
      dsimp only [put, List.set, ev, nth, List.nil_append, List.cons_append, md, Nat.reducePow, Nat.reduceAdd, Nat.reduceMul]
      refine RW.pure rfl rfl (fun _ => rfl) (fun V hV => det_move) (fun _ _ _ => rfl) ?_
      dsimp only [put, List.set, ev, nth, List.nil_append, List.cons_append, md, Nat.reducePow, Nat.reduceAdd, Nat.reduceMul]
      refine RW.pure rfl rfl (fun _ => rfl) (fun V hV => det_move) (fun _ _ _ => rfl) ?_
      dsimp only [put, List.set, ev, nth, List.nil_append, List.cons_append, md, Nat.reducePow, Nat.reduceAdd, Nat.reduceMul]
      refine RW.pure rfl rfl (fun _ => rfl) (fun V hV => det_len Try.underlying35 rfl) (fun _ _ _ => rfl) ?_
      dsimp only [put, List.set, ev, nth, List.nil_append, List.cons_append, md, Nat.reducePow, Nat.reduceAdd, Nat.reduceMul]
      refine RW.pure rfl rfl (fun _ => rfl) (fun V hV => det_min (q := 100) rfl rfl) (fun _ _ _ => rfl) ?_
      dsimp only [put, List.set, ev, nth, List.nil_append, List.cons_append, md, Nat.reducePow, Nat.reduceAdd, Nat.reduceMul]
      refine RW.pure rfl rfl (fun _ => rfl) (fun V hV => det_cutTo Try.underlying35 Try.sizeOf5 rfl rfl (by omega)) (fun _ _ _ => rfl) ?_
      dsimp only [put, List.set, ev, nth, List.nil_append, List.cons_append, md, Nat.reducePow, Nat.reduceAdd, Nat.reduceMul]
      refine RW.det [] rfl rfl rfl rfl (fun _ => rfl) (fun V hV => Rel_call rfl Try.call20 (fun w hw => same_true (min M 100) (strm K N C) (strm K N C) (fun _ _ => rfl) (by simp only [maxLen]; omega) _ _ w (Rd.row hw 5 rfl hr) ((Rd.row hw 3 rfl hrw).take (by omega)))) (fun _ _ _ => rfl) ?_
      dsimp only [put, List.set, ev, nth, List.nil_append, List.cons_append, md, Nat.reducePow, Nat.reduceAdd, Nat.reduceMul]
      refine RW.pure rfl rfl (fun _ => rfl) (fun V hV => det_assign) (fun _ _ _ => rfl) ?_
      dsimp only [put, List.set, ev, nth, List.nil_append, List.cons_append, md, Nat.reducePow, Nat.reduceAdd, Nat.reduceMul]
      refine RW.done (fun V => _ ++ flat [] V) rfl rfl (fun _ => rfl) (fun V hV => ?_)
      try dsimp only [put, blk, flat_nil, List.append_nil, List.append, List.eraseIdx, List.set, ev, nth, List.nil_append, List.cons_append, md, Nat.reducePow, Nat.reduceAdd, Nat.reduceMul]
      refine DC_ret ?_
      refine finD_tmp Try.results3 rfl ([]) (.cons _ (.cons _ (.cons _ (.cons _ (.cons _ (.cons _ (.cons _ (.cons _ (.cons _ (List.Sublist.refl _)))))))))) ?_
      exact ⟨rfl, rfl⟩
    · rintro D xs ⟨v, e⟩ ⟨k, hk, rfl⟩ ⟨hl, hr⟩
      dsimp only at hr
      rw [upTo_len] at hl
      have hr : RowN .u8 5 (min M 100) (strm K N C) v e := by
        rw [show min M 100 = 100 by omega]
        exact RowN.congr hr fun i hi => gd_upTo K N C k (by omega)
      dsimp only [List.cons_append, List.nil_append]
      refine DC_seq ?_
      refine DC_draw [[], [], [], [2], [2, 3], [1, 2, 3, 4], [0, 1, 2, 3, 4, 5], [0, 1, 2, 3, 4, 5, 6]] [] 112 [] (List.nil_sublist _) mixed rfl (by decide) ?_
      refine RW.det [] rfl rfl rfl rfl (fun _ => rfl) (fun V hV => Det.rel (det_load 4 Try.isAgg35 rfl rfl rfl)) (fun _ _ _ => rfl) ?_
      dsimp only [put, List.set, ev, nth, List.nil_append, List.cons_append, md, Nat.reducePow, Nat.reduceAdd, Nat.reduceMul]
      refine RW.pure rfl rfl (fun _ => rfl) (fun V hV => det_move) (fun _ _ _ => rfl) ?_
      dsimp only [put, List.set, ev, nth, List.nil_append, List.cons_append, md, Nat.reducePow, Nat.reduceAdd, Nat.reduceMul]
      refine RW.pure rfl rfl (fun _ => rfl) (fun V hV => det_move) (fun _ _ _ => rfl) ?_
      dsimp only [put, List.set, ev, nth, List.nil_append, List.cons_append, md, Nat.reducePow, Nat.reduceAdd, Nat.reduceMul]
      refine RW.pure rfl rfl (fun _ => rfl) (fun V hV => det_len Try.underlying35 rfl) (fun _ _ _ => rfl) ?_
      dsimp only [put, List.set, ev, nth, List.nil_append, List.cons_append, md, Nat.reducePow, Nat.reduceAdd, Nat.reduceMul]
      refine RW.pure rfl rfl (fun _ => rfl) (fun V hV => det_min (q := 100) rfl rfl) (fun _ _ _ => rfl) ?_
      dsimp only [put, List.set, ev, nth, List.nil_append, List.cons_append, md, Nat.reducePow, Nat.reduceAdd, Nat.reduceMul]
      refine RW.pure rfl rfl (fun _ => rfl) (fun V hV => det_cutTo Try.underlying35 Try.sizeOf5 rfl rfl (by omega)) (fun _ _ _ => rfl) ?_
      dsimp only [put, List.set, ev, nth, List.nil_append, List.cons_append, md, Nat.reducePow, Nat.reduceAdd, Nat.reduceMul]
      refine RW.det [] rfl rfl rfl rfl (fun _ => rfl) (fun V hV => Rel_call rfl Try.call20 (fun w hw => same_true (min M 100) (strm K N C) (strm K N C) (fun _ _ => rfl) (by simp only [maxLen]; omega) _ _ w (Rd.row hw 5 rfl hr) ((Rd.row hw 3 rfl hrw).take (by omega)))) (fun _ _ _ => rfl) ?_
      dsimp only [put, List.set, ev, nth, List.nil_append, List.cons_append, md, Nat.reducePow, Nat.reduceAdd, Nat.reduceMul]
      refine RW.pure rfl rfl (fun _ => rfl) (fun V hV => det_assign) (fun _ _ _ => rfl) ?_
      dsimp only [put, List.set, ev, nth, List.nil_append, List.cons_append, md, Nat.reducePow, Nat.reduceAdd, Nat.reduceMul]
      refine RW.done (fun V => _ ++ flat [] V) rfl rfl (fun _ => rfl) (fun V hV => ?_)
      try dsimp only [put, blk, flat_nil, List.append_nil, List.append, List.eraseIdx, List.set, ev, nth, List.nil_append, List.cons_append, md, Nat.reducePow, Nat.reduceAdd, Nat.reduceMul]
      refine DC_ret ?_
      refine finD_tmp Try.results3 rfl ([]) (.cons _ (.cons _ (.cons _ (.cons _ (.cons _ (.cons _ (.cons _ (.cons _ (.cons _ (List.Sublist.refl _)))))))))) ?_
      exact ⟨rfl, rfl⟩
  · have hc3 := of_decide_eq_false hc3
    have hrw := strm_one K N C hr72
    obtain ⟨ew, rfl⟩ : ∃ e, e = e72 := ⟨_, rfl⟩
    obtain ⟨M, hMe⟩ : ∃ M, M = 64 := ⟨_, rfl⟩
    rw [← hMe] at hrw
    have hM : (M = 128 ∧ C < 4294967295) ∨ (M = 64 ∧ C = 4294967295) := .inr ⟨hMe, by omega⟩
    obtain ⟨pw, cw, rfl, hcw⟩ := hrw.slice
    refine WC_skip ?_
    refine TC_seq ?_
    refine WC_region ?_
    refine WL_rel rfl (rel_alloc Try.zeroValue35 rfl) ?_
    rintro _ _ ⟨b4, rfl, rfl⟩
    dsimp only [put, List.set, ev, nth, List.nil_append, List.cons_append, md, Nat.reducePow, Nat.reduceAdd, Nat.reduceMul]
    refine WL_nil ?_
    refine TC_seqB ?_
    refine WC_region ?_
    refine WL.addNone (.cells #[] 5 (0, 0)) ?_
    dsimp only [List.cons_append, List.nil_append]
    refine WL_det rfl (det_fieldAddr 0 Try.underlying26 rfl Try.sizeOf22 rfl) ?_
    dsimp only [put, List.set, ev, nth, List.nil_append, List.cons_append, md, Nat.reducePow, Nat.reduceAdd, Nat.reduceMul]
    refine WL_det rfl (det_loadMid 0 Try.underlying22 i22 rfl rfl (key_at K N C)) ?_
    dsimp only [put, List.set, ev, nth, List.nil_append, List.cons_append, md, Nat.reducePow, Nat.reduceAdd, Nat.reduceMul]
    refine WL_det rfl (det_fieldAddr 32 Try.underlying26 rfl Try.sizeOf23 rfl) ?_
    dsimp only [put, List.set, ev, nth, List.nil_append, List.cons_append, md, Nat.reducePow, Nat.reduceAdd, Nat.reduceMul]
    refine WL_det rfl (det_loadMid 0 Try.underlying23 i23 rfl rfl (nonce_at K N C)) ?_
    dsimp only [put, List.set, ev, nth, List.nil_append, List.cons_append, md, Nat.reducePow, Nat.reduceAdd, Nat.reduceMul]
    refine WL_det rfl (det_fieldAddr 44 Try.underlying26 rfl Try.sizeOf24 rfl) ?_
    dsimp only [put, List.set, ev, nth, List.nil_append, List.cons_append, md, Nat.reducePow, Nat.reduceAdd, Nat.reduceMul]
    refine WL_det rfl (det_load 0 Try.isAgg24 rfl rfl (count_at K N C)) ?_
    dsimp only [put, List.set, ev, nth, List.nil_append, List.cons_append, md, Nat.reducePow, Nat.reduceAdd, Nat.reduceMul]
    refine WL_rel rfl (Rel_call rfl Try.call21 (fun w hw => stream_spec K N C w)) ?_
    rintro _ _ ⟨c0, c1q, c2, rfl, rfl⟩
    dsimp only [put, List.append_nil, List.set, ev, nth, List.nil_append, List.cons_append, md, Nat.reducePow, Nat.reduceAdd, Nat.reduceMul]
    refine WL_nil ?_
    refine TC_range1 (α := B8) (ι := Value × (Option Nat × Obj)) (ve := fun x : B8 => vn .u8 x.1) (S := fun xs => xs = upTo K N C (64 * (4294967296 - C))) (Sp := fun pre => ∃ k, k ≤ 64 * (4294967296 - C) ∧ pre = upTo K N C k) (N := 64 * (4294967296 - C)) (t := 97) (d := 13) [c0, c1q, c2] rfl Try.call67 (fun w hw => stream_seq K N C hC c0 c1q c2 w (hw.at 6 rfl) (hw.at 7 rfl) (hw.at 8 rfl)) (fun pre x => pre.length < 100 ∧ RowN .u8 5 pre.length (gd pre) x.1 x.2) (fun xs x => xs.length = 100 ∧ RowN .u8 5 100 (gd xs) x.1 x.2) (fun x => [(some b0, .cells (Value.agg (caseA K N C)).cells 26 (0, 0)), (some b1, .cells cur2 27 (0, 0)), (some b2, .cells (arr .u8 64 (blkb K N C)) 33 (0, 0)), ew, (some b4, .cells #[x.1] 35 (0, 0)), x.2, (some c0, .cells (arr .u8 32 (byt K)) 22 (0, 0)), (some c1q, .cells (arr .u8 12 (byt N)) 23 (0, 0)), (some c2, .cells #[vn .u32 C] 24 (0, 0))]) (.slice none 0 0, (none, .cells #[] 5 (0, 0))) rfl (⟨by decide, RowV.nil _ _ _⟩) (fun pre x h b o hb => by
      have hr : ∃ k g, RowV 5 k g x.1 x.2 := by
        rcases h with ⟨_, h⟩ | ⟨_, h⟩
        · exact ⟨_, _, h⟩
        · exact ⟨_, _, h⟩
      obtain ⟨_, _, hr⟩ := hr
      simp only [List.mem_cons, List.not_mem_nil, or_false] at hb
      rcases hb with hb | hb | hb | hb | hb | hb | hb | hb | hb <;> first | exact hr.cells hb | exact hrw.cells hb | (cases hb; rfl)) (fun b hb => by
      simp only [List.mem_cons, List.not_mem_nil, or_false] at hb
      rcases hb with rfl | rfl | rfl
      · exact ⟨.cells (arr .u8 32 (byt K)) 22 (0, 0), fun x => by simp⟩
      · exact ⟨.cells (arr .u8 12 (byt N)) 23 (0, 0), fun x => by simp⟩
      · exact ⟨.cells #[vn .u32 C] 24 (0, 0), fun x => by simp⟩) (fun pre a x x' h1 h2 => by
      have hk : ∃ b, x'.2.1 = some b := by
        rcases h2 with ⟨_, h⟩ | ⟨_, h⟩
        · exact h.key (by simp)
        · exact h.key (by omega)
      obtain ⟨b, hb⟩ := hk
      obtain ⟨v, k, o⟩ := x
      obtain ⟨v', k', o'⟩ := x'
      obtain ⟨kw, ow⟩ := ew
      dsimp only at hb
      subst hb
      cases k <;> cases kw <;> simp [keysOf]) (by simp) ?_ ?_ ?_
    · rintro l pre a ⟨v, e⟩ mt ⟨hk, hr⟩ hltN
      dsimp only at hk hr
      dsimp only [List.set, List.cons_append, List.nil_append]
      refine RC_block ?_
      refine RC_seq ?_
      refine RC_region ?_
      refine RL_det rfl (fun _ h => by cases h) (det_load 4 Try.isAgg35 rfl rfl rfl) ?_
      dsimp only [put, List.take, List.drop, List.set, ev, nth, List.nil_append, List.cons_append, md, Nat.reducePow, Nat.reduceAdd, Nat.reduceMul]
      refine RL_det rfl (fun _ h => by cases h) (det_move) ?_
      dsimp only [put, List.take, List.drop, List.set, ev, nth, List.nil_append, List.cons_append, md, Nat.reducePow, Nat.reduceAdd, Nat.reduceMul]
      refine RL_relAt 9 rfl (fun _ h => by cases h) (rel_lit1 Try.underlying35 Try.zeroValue5 Try.sizeOf5 rfl rfl) ?_
      rintro _ _ ⟨bl, rfl, rfl⟩
      dsimp only [put, List.take, List.drop, List.set, ev, nth, List.nil_append, List.cons_append, md, Nat.reducePow, Nat.reduceAdd, Nat.reduceMul]
      refine RL_chg rfl (fun _ h => by cases h) (chg_append1 5 9 rfl (hr) rfl rfl rfl rfl Try.underlying35 ei5 rfl (by omega) (by decide)) ?_
      rintro v101 _ ⟨e101, hr101, rfl⟩
      dsimp only [put, List.eraseIdx, List.set, ev, nth, List.nil_append, List.cons_append, md, Nat.reducePow, Nat.reduceAdd, Nat.reduceMul]
      have hr101 := row_gd2 a hr101
      obtain ⟨p101, c101, rfl, _⟩ := hr101.slice
      refine RL_chg rfl (fun _ h => by cases h) (chg_storeBox 4 Try.sizeOf35 rfl rfl rfl (rfl)) ?_
      rintro _ _ rfl
      dsimp only [put, List.take, List.drop, List.set, ev, nth, List.nil_append, List.cons_append, md, Nat.reducePow, Nat.reduceAdd, Nat.reduceMul]
      refine RL_nil ?_
      refine RC_seq ?_
      refine RC_region ?_
      refine RL_det rfl (fun _ h => by cases h) (det_load 4 Try.isAgg35 rfl rfl rfl) ?_
      dsimp only [put, List.take, List.drop, List.set, ev, nth, List.nil_append, List.cons_append, md, Nat.reducePow, Nat.reduceAdd, Nat.reduceMul]
      refine RL_det rfl (fun _ h => by cases h) (det_len Try.underlying35 rfl) ?_
      dsimp only [put, List.take, List.drop, List.set, ev, nth, List.nil_append, List.cons_append, md, Nat.reducePow, Nat.reduceAdd, Nat.reduceMul]
      refine RL_det rfl (fun _ h => by cases h) (det_eql (q := 100) rfl rfl) ?_
      dsimp only [put, List.take, List.drop, List.set, ev, nth, List.nil_append, List.cons_append, md, Nat.reducePow, Nat.reduceAdd, Nat.reduceMul]
      refine RL_nil ?_
      refine RC_cond rfl (fun hcz => ?_) (fun hcz => ?_)
      · have hcz := of_decide_eq_true hcz
        refine RC_exit ?_
        refine inB_other (by decide) ?_
        exact ⟨rfl, (_, e101), ⟨hcz, row_len hr101 hcz⟩, List.Sublist.refl _⟩
      · have hcz := of_decide_eq_false hcz
        refine RC_skip ?_
        exact ⟨(_, e101), ⟨by rw [List.length_append, List.length_singleton] at hcz ⊢; omega, hr101⟩, List.Sublist.refl _⟩
    · rintro D xs ⟨v, e⟩ rfl ⟨hk, hr⟩
      dsimp only at hk hr
      rw [upTo_len] at hk hr
      have hr : RowN .u8 5 (min M 100) (strm K N C) v e := by
        rw [show min M 100 = 64 * (4294967296 - C) by omega]
        exact RowN.congr hr fun i hi => gd_upTo K N C _ hi
      dsimp only [List.cons_append, List.nil_append]
      refine DC_seq ?_
      refine DC_draw [[], [], [], [2], [2, 3], [1, 2, 3, 4], [0, 1, 2, 3, 4, 5], [0, 1, 2, 3, 4, 5, 6]] [] 112 [] (List.nil_sublist _) mixed rfl (by decide) ?_
      refine RW.det [] rfl rfl rfl rfl (fun _ => rfl) (fun V hV => Det.rel (det_load 4 Try.isAgg35 rfl rfl rfl)) (fun _ _ _ => rfl) ?_
      dsimp only [put, List.set, ev, nth, List.nil_append, List.cons_append, md, Nat.reducePow, Nat.reduceAdd, Nat.reduceMul]
      refine RW.pure rfl rfl (fun _ => rfl) (fun V hV => det_move) (fun _ _ _ => rfl) ?_
      dsimp only [put, List.set, ev, nth, List.nil_append, List.cons_append, md, Nat.reducePow, Nat.reduceAdd, Nat.reduceMul]
      refine RW.pure rfl rfl (fun _ => rfl) (fun V hV => det_move) (fun _ _ _ => rfl) ?_
      dsimp only [put, List.set, ev, nth, List.nil_append, List.cons_append, md, Nat.reducePow, Nat.reduceAdd, Nat.reduceMul]
      refine RW.pure rfl rfl (fun _ => rfl) (fun V hV => det_len Try.underlying35 rfl) (fun _ _ _ => rfl) ?_
      dsimp only [put, List.set, ev, nth, List.nil_append, List.cons_append, md, Nat.reducePow, Nat.reduceAdd, Nat.reduceMul]
      refine RW.pure rfl rfl (fun _ => rfl) (fun V hV => det_min (q := 100) rfl rfl) (fun _ _ _ => rfl) ?_
      dsimp only [put, List.set, ev, nth, List.nil_append, List.cons_append, md, Nat.reducePow, Nat.reduceAdd, Nat.reduceMul]
      refine RW.pure rfl rfl (fun _ => rfl) (fun V hV => det_cutTo Try.underlying35 Try.sizeOf5 rfl rfl (by omega)) (fun _ _ _ => rfl) ?_
      dsimp only [put, List.set, ev, nth, List.nil_append, List.cons_append, md, Nat.reducePow, Nat.reduceAdd, Nat.reduceMul]
      refine RW.det [] rfl rfl rfl rfl (fun _ => rfl) (fun V hV => Rel_call rfl Try.call20 (fun w hw => same_true (min M 100) (strm K N C) (strm K N C) (fun _ _ => rfl) (by simp only [maxLen]; omega) _ _ w (Rd.row hw 5 rfl hr) ((Rd.row hw 3 rfl hrw).take (by omega)))) (fun _ _ _ => rfl) ?_
      dsimp only [put, List.set, ev, nth, List.nil_append, List.cons_append, md, Nat.reducePow, Nat.reduceAdd, Nat.reduceMul]
      refine RW.pure rfl rfl (fun _ => rfl) (fun V hV => det_assign) (fun _ _ _ => rfl) ?_
      dsimp only [put, List.set, ev, nth, List.nil_append, List.cons_append, md, Nat.reducePow, Nat.reduceAdd, Nat.reduceMul]
      refine RW.done (fun V => _ ++ flat [] V) rfl rfl (fun _ => rfl) (fun V hV => ?_)
      try dsimp only [put, blk, flat_nil, List.append_nil, List.append, List.eraseIdx, List.set, ev, nth, List.nil_append, List.cons_append, md, Nat.reducePow, Nat.reduceAdd, Nat.reduceMul]
      refine DC_ret ?_
      refine finD_tmp Try.results3 rfl ([]) (.cons _ (.cons _ (.cons _ (.cons _ (.cons _ (.cons _ (.cons _ (.cons _ (.cons _ (List.Sublist.refl _)))))))))) ?_
      exact ⟨rfl, rfl⟩
    · rintro D xs ⟨v, e⟩ ⟨k, hk, rfl⟩ ⟨hl, hr⟩
      dsimp only at hr
      rw [upTo_len] at hl
      have hr : RowN .u8 5 (min M 100) (strm K N C) v e := by
        rw [show min M 100 = 100 by omega]
        exact RowN.congr hr fun i hi => gd_upTo K N C k (by omega)
      dsimp only [List.cons_append, List.nil_append]
      refine DC_seq ?_
      refine DC_draw [[], [], [], [2], [2, 3], [1, 2, 3, 4], [0, 1, 2, 3, 4, 5], [0, 1, 2, 3, 4, 5, 6]] [] 112 [] (List.nil_sublist _) mixed rfl (by decide) ?_
      refine RW.det [] rfl rfl rfl rfl (fun _ => rfl) (fun V hV => Det.rel (det_load 4 Try.isAgg35 rfl rfl rfl)) (fun _ _ _ => rfl) ?_
      dsimp only [put, List.set, ev, nth, List.nil_append, List.cons_append, md, Nat.reducePow, Nat.reduceAdd, Nat.reduceMul]
      refine RW.pure rfl rfl (fun _ => rfl) (fun V hV => det_move) (fun _ _ _ => rfl) ?_
      dsimp only [put, List.set, ev, nth, List.nil_append, List.cons_append, md, Nat.reducePow, Nat.reduceAdd, Nat.reduceMul]
      refine RW.pure rfl rfl (fun _ => rfl) (fun V hV => det_move) (fun _ _ _ => rfl) ?_
      dsimp only [put, List.set, ev, nth, List.nil_append, List.cons_append, md, Nat.reducePow, Nat.reduceAdd, Nat.reduceMul]
      refine RW.pure rfl rfl (fun _ => rfl) (fun V hV => det_len Try.underlying35 rfl) (fun _ _ _ => rfl) ?_
      dsimp only [put, List.set, ev, nth, List.nil_append, List.cons_append, md, Nat.reducePow, Nat.reduceAdd, Nat.reduceMul]
      refine RW.pure rfl rfl (fun _ => rfl) (fun V hV => det_min (q := 100) rfl rfl) (fun _ _ _ => rfl) ?_
      dsimp only [put, List.set, ev, nth, List.nil_append, List.cons_append, md, Nat.reducePow, Nat.reduceAdd, Nat.reduceMul]
      refine RW.pure rfl rfl (fun _ => rfl) (fun V hV => det_cutTo Try.underlying35 Try.sizeOf5 rfl rfl (by omega)) (fun _ _ _ => rfl) ?_
      dsimp only [put, List.set, ev, nth, List.nil_append, List.cons_append, md, Nat.reducePow, Nat.reduceAdd, Nat.reduceMul]
      refine RW.det [] rfl rfl rfl rfl (fun _ => rfl) (fun V hV => Rel_call rfl Try.call20 (fun w hw => same_true (min M 100) (strm K N C) (strm K N C) (fun _ _ => rfl) (by simp only [maxLen]; omega) _ _ w (Rd.row hw 5 rfl hr) ((Rd.row hw 3 rfl hrw).take (by omega)))) (fun _ _ _ => rfl) ?_
      dsimp only [put, List.set, ev, nth, List.nil_append, List.cons_append, md, Nat.reducePow, Nat.reduceAdd, Nat.reduceMul]
      refine RW.pure rfl rfl (fun _ => rfl) (fun V hV => det_assign) (fun _ _ _ => rfl) ?_
      dsimp only [put, List.set, ev, nth, List.nil_append, List.cons_append, md, Nat.reducePow, Nat.reduceAdd, Nat.reduceMul]
      refine RW.done (fun V => _ ++ flat [] V) rfl rfl (fun _ => rfl) (fun V hV => ?_)
      try dsimp only [put, blk, flat_nil, List.append_nil, List.append, List.eraseIdx, List.set, ev, nth, List.nil_append, List.cons_append, md, Nat.reducePow, Nat.reduceAdd, Nat.reduceMul]
      refine DC_ret ?_
      refine finD_tmp Try.results3 rfl ([]) (.cons _ (.cons _ (.cons _ (.cons _ (.cons _ (.cons _ (.cons _ (.cons _ (.cons _ (List.Sublist.refl _)))))))))) ?_
      exact ⟨rfl, rfl⟩

end Go.Proofs.Ytpmldkhgdpchjaa
