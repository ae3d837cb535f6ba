/- What the claim of this folder needs of its texts, put together by a program of this claim. Conditions: none. -/
import Derived.WalkKit
import Derived.ProofKit
import Derived.OpenShut
import Derived.ShutString
import Derived.ChangeOld
import Derived.Below
import Derived.Test.YtpmldkhgdpchjaaBCB4
namespace Go.MW
open Go.ChangeShapes Go.WideShapes Go.ChangeAt Go.RowKit

theorem wf_u8 {x : Int} (h : (Lit.int .u8 x).wf = true) : 0 ≤ x ∧ x < 256 := by
  simp [Lit.wf, IntKind.min, IntKind.max, IntKind.bits, IntKind.signed] at h
  omega

theorem open_bytesS {H : Type} {enc : TypeId × Value → H} {P : Program} {W : World} {b0 base : Nat} {sp : Nat → Bool} {held : Bool} {t e : TypeId} {v : Value} {d : DataW H} {ps : List MemPlace} (ht : P.underlying t = some (.slice e)) (he : P.underlying e = some (.int .u8)) (hce : P.cellsOf e = 1)
    (hval : Value.okWide P W .any b0 t v) (hd : DataW.Trod enc P W base sp held t v d ps) : ∃ (n : Nat) (f : Nat → Nat) (p : Option Addr) (c : Nat), n ≤ maxLen ∧ n ≤ c ∧ (∀ i, i < n → f i < 256) ∧ v = .slice p n c ∧ Rd W .u8 n f (.slice p n c) := by
  obtain ⟨a0, len0, cap0, rfl⟩ := okWide_slice ht hval
  obtain ⟨fuel, hf⟩ := hd
  rcases open_ints ht he hce hf with ⟨hcs, _⟩ | ⟨x, l, c, zs, hcs, _, hl, hm, hz, _, hcell, hwz⟩
  · simp [Value.cells] at hcs
    obtain ⟨rfl, rfl, rfl⟩ := hcs
    exact ⟨0, fun _ => 0, none, 0, Nat.zero_le _, Nat.le_refl _, fun _ _ => (by decide : (0 : Nat) < 256), rfl, Rd.nil _ _ _⟩
  · simp [Value.cells] at hcs
    obtain ⟨rfl, rfl, rfl⟩ := hcs
    have hlen : len0 ≤ zs.length := by rw [hz]; split <;> omega
    by_cases h0 : len0 = 0
    · subst h0
      exact ⟨0, fun _ => 0, _, _, Nat.zero_le _, hl, fun _ _ => (by decide : (0 : Nat) < 256), rfl, Rd.zero _ _ _ _ _⟩
    obtain ⟨b, off, spot⟩ := x
    have hc := hcell 0 (by omega)
    have hspot : spot = none := by simpa [Addr.add] using World.cell?_spot hc
    subst hspot
    have hw : ∀ i, i < len0 → 0 ≤ zs.getD i 0 ∧ zs.getD i 0 < 256 := fun i hi => wf_u8 (hwz _ (by
      rw [List.getD_eq_getElem?_getD, List.getElem?_eq_getElem (show i < zs.length by omega)]; exact List.getElem_mem _))
    refine ⟨len0, fun i => (zs.getD i 0).toNat, _, cap0, by omega, hl, fun i hi => by have := hw i hi; show (zs.getD i 0).toNat < 256; omega, rfl, ⟨_, cap0, b, off, rfl, fun _ => rfl, fun i hi => ?_⟩⟩
    have h1 := hcell i (by omega)
    have h2 := (hw i hi).1
    rw [Addr.add_lit] at h1
    rw [show (vn .u8 (zs.getD i 0).toNat) = .int .u8 (zs.getD i 0) by simp only [vn]; rw [Int.toNat_of_nonneg h2]]
    exact h1

theorem open_unsigned {k : IntKind} {x : Int} (h : (Lit.int k x).wf = true) (hk : k.signed = false) : ∃ m : Nat, x = (m : Int) ∧ m < 2 ^ k.bits := by
  simp [Lit.wf, IntKind.min, IntKind.max, hk] at h
  refine ⟨x.toNat, (Int.toNat_of_nonneg h.1).symm, ?_⟩
  have h2 := h.2
  have h3 : ((2 ^ k.bits : Nat) : Int) = (2 : Int) ^ k.bits := by simp
  omega
theorem PostV.law {w : World} {v : Value} {e : Ending} {w' : World} (h : PostV w v e w') : e = .returned v ∧ Below w.heap.size w w' := by
  obtain ⟨v', mi, he, ⟨rfl, _⟩, hw⟩ := h
  exact ⟨he, hw.below⟩
end Go.MW

namespace Go.MW
open Go.ChangeShapes Go.WideShapes Go.ChangeAt Go.RowKit

theorem open_natsL {H : Type} {enc : TypeId × Value → H} {P : Program} {W : World} {base n fuel : Nat} {sp : Nat → Bool} {held : Bool} {t e : TypeId} {k : IntKind} {cs : List Value} {x : DataW H × List MemPlace} (hk : k.signed = false) (ht : P.underlying t = some (.array n e)) (he : P.underlying e = some (.int k)) (hce : P.cellsOf e = 1) (hct : P.cellsOf t = n)
    (hd : DataW.trod enc P W base sp held fuel t cs = some x) : ∃ f : Nat → Nat, (∀ i, i < n → f i < 2 ^ k.bits) ∧ cs = (arr k n f).toList := by
  obtain ⟨xs, m, _, _, hcl, hl, hel⟩ := DataW.trod_array ht hd
  rw [hct] at hcl
  have key : ∀ i, i < n → ∃ x : Nat, cs[i]? = some (vn k x) ∧ x < 2 ^ k.bits := by
    intro i hi
    have h := hel i hi
    obtain ⟨y, hy⟩ : ∃ y, xs[i]? = some y := ⟨xs[i], by simp [hl, hi]⟩
    rw [hy] at h
    obtain ⟨x, e1, _, w1⟩ := DataW.trod_int he h
    obtain ⟨q, rfl, hq⟩ := open_unsigned w1 hk
    refine ⟨q, ?_, hq⟩
    rw [hce, Nat.mul_one] at e1
    have e2 : (List.drop i cs)[0]? = some (vn k q) := by
      have : ((List.drop i cs).take 1)[0]? = some (vn k q) := by rw [e1]; rfl
      simpa using this
    simpa using e2
  let f : Nat → Nat := fun i => match cs[i]? with | some (.int _ x) => x.toNat | _ => 0
  have hf2 : ∀ i, i < n → cs[i]? = some (vn k (f i)) ∧ f i < 2 ^ k.bits := by
    intro i hi
    obtain ⟨x, h1, h2⟩ := key i hi
    have : f i = x := by show (match cs[i]? with | some (.int _ x) => x.toNat | _ => 0) = x; rw [h1]; simp
    rw [this]; exact ⟨h1, h2⟩
  refine ⟨f, fun i hi => (hf2 i hi).2, ?_⟩
  rw [arr_toList]
  apply List.ext_getElem?
  intro i
  by_cases hi : i < n
  · rw [(hf2 i hi).1]; simp [hi]
  · rw [List.getElem?_eq_none (by omega), List.getElem?_eq_none (by simp; omega)]
theorem open_bytesL {H : Type} {enc : TypeId × Value → H} {P : Program} {W : World} {base n fuel : Nat} {sp : Nat → Bool} {held : Bool} {t e : TypeId} {cs : List Value} {x : DataW H × List MemPlace} (ht : P.underlying t = some (.array n e)) (he : P.underlying e = some (.int .u8)) (hce : P.cellsOf e = 1) (hct : P.cellsOf t = n)
    (hd : DataW.trod enc P W base sp held fuel t cs = some x) : ∃ N, N < 256 ^ n ∧ cs = (arr .u8 n (byt N)).toList := by
  obtain ⟨f, hf, rfl⟩ := open_natsL rfl ht he hce hct hd
  refine ⟨lev f n, lev_lt f n fun i hi => hf i hi, ?_⟩
  rw [arr_congr fun i hi => byt_lev f n (fun i hi => hf i hi) i hi]
/-- A struct, laid open: its cells, and each field's reading. -/
theorem open_struct {H : Type} {enc : TypeId × Value → H} {P : Program} {W : World} {b0 base : Nat} {sp : Nat → Bool} {held : Bool} {t : TypeId} {fs : Array Field} {v : Value} {d : DataW H} {ps : List MemPlace} (ht : P.underlying t = some (.struct fs))
    (hval : Value.okWide P W .any b0 t v) (hd : DataW.Trod enc P W base sp held t v d ps) : ∃ (cs : Array Value) (n : Nat), v = .agg cs ∧ cs.size = P.cellsOf t ∧ ∀ (i ft off : Nat), (fs[i]?).map (fun d => (d.type, d.offset)) = some (ft, off) → ∃ x, DataW.trod enc P W base sp held n ft ((cs.toList.drop off).take (P.cellsOf ft)) = some x := by
  obtain ⟨cs, rfl, hsz, _⟩ : ∃ cs, v = .agg cs ∧ cs.size = P.cellsOf t ∧ Row.okWide P W .any b0 t cs := by
    simpa [Value.okWide, ht] using hval
  obtain ⟨fuel, hf⟩ := hd
  obtain ⟨xs, n, _, _, _, hl, hel⟩ := DataW.trod_struct ht hf
  refine ⟨cs, n, rfl, hsz, fun i ft off hi0 => ?_⟩
  obtain ⟨f, hi, hf⟩ : ∃ f, fs[i]? = some f ∧ (f.type, f.offset) = (ft, off) := by
    cases hg : fs[i]? with
    | none => rw [hg] at hi0; cases hi0
    | some f => rw [hg] at hi0; exact ⟨f, rfl, by simpa using hi0⟩
  simp only [Prod.mk.injEq] at hf
  obtain ⟨rfl, rfl⟩ := hf
  have h := hel i f hi
  have hlt : i < fs.size := (Array.getElem?_eq_some_iff.1 hi).1
  exact ⟨xs[i], by rw [show (Value.agg cs).cells = cs from rfl] at h; rw [h]; simp [hl, hlt]⟩
end Go.MW

set_option linter.unusedVariables false
namespace Go.Proofs.Ytpmldkhgdpchjaa
open Go.MW
theorem hide_ok (K N C : Nat) (hC : C < 4294967296) (n : Nat) (f : Nat → Nat) (hf : ∀ i, i < n → f i < 256) (hn : n ≤ 1048576) (hb : (n + 63) / 64 ≤ 4294967296 - C) (va : Value) (w : World) (ha : Rd w .u8 n f va) :
    Calls Try.prog 42 [.agg (arr .u8 32 (byt K)), .agg (arr .u8 12 (byt N)), vn .u32 C, va].toArray w (Post w (fun v m => ∃ v1 e, v = .tuple #[v1, vn .i64 0] ∧ RowN .u8 5 n (hidb K N C f) v1 e ∧ m = [e])) := by
  refine (hide_spec K N C hC n f hf (by omega) va w ha).mono ?_
  rintro e w' h
  refine h.mono ?_
  rintro v m (⟨h1, _⟩ | ⟨_, h1⟩)
  · omega
  · exact h1
theorem hide_no (K N C : Nat) (hC : C < 4294967296) (n : Nat) (f : Nat → Nat) (hf : ∀ i, i < n → f i < 256) (hn : n ≤ 1048576) (hb : 4294967296 - C < (n + 63) / 64) (va : Value) (w : World) (ha : Rd w .u8 n f va) :
    Calls Try.prog 42 [.agg (arr .u8 32 (byt K)), .agg (arr .u8 12 (byt N)), vn .u32 C, va].toArray w (PostV w (.tuple #[.slice none 0 0, vn .i64 3])) := by
  refine (hide_spec K N C hC n f hf (by omega) va w ha).mono ?_
  rintro e w' h
  refine h.mono ?_
  rintro v m (⟨_, h1⟩ | ⟨h1, _⟩)
  · exact h1
  · omega
theorem hidb_lt {K N C : Nat} {f : Nat → Nat} {i : Nat} (h : f i < 256) : hidb K N C f i < 256 := Nat.xor_lt_two_pow (n := 8) (strm_lt K N C i) h
theorem hidb_back (K N C : Nat) (f : Nat → Nat) (i : Nat) : hidb K N C (hidb K N C f) i = f i := by
  unfold hidb; rw [← Nat.xor_assoc, Nat.xor_self, Nat.zero_xor]
/-- A key, a nonce and a count, cell by cell. -/
def caseA (K N C : Nat) : Array Value := arr .u8 32 (byt K) ++ arr .u8 12 (byt N) ++ #[vn .u32 C]
theorem key_at (K N C : Nat) : ∀ j, j < 32 → (Value.agg (caseA K N C)).cells[0 + j]? = some (vn .u8 (byt K j)) := by
  intro j hj
  show (caseA K N C)[0 + j]? = _
  unfold caseA
  rw [Nat.zero_add, Array.getElem?_append_left (by simp [arr_size]; omega), Array.getElem?_append_left (by simp [arr_size]; omega), arr_get _ _ _ hj]
theorem nonce_at (K N C : Nat) : ∀ j, j < 12 → (Value.agg (caseA K N C)).cells[32 + j]? = some (vn .u8 (byt N j)) := by
  intro j hj
  show (caseA K N C)[32 + j]? = _
  unfold caseA
  rw [Array.getElem?_append_left (by simp [arr_size]; omega), Array.getElem?_append_right (by simp [arr_size]), arr_size, show 32 + j - 32 = j by omega, arr_get _ _ _ hj]
theorem count_at (K N C : Nat) : (Value.agg (caseA K N C)).cells[44]? = some (vn .u32 C) := by
  show (caseA K N C)[44]? = _
  unfold caseA
  rw [Array.getElem?_append_right (by simp [arr_size])]
  simp [arr_size]
theorem zb0 : blkb 0 0 0 0 = 118 := by decide +kernel
theorem zb1 : blkb 0 0 0 1 = 184 := by decide +kernel
theorem zb2 : blkb 0 0 0 2 = 224 := by decide +kernel
theorem zb3 : blkb 0 0 0 3 = 173 := by decide +kernel

set_option maxRecDepth 100000 in
set_option maxHeartbeats 400000 in
theorem cawake_spec  (w : World) :
    Calls Try.prog 15 [].toArray w (PostV w (.bool true)) := by
  refine calls_of_WC Try.func15 rfl ?_
  simp only [Try.ntmps15, List.length_nil, Nat.reduceSub, List.replicate, List.nil_append]
  refine WC_seq ?_
  refine WC_region ?_
  refine WL_det rfl (det_assign) ?_
  dsimp only [put, List.set, ev, nth, List.nil_append, List.cons_append, md, Nat.reducePow, Nat.reduceAdd, Nat.reduceMul]
  refine WL_nil ?_
  refine WC_seq ?_
  refine WC_region ?_
  refine WL_det (v := .agg (arr .u8 32 (byt 0))) rfl (fun w _ => by kernel_rfl) ?_
  dsimp only [put, List.set, ev, nth, List.nil_append, List.cons_append, md, Nat.reducePow, Nat.reduceAdd, Nat.reduceMul]
  refine WL_det (v := .agg (arr .u8 12 (byt 0))) rfl (fun w _ => by kernel_rfl) ?_
  dsimp only [put, List.set, ev, nth, List.nil_append, List.cons_append, md, Nat.reducePow, Nat.reduceAdd, Nat.reduceMul]
  refine WL_rel rfl (Rel_call rfl Try.call18 (fun w hw => block_spec 0 0 0 (by decide) w)) ?_
  rintro _ _ ⟨rfl, rfl⟩
  dsimp only [put, List.append_nil, List.set, ev, nth, List.nil_append, List.cons_append, md, Nat.reducePow, Nat.reduceAdd, Nat.reduceMul]
  refine WL_rel rfl (rel_alloc z33 rfl) ?_
  rintro _ _ ⟨b0, rfl, rfl⟩
  dsimp only [put, List.set, ev, nth, List.nil_append, List.cons_append, md, Nat.reducePow, Nat.reduceAdd, Nat.reduceMul]
  refine WL_chg rfl (chg_storeWA 0 Try.sizeOf33 rfl rfl rfl) ?_
  rintro _ _ rfl
  dsimp only [put, List.set, ev, nth, List.nil_append, List.cons_append, md, Nat.reducePow, Nat.reduceAdd, Nat.reduceMul]
  refine WL_nil ?_
  refine WC_seq ?_
  refine WC_region ?_
  refine WL_det rfl (det_idxA (j := 0) Try.underlying33 Try.sizeOf5 rfl rfl (rfl) (by omega)) ?_
  dsimp only [put, List.set, ev, nth, List.nil_append, List.cons_append, md, Nat.reducePow, Nat.reduceAdd, Nat.reduceMul]
  refine WL_det rfl (det_loadA 0 Try.isAgg5 rfl rfl (by omega)) ?_
  dsimp only [put, List.set, ev, nth, List.nil_append, List.cons_append, md, Nat.reducePow, Nat.reduceAdd, Nat.reduceMul]
  refine WL_det rfl (Det.bv true (det_eql (q := 118) rfl rfl) (decide_eq_true zb0)) ?_
  dsimp only [put, List.set, ev, nth, List.nil_append, List.cons_append, md, Nat.reducePow, Nat.reduceAdd, Nat.reduceMul]
  refine WL_det rfl (det_move) ?_
  dsimp only [put, List.set, ev, nth, List.nil_append, List.cons_append, md, Nat.reducePow, Nat.reduceAdd, Nat.reduceMul]
  refine WL_detG rfl (det_idxA (j := 1) Try.underlying33 Try.sizeOf5 rfl rfl (rfl) (by omega)) ?_
  dsimp only [put, List.set, ev, nth, List.nil_append, List.cons_append, md, Nat.reducePow, Nat.reduceAdd, Nat.reduceMul]
  refine WL_detG rfl (det_loadA 0 Try.isAgg5 rfl rfl (by omega)) ?_
  dsimp only [put, List.set, ev, nth, List.nil_append, List.cons_append, md, Nat.reducePow, Nat.reduceAdd, Nat.reduceMul]
  refine WL_detG rfl (Det.bv true (det_eql (q := 184) rfl rfl) (decide_eq_true zb1)) ?_
  dsimp only [put, List.set, ev, nth, List.nil_append, List.cons_append, md, Nat.reducePow, Nat.reduceAdd, Nat.reduceMul]
  refine WL_det rfl (det_pick_true rfl) ?_
  dsimp only [put, List.set, ev, nth, List.nil_append, List.cons_append, md, Nat.reducePow, Nat.reduceAdd, Nat.reduceMul]
  refine WL_det rfl (det_move) ?_
  dsimp only [put, List.set, ev, nth, List.nil_append, List.cons_append, md, Nat.reducePow, Nat.reduceAdd, Nat.reduceMul]
  refine WL_detG rfl (det_idxA (j := 2) Try.underlying33 Try.sizeOf5 rfl rfl (rfl) (by omega)) ?_
  dsimp only [put, List.set, ev, nth, List.nil_append, List.cons_append, md, Nat.reducePow, Nat.reduceAdd, Nat.reduceMul]
  refine WL_detG rfl (det_loadA 0 Try.isAgg5 rfl rfl (by omega)) ?_
  dsimp only [put, List.set, ev, nth, List.nil_append, List.cons_append, md, Nat.reducePow, Nat.reduceAdd, Nat.reduceMul]
  refine WL_detG rfl (Det.bv true (det_eql (q := 224) rfl rfl) (decide_eq_true zb2)) ?_
  dsimp only [put, List.set, ev, nth, List.nil_append, List.cons_append, md, Nat.reducePow, Nat.reduceAdd, Nat.reduceMul]
  refine WL_det rfl (det_pick_true rfl) ?_
  dsimp only [put, List.set, ev, nth, List.nil_append, List.cons_append, md, Nat.reducePow, Nat.reduceAdd, Nat.reduceMul]
  refine WL_det rfl (det_move) ?_
  dsimp only [put, List.set, ev, nth, List.nil_append, List.cons_append, md, Nat.reducePow, Nat.reduceAdd, Nat.reduceMul]
  refine WL_detG rfl (det_idxA (j := 3) Try.underlying33 Try.sizeOf5 rfl rfl (rfl) (by omega)) ?_
  dsimp only [put, List.set, ev, nth, List.nil_append, List.cons_append, md, Nat.reducePow, Nat.reduceAdd, Nat.reduceMul]
  refine WL_detG rfl (det_loadA 0 Try.isAgg5 rfl rfl (by omega)) ?_
  dsimp only [put, List.set, ev, nth, List.nil_append, List.cons_append, md, Nat.reducePow, Nat.reduceAdd, Nat.reduceMul]
  refine WL_detG rfl (Det.bv true (det_eql (q := 173) rfl rfl) (decide_eq_true zb3)) ?_
  dsimp only [put, List.set, ev, nth, List.nil_append, List.cons_append, md, Nat.reducePow, Nat.reduceAdd, Nat.reduceMul]
  refine WL_det rfl (det_pick_true rfl) ?_
  dsimp only [put, List.set, ev, nth, List.nil_append, List.cons_append, md, Nat.reducePow, Nat.reduceAdd, Nat.reduceMul]
  refine WL_det rfl (det_assign) ?_
  dsimp only [put, List.set, ev, nth, List.nil_append, List.cons_append, md, Nat.reducePow, Nat.reduceAdd, Nat.reduceMul]
  refine WL_nil ?_
  refine WC_ret ?_
  refine fin_tmp Try.results15 rfl ([]) (List.nil_sublist _) ?_
  exact ⟨rfl, rfl⟩

set_option maxRecDepth 100000 in
set_option maxHeartbeats 1000000 in
theorem cback_spec (K N C n c1 : Nat) (hC : C < 4294967296) (f : Nat → Nat) (p1 : Option Addr) (hf : ∀ i, i < n → f i < 256) (hnl : n ≤ maxLen) (at_ : Nat) (hat : at_ < 2 ^ 16) (hcap : n ≤ c1) (w : World) (ha : Rd w .u8 n f (.slice p1 n c1)) :
    Calls Try.prog 10 [.agg (caseA K N C), .slice p1 n c1, vn .u16 at_].toArray w (PostV w (.bool true)) := by
  refine calls_of_WC Try.func10 rfl ?_
  simp only [Try.ntmps10, List.length_cons, List.length_nil, Nat.reduceAdd, Nat.reduceSub, List.replicate, List.cons_append, List.nil_append]
  refine WC_seq ?_
  refine WC_region ?_
  refine WL_rel rfl (rel_box rfl rfl) ?_
  rintro _ _ ⟨b0, rfl, rfl⟩
  dsimp only [put, List.set, ev, nth, List.nil_append, List.cons_append, md, Nat.reducePow, Nat.reduceAdd, Nat.reduceMul]
  refine WL_det rfl (det_assign) ?_
  dsimp only [put, List.set, ev, nth, List.nil_append, List.cons_append, md, Nat.reducePow, Nat.reduceAdd, Nat.reduceMul]
  refine WL_nil ?_
  refine WC_seq ?_
  refine WC_seq ?_
  refine WC_region ?_
  refine WL_rel rfl (Rel_call rfl Try.call15 (fun w hw => cawake_spec w)) ?_
  rintro _ _ ⟨rfl, rfl⟩
  dsimp only [put, List.append_nil, List.set, ev, nth, List.nil_append, List.cons_append, md, Nat.reducePow, Nat.reduceAdd, Nat.reduceMul]
  refine WL_det rfl (det_not rfl) ?_
  dsimp only [put, List.set, ev, nth, List.nil_append, List.cons_append, md, Nat.reducePow, Nat.reduceAdd, Nat.reduceMul]
  refine WL_nil ?_
  refine WC_cond_false rfl ?_
  refine WC_skip ?_
  refine WC_seq ?_
  refine WC_seq ?_
  refine WC_region ?_
  refine WL_det rfl (det_move) ?_
  dsimp only [put, List.set, ev, nth, List.nil_append, List.cons_append, md, Nat.reducePow, Nat.reduceAdd, Nat.reduceMul]
  refine WL_det rfl (det_len Try.underlying35 rfl) ?_
  dsimp only [put, List.set, ev, nth, List.nil_append, List.cons_append, md, Nat.reducePow, Nat.reduceAdd, Nat.reduceMul]
  refine WL_det rfl (det_gtr (q := 500) rfl rfl) ?_
  dsimp only [put, List.set, ev, nth, List.nil_append, List.cons_append, md, Nat.reducePow, Nat.reduceAdd, Nat.reduceMul]
  refine WL_nil ?_
  refine WC_cond rfl (fun hc1 => ?_) (fun hc1 => ?_)
  · have hc1 := of_decide_eq_true hc1
    refine WC_seq ?_
    refine WC_region ?_
    refine WL_det rfl (det_assign) ?_
    dsimp only [put, List.set, ev, nth, List.nil_append, List.cons_append, md, Nat.reducePow, Nat.reduceAdd, Nat.reduceMul]
    refine WL_nil ?_
    refine WC_ret ?_
    refine fin_tmp Try.results10 rfl ([]) (List.nil_sublist _) ?_
    exact ⟨rfl, rfl⟩
  · have hc1 := of_decide_eq_false hc1
    refine WC_skip ?_
    refine WC_seq ?_
    by_cases hL : 4294967296 - C < (n + 63) / 64
    · refine WC_region ?_
      refine WL_det rfl (det_fieldAddr 0 Try.underlying26 rfl Try.sizeOf22 rfl) ?_
      dsimp only [put, List.set, ev, nth, List.nil_append, List.cons_append, md, Nat.reducePow, Nat.reduceAdd, Nat.reduceMul]
      refine WL_det rfl (det_loadMid 0 Try.underlying22 i22 rfl rfl (key_at K N C)) ?_
      dsimp only [put, List.set, ev, nth, List.nil_append, List.cons_append, md, Nat.reducePow, Nat.reduceAdd, Nat.reduceMul]
      refine WL_det rfl (det_fieldAddr 32 Try.underlying26 rfl Try.sizeOf23 rfl) ?_
      dsimp only [put, List.set, ev, nth, List.nil_append, List.cons_append, md, Nat.reducePow, Nat.reduceAdd, Nat.reduceMul]
      refine WL_det rfl (det_loadMid 0 Try.underlying23 i23 rfl rfl (nonce_at K N C)) ?_
      dsimp only [put, List.set, ev, nth, List.nil_append, List.cons_append, md, Nat.reducePow, Nat.reduceAdd, Nat.reduceMul]
      refine WL_det rfl (det_fieldAddr 44 Try.underlying26 rfl Try.sizeOf24 rfl) ?_
      dsimp only [put, List.set, ev, nth, List.nil_append, List.cons_append, md, Nat.reducePow, Nat.reduceAdd, Nat.reduceMul]
      refine WL_det rfl (det_load 0 Try.isAgg24 rfl rfl (count_at K N C)) ?_
      dsimp only [put, List.set, ev, nth, List.nil_append, List.cons_append, md, Nat.reducePow, Nat.reduceAdd, Nat.reduceMul]
      refine WL_det rfl (det_move) ?_
      dsimp only [put, List.set, ev, nth, List.nil_append, List.cons_append, md, Nat.reducePow, Nat.reduceAdd, Nat.reduceMul]
      refine WL_rel rfl (Rel_call rfl Try.call42 (fun w hw => hide_no K N C hC n f hf (by omega) hL _ w (ha.far hw))) ?_
      rintro _ _ ⟨rfl, rfl⟩
      dsimp only [put, List.append_nil, List.set, ev, nth, List.nil_append, List.cons_append, md, Nat.reducePow, Nat.reduceAdd, Nat.reduceMul]
      refine WL_det rfl (det_move) ?_
      dsimp only [put, List.set, ev, nth, List.nil_append, List.cons_append, md, Nat.reducePow, Nat.reduceAdd, Nat.reduceMul]
      refine WL_det rfl (det_extract rfl rfl) ?_
      dsimp only [put, List.set, ev, nth, List.nil_append, List.cons_append, md, Nat.reducePow, Nat.reduceAdd, Nat.reduceMul]
      refine WL_det rfl (det_extract rfl rfl) ?_
      dsimp only [put, List.set, ev, nth, List.nil_append, List.cons_append, md, Nat.reducePow, Nat.reduceAdd, Nat.reduceMul]
      refine WL_det rfl (det_assign) ?_
      dsimp only [put, List.set, ev, nth, List.nil_append, List.cons_append, md, Nat.reducePow, Nat.reduceAdd, Nat.reduceMul]
      refine WL_det rfl (det_assign) ?_
      dsimp only [put, List.set, ev, nth, List.nil_append, List.cons_append, md, Nat.reducePow, Nat.reduceAdd, Nat.reduceMul]
      refine WL_nil ?_
      refine WC_seq ?_
      refine WC_seq ?_
      refine WC_region ?_
      refine WL_det rfl (det_move) ?_
      dsimp only [put, List.set, ev, nth, List.nil_append, List.cons_append, md, Nat.reducePow, Nat.reduceAdd, Nat.reduceMul]
      refine WL_det rfl (Det.bv true (det_neq (q := 0) rfl rfl) (rfl)) ?_
      dsimp only [put, List.set, ev, nth, List.nil_append, List.cons_append, md, Nat.reducePow, Nat.reduceAdd, Nat.reduceMul]
      refine WL_nil ?_
      refine WC_cond_true rfl ?_
      refine WC_seq ?_
      refine WC_region ?_
      refine WL_det rfl (det_move) ?_
      dsimp only [put, List.set, ev, nth, List.nil_append, List.cons_append, md, Nat.reducePow, Nat.reduceAdd, Nat.reduceMul]
      refine WL_det rfl (det_len Try.underlying35 rfl) ?_
      dsimp only [put, List.set, ev, nth, List.nil_append, List.cons_append, md, Nat.reducePow, Nat.reduceAdd, Nat.reduceMul]
      refine WL_det rfl (Det.bv true (det_eql (q := 0) rfl rfl) (rfl)) ?_
      dsimp only [put, List.set, ev, nth, List.nil_append, List.cons_append, md, Nat.reducePow, Nat.reduceAdd, Nat.reduceMul]
      refine WL_det rfl (det_assign) ?_
      dsimp only [put, List.set, ev, nth, List.nil_append, List.cons_append, md, Nat.reducePow, Nat.reduceAdd, Nat.reduceMul]
      refine WL_nil ?_
      refine WC_ret ?_
      refine fin_tmp Try.results10 rfl ([]) (List.nil_sublist _) ?_
      exact ⟨rfl, rfl⟩
    · refine WC_region ?_
      refine WL_det rfl (det_fieldAddr 0 Try.underlying26 rfl Try.sizeOf22 rfl) ?_
      dsimp only [put, List.set, ev, nth, List.nil_append, List.cons_append, md, Nat.reducePow, Nat.reduceAdd, Nat.reduceMul]
      refine WL_det rfl (det_loadMid 0 Try.underlying22 i22 rfl rfl (key_at K N C)) ?_
      dsimp only [put, List.set, ev, nth, List.nil_append, List.cons_append, md, Nat.reducePow, Nat.reduceAdd, Nat.reduceMul]
      refine WL_det rfl (det_fieldAddr 32 Try.underlying26 rfl Try.sizeOf23 rfl) ?_
      dsimp only [put, List.set, ev, nth, List.nil_append, List.cons_append, md, Nat.reducePow, Nat.reduceAdd, Nat.reduceMul]
      refine WL_det rfl (det_loadMid 0 Try.underlying23 i23 rfl rfl (nonce_at K N C)) ?_
      dsimp only [put, List.set, ev, nth, List.nil_append, List.cons_append, md, Nat.reducePow, Nat.reduceAdd, Nat.reduceMul]
      refine WL_det rfl (det_fieldAddr 44 Try.underlying26 rfl Try.sizeOf24 rfl) ?_
      dsimp only [put, List.set, ev, nth, List.nil_append, List.cons_append, md, Nat.reducePow, Nat.reduceAdd, Nat.reduceMul]
      refine WL_det rfl (det_load 0 Try.isAgg24 rfl rfl (count_at K N C)) ?_
      dsimp only [put, List.set, ev, nth, List.nil_append, List.cons_append, md, Nat.reducePow, Nat.reduceAdd, Nat.reduceMul]
      refine WL_det rfl (det_move) ?_
      dsimp only [put, List.set, ev, nth, List.nil_append, List.cons_append, md, Nat.reducePow, Nat.reduceAdd, Nat.reduceMul]
      refine WL_rel rfl (Rel_call rfl Try.call42 (fun w hw => hide_ok K N C hC n f hf (by omega) (by omega) _ w (ha.far hw))) ?_
      rintro _ _ ⟨v27, e27, rfl, hr27, rfl⟩
      obtain ⟨ps27, cs27, rfl, hcs27⟩ := hr27.slice
      dsimp only [put, List.append_nil, List.set, ev, nth, List.nil_append, List.cons_append, md, Nat.reducePow, Nat.reduceAdd, Nat.reduceMul]
      refine WL_det rfl (det_move) ?_
      dsimp only [put, List.set, ev, nth, List.nil_append, List.cons_append, md, Nat.reducePow, Nat.reduceAdd, Nat.reduceMul]
      refine WL_det rfl (det_extract rfl rfl) ?_
      dsimp only [put, List.set, ev, nth, List.nil_append, List.cons_append, md, Nat.reducePow, Nat.reduceAdd, Nat.reduceMul]
      refine WL_det rfl (det_extract rfl rfl) ?_
      dsimp only [put, List.set, ev, nth, List.nil_append, List.cons_append, md, Nat.reducePow, Nat.reduceAdd, Nat.reduceMul]
      refine WL_det rfl (det_assign) ?_
      dsimp only [put, List.set, ev, nth, List.nil_append, List.cons_append, md, Nat.reducePow, Nat.reduceAdd, Nat.reduceMul]
      refine WL_det rfl (det_assign) ?_
      dsimp only [put, List.set, ev, nth, List.nil_append, List.cons_append, md, Nat.reducePow, Nat.reduceAdd, Nat.reduceMul]
      refine WL_nil ?_
      refine WC_seq ?_
      refine WC_seq ?_
      refine WC_region ?_
      refine WL_det rfl (det_move) ?_
      dsimp only [put, List.set, ev, nth, List.nil_append, List.cons_append, md, Nat.reducePow, Nat.reduceAdd, Nat.reduceMul]
      refine WL_det rfl (Det.bv false (det_neq (q := 0) rfl rfl) (rfl)) ?_
      dsimp only [put, List.set, ev, nth, List.nil_append, List.cons_append, md, Nat.reducePow, Nat.reduceAdd, Nat.reduceMul]
      refine WL_nil ?_
      refine WC_cond_false rfl ?_
      refine WC_skip ?_
      refine WC_seq ?_
      refine WC_region ?_
      refine WL_det rfl (det_fieldAddr 0 Try.underlying26 rfl Try.sizeOf22 rfl) ?_
      dsimp only [put, List.set, ev, nth, List.nil_append, List.cons_append, md, Nat.reducePow, Nat.reduceAdd, Nat.reduceMul]
      refine WL_det rfl (det_loadMid 0 Try.underlying22 i22 rfl rfl (key_at K N C)) ?_
      dsimp only [put, List.set, ev, nth, List.nil_append, List.cons_append, md, Nat.reducePow, Nat.reduceAdd, Nat.reduceMul]
      refine WL_det rfl (det_fieldAddr 32 Try.underlying26 rfl Try.sizeOf23 rfl) ?_
      dsimp only [put, List.set, ev, nth, List.nil_append, List.cons_append, md, Nat.reducePow, Nat.reduceAdd, Nat.reduceMul]
      refine WL_det rfl (det_loadMid 0 Try.underlying23 i23 rfl rfl (nonce_at K N C)) ?_
      dsimp only [put, List.set, ev, nth, List.nil_append, List.cons_append, md, Nat.reducePow, Nat.reduceAdd, Nat.reduceMul]
      refine WL_det rfl (det_fieldAddr 44 Try.underlying26 rfl Try.sizeOf24 rfl) ?_
      dsimp only [put, List.set, ev, nth, List.nil_append, List.cons_append, md, Nat.reducePow, Nat.reduceAdd, Nat.reduceMul]
      refine WL_det rfl (det_load 0 Try.isAgg24 rfl rfl (count_at K N C)) ?_
      dsimp only [put, List.set, ev, nth, List.nil_append, List.cons_append, md, Nat.reducePow, Nat.reduceAdd, Nat.reduceMul]
      refine WL_det rfl (det_move) ?_
      dsimp only [put, List.set, ev, nth, List.nil_append, List.cons_append, md, Nat.reducePow, Nat.reduceAdd, Nat.reduceMul]
      refine WL_rel rfl (Rel_call rfl Try.call42 (fun w hw => hide_ok K N C hC n (hidb K N C f) (fun i hi => hidb_lt (hf i hi)) (by omega) (by omega) _ w (Rd.row hw 1 rfl hr27))) ?_
      rintro _ _ ⟨v43, e43, rfl, hr43, rfl⟩
      obtain ⟨ps43, cs43, rfl, hcs43⟩ := hr43.slice
      dsimp only [put, List.append_nil, List.set, ev, nth, List.nil_append, List.cons_append, md, Nat.reducePow, Nat.reduceAdd, Nat.reduceMul]
      refine WL_det rfl (det_move) ?_
      dsimp only [put, List.set, ev, nth, List.nil_append, List.cons_append, md, Nat.reducePow, Nat.reduceAdd, Nat.reduceMul]
      refine WL_det rfl (det_extract rfl rfl) ?_
      dsimp only [put, List.set, ev, nth, List.nil_append, List.cons_append, md, Nat.reducePow, Nat.reduceAdd, Nat.reduceMul]
      refine WL_det rfl (det_extract rfl rfl) ?_
      dsimp only [put, List.set, ev, nth, List.nil_append, List.cons_append, md, Nat.reducePow, Nat.reduceAdd, Nat.reduceMul]
      refine WL_det rfl (det_assign) ?_
      dsimp only [put, List.set, ev, nth, List.nil_append, List.cons_append, md, Nat.reducePow, Nat.reduceAdd, Nat.reduceMul]
      refine WL_det rfl (det_assign) ?_
      dsimp only [put, List.set, ev, nth, List.nil_append, List.cons_append, md, Nat.reducePow, Nat.reduceAdd, Nat.reduceMul]
      refine WL_nil ?_
      refine WC_seq ?_
      refine WC_region ?_
      refine WL_det rfl (det_move) ?_
      dsimp only [put, List.set, ev, nth, List.nil_append, List.cons_append, md, Nat.reducePow, Nat.reduceAdd, Nat.reduceMul]
      refine WL_det rfl (det_convi Try.underlying3 Try.underlying69 rfl (by omega)) ?_
      dsimp only [put, List.set, ev, nth, List.nil_append, List.cons_append, md, Nat.reducePow, Nat.reduceAdd, Nat.reduceMul]
      refine WL_det rfl (det_move) ?_
      dsimp only [put, List.set, ev, nth, List.nil_append, List.cons_append, md, Nat.reducePow, Nat.reduceAdd, Nat.reduceMul]
      refine WL_det rfl (det_len Try.underlying35 rfl) ?_
      dsimp only [put, List.set, ev, nth, List.nil_append, List.cons_append, md, Nat.reducePow, Nat.reduceAdd, Nat.reduceMul]
      refine WL_det rfl (det_addi (q := 1) rfl rfl (by omega)) ?_
      dsimp only [put, List.set, ev, nth, List.nil_append, List.cons_append, md, Nat.reducePow, Nat.reduceAdd, Nat.reduceMul]
      refine WL_det rfl (det_remi rfl rfl (by omega)) ?_
      dsimp only [put, List.set, ev, nth, List.nil_append, List.cons_append, md, Nat.reducePow, Nat.reduceAdd, Nat.reduceMul]
      obtain ⟨k, hk⟩ : ∃ k, k = at_ % (n + 1) := ⟨_, rfl⟩
      rw [← hk]
      have hkn : k ≤ n := by rw [hk]; exact Nat.le_of_lt_succ (Nat.mod_lt _ (by omega))
      refine WL_det rfl (det_assign) ?_
      dsimp only [put, List.set, ev, nth, List.nil_append, List.cons_append, md, Nat.reducePow, Nat.reduceAdd, Nat.reduceMul]
      refine WL_nil ?_
      refine WC_seq ?_
      refine WC_draw [[], [0], [], [2], [], [4], [], [], [6, 7], [0, 1, 2, 3, 4, 5, 6, 7, 8], [0, 1, 2, 3, 4, 5, 6, 7, 8, 9], [0, 1, 2, 3, 4, 5, 6, 7, 8, 9, 10], [0, 1, 2, 3, 4, 5, 6, 7, 8, 9, 10], [0, 1, 2, 3, 4, 5, 6, 7, 8, 9, 10, 11], [0, 1, 2, 3, 4, 5, 6, 7, 8, 9, 10, 11, 12, 13]] [] 90 [] (List.nil_sublist _) mixed rfl (by decide) ?_
      refine RW.pure rfl rfl (fun _ => rfl) (fun V hV => det_fieldAddr 0 Try.underlying26 rfl Try.sizeOf22 rfl) (fun _ _ _ => rfl) ?_
      dsimp only [put, List.set, ev, nth, List.nil_append, List.cons_append, md, Nat.reducePow, Nat.reduceAdd, Nat.reduceMul]
      refine RW.det [] rfl rfl rfl rfl (fun _ => rfl) (fun V hV => Det.rel (det_loadMid 0 Try.underlying22 i22 rfl rfl (key_at K N C))) (fun _ _ _ => rfl) ?_
      dsimp only [put, List.set, ev, nth, List.nil_append, List.cons_append, md, Nat.reducePow, Nat.reduceAdd, Nat.reduceMul]
      refine RW.pure rfl rfl (fun _ => rfl) (fun V hV => det_fieldAddr 32 Try.underlying26 rfl Try.sizeOf23 rfl) (fun _ _ _ => rfl) ?_
      dsimp only [put, List.set, ev, nth, List.nil_append, List.cons_append, md, Nat.reducePow, Nat.reduceAdd, Nat.reduceMul]
      refine RW.det [] rfl rfl rfl rfl (fun _ => rfl) (fun V hV => Det.rel (det_loadMid 0 Try.underlying23 i23 rfl rfl (nonce_at K N C))) (fun _ _ _ => rfl) ?_
      dsimp only [put, List.set, ev, nth, List.nil_append, List.cons_append, md, Nat.reducePow, Nat.reduceAdd, Nat.reduceMul]
      refine RW.pure rfl rfl (fun _ => rfl) (fun V hV => det_fieldAddr 44 Try.underlying26 rfl Try.sizeOf24 rfl) (fun _ _ _ => rfl) ?_
      dsimp only [put, List.set, ev, nth, List.nil_append, List.cons_append, md, Nat.reducePow, Nat.reduceAdd, Nat.reduceMul]
      refine RW.det [] rfl rfl rfl rfl (fun _ => rfl) (fun V hV => Det.rel (det_load 0 Try.isAgg24 rfl rfl (count_at K N C))) (fun _ _ _ => rfl) ?_
      dsimp only [put, List.set, ev, nth, List.nil_append, List.cons_append, md, Nat.reducePow, Nat.reduceAdd, Nat.reduceMul]
      refine RW.pure rfl rfl (fun _ => rfl) (fun V hV => det_move) (fun _ _ _ => rfl) ?_
      dsimp only [put, List.set, ev, nth, List.nil_append, List.cons_append, md, Nat.reducePow, Nat.reduceAdd, Nat.reduceMul]
      refine RW.pure rfl rfl (fun _ => rfl) (fun V hV => det_move) (fun _ _ _ => rfl) ?_
      dsimp only [put, List.set, ev, nth, List.nil_append, List.cons_append, md, Nat.reducePow, Nat.reduceAdd, Nat.reduceMul]
      refine RW.pure rfl rfl (fun _ => rfl) (fun V hV => det_cutTo Try.underlying35 Try.sizeOf5 rfl rfl (by omega)) (fun _ _ _ => rfl) ?_
      dsimp only [put, List.set, ev, nth, List.nil_append, List.cons_append, md, Nat.reducePow, Nat.reduceAdd, Nat.reduceMul]
      refine RW.rel' (R0 := fun _ v m => ∃ v1 e, v = .tuple #[v1, vn .i64 0] ∧ RowN .u8 5 k (hidb K N C f) v1 e ∧ m = [e]) [] rfl rfl rfl rfl (fun _ => rfl) rfl (fun V hV => Rel_call rfl Try.call42 (fun w hw => hide_ok K N C hC k f (fun i hi => hf i (by omega)) (by omega) (by omega) _ w ((ha.far hw).take hkn))) (fun _ _ _ _ _ h => h) ?_
      dsimp only [put, List.set, ev, nth, List.nil_append, List.cons_append, md, Nat.reducePow, Nat.reduceAdd, Nat.reduceMul]
      refine RW.pure rfl rfl (fun _ => rfl) (fun V hV => det_move) (fun V V' hV => by first | rfl | (dsimp only [ev, nth]; simp only [hV 9 (by decide)])) ?_
      dsimp only [put, List.set, ev, nth, List.nil_append, List.cons_append, md, Nat.reducePow, Nat.reduceAdd, Nat.reduceMul]
      refine RW.pure rfl rfl (fun _ => rfl) (fun V hV => det_extractV (by obtain ⟨v1, e1, h1, _⟩ := hV 9 (by decide) _ rfl; exact ⟨_, h1, by simp⟩)) (fun V V' hV => by first | rfl | (dsimp only [ev, nth]; simp only [hV 9 (by decide)])) ?_
      dsimp only [put, List.set, ev, nth, List.nil_append, List.cons_append, md, Nat.reducePow, Nat.reduceAdd, Nat.reduceMul]
      refine RW.pure rfl rfl (fun _ => rfl) (fun V hV => det_extractV (by obtain ⟨v1, e1, h1, _⟩ := hV 9 (by decide) _ rfl; exact ⟨_, h1, by simp⟩)) (fun V V' hV => by first | rfl | (dsimp only [ev, nth]; simp only [hV 9 (by decide)])) ?_
      dsimp only [put, List.set, ev, nth, List.nil_append, List.cons_append, md, Nat.reducePow, Nat.reduceAdd, Nat.reduceMul]
      refine RW.pure rfl rfl (fun _ => rfl) (fun V hV => det_assign) (fun V V' hV => by first | rfl | (dsimp only [ev, nth]; simp only [hV 9 (by decide)])) ?_
      dsimp only [put, List.set, ev, nth, List.nil_append, List.cons_append, md, Nat.reducePow, Nat.reduceAdd, Nat.reduceMul]
      refine RW.pure rfl rfl (fun _ => rfl) (fun V hV => det_assign) (fun V V' hV => by first | rfl | (dsimp only [ev, nth]; simp only [hV 9 (by decide)])) ?_
      dsimp only [put, List.set, ev, nth, List.nil_append, List.cons_append, md, Nat.reducePow, Nat.reduceAdd, Nat.reduceMul]
      refine RW.done (fun V => _ ++ flat [9] V) rfl rfl (fun _ => rfl) (fun V hV => ?_)
      obtain ⟨v62, e62, hv62, hr62, hq62⟩ : ∃ v1 e, (V 9).1 = .tuple #[v1, vn .i64 0] ∧ RowN .u8 5 k (hidb K N C f) v1 e ∧ (V 9).2 = [e] := hV 9 _ rfl
      simp only [hq62, hv62, tg2_0, tg2_1, flat_cons, flat_nil]
      try dsimp only [put, blk, flat_nil, List.append_nil, List.append, List.eraseIdx, List.set, ev, nth, List.nil_append, List.cons_append, md, Nat.reducePow, Nat.reduceAdd, Nat.reduceMul]
      clear hV
      refine WC_seq ?_
      refine WC_region ?_
      refine WL_det rfl (det_move) ?_
      dsimp only [put, List.set, ev, nth, List.nil_append, List.cons_append, md, Nat.reducePow, Nat.reduceAdd, Nat.reduceMul]
      refine WL_det rfl (Det.bv true (det_eql (q := 0) rfl rfl) (rfl)) ?_
      dsimp only [put, List.set, ev, nth, List.nil_append, List.cons_append, md, Nat.reducePow, Nat.reduceAdd, Nat.reduceMul]
      refine WL_det rfl (det_move) ?_
      dsimp only [put, List.set, ev, nth, List.nil_append, List.cons_append, md, Nat.reducePow, Nat.reduceAdd, Nat.reduceMul]
      refine WL_detG rfl (det_move) ?_
      dsimp only [put, List.set, ev, nth, List.nil_append, List.cons_append, md, Nat.reducePow, Nat.reduceAdd, Nat.reduceMul]
      refine WL_detG rfl (Det.bv true (det_eql (q := 0) rfl rfl) (rfl)) ?_
      dsimp only [put, List.set, ev, nth, List.nil_append, List.cons_append, md, Nat.reducePow, Nat.reduceAdd, Nat.reduceMul]
      refine WL_det rfl (det_pick_true rfl) ?_
      dsimp only [put, List.set, ev, nth, List.nil_append, List.cons_append, md, Nat.reducePow, Nat.reduceAdd, Nat.reduceMul]
      refine WL_det rfl (det_move) ?_
      dsimp only [put, List.set, ev, nth, List.nil_append, List.cons_append, md, Nat.reducePow, Nat.reduceAdd, Nat.reduceMul]
      refine WL_detG rfl (det_move) ?_
      dsimp only [put, List.set, ev, nth, List.nil_append, List.cons_append, md, Nat.reducePow, Nat.reduceAdd, Nat.reduceMul]
      refine WL_detG rfl (det_move) ?_
      dsimp only [put, List.set, ev, nth, List.nil_append, List.cons_append, md, Nat.reducePow, Nat.reduceAdd, Nat.reduceMul]
      refine WL_relG rfl (Rel_call rfl Try.call20 (fun w hw => same_true n _ _ (fun i _ => hidb_back K N C f i) hnl _ _ w (Rd.row hw 2 rfl hr43) (ha.far hw))) ?_
      rintro _ _ ⟨rfl, rfl⟩
      dsimp only [put, List.append_nil, List.set, ev, nth, List.nil_append, List.cons_append, md, Nat.reducePow, Nat.reduceAdd, Nat.reduceMul]
      refine WL_det rfl (det_pick_true rfl) ?_
      dsimp only [put, List.set, ev, nth, List.nil_append, List.cons_append, md, Nat.reducePow, Nat.reduceAdd, Nat.reduceMul]
      refine WL_det rfl (det_move) ?_
      dsimp only [put, List.set, ev, nth, List.nil_append, List.cons_append, md, Nat.reducePow, Nat.reduceAdd, Nat.reduceMul]
      refine WL_detG rfl (det_move) ?_
      dsimp only [put, List.set, ev, nth, List.nil_append, List.cons_append, md, Nat.reducePow, Nat.reduceAdd, Nat.reduceMul]
      refine WL_detG rfl (det_len Try.underlying35 rfl) ?_
      dsimp only [put, List.set, ev, nth, List.nil_append, List.cons_append, md, Nat.reducePow, Nat.reduceAdd, Nat.reduceMul]
      refine WL_detG rfl (det_move) ?_
      dsimp only [put, List.set, ev, nth, List.nil_append, List.cons_append, md, Nat.reducePow, Nat.reduceAdd, Nat.reduceMul]
      refine WL_detG rfl (det_len Try.underlying35 rfl) ?_
      dsimp only [put, List.set, ev, nth, List.nil_append, List.cons_append, md, Nat.reducePow, Nat.reduceAdd, Nat.reduceMul]
      refine WL_detG rfl (Det.bv true (det_eql rfl rfl) (decide_eq_true rfl)) ?_
      dsimp only [put, List.set, ev, nth, List.nil_append, List.cons_append, md, Nat.reducePow, Nat.reduceAdd, Nat.reduceMul]
      refine WL_det rfl (det_pick_true rfl) ?_
      dsimp only [put, List.set, ev, nth, List.nil_append, List.cons_append, md, Nat.reducePow, Nat.reduceAdd, Nat.reduceMul]
      refine WL_det rfl (det_move) ?_
      dsimp only [put, List.set, ev, nth, List.nil_append, List.cons_append, md, Nat.reducePow, Nat.reduceAdd, Nat.reduceMul]
      refine WL_detG rfl (det_move) ?_
      dsimp only [put, List.set, ev, nth, List.nil_append, List.cons_append, md, Nat.reducePow, Nat.reduceAdd, Nat.reduceMul]
      refine WL_detG rfl (det_move) ?_
      dsimp only [put, List.set, ev, nth, List.nil_append, List.cons_append, md, Nat.reducePow, Nat.reduceAdd, Nat.reduceMul]
      refine WL_detG rfl (det_move) ?_
      dsimp only [put, List.set, ev, nth, List.nil_append, List.cons_append, md, Nat.reducePow, Nat.reduceAdd, Nat.reduceMul]
      refine WL_detG rfl (det_cutTo Try.underlying35 Try.sizeOf5 rfl rfl (by omega)) ?_
      dsimp only [put, List.set, ev, nth, List.nil_append, List.cons_append, md, Nat.reducePow, Nat.reduceAdd, Nat.reduceMul]
      refine WL_relG rfl (Rel_call rfl Try.call20 (fun w hw => same_true k _ _ (fun _ _ => rfl) (Nat.le_trans hkn hnl) _ _ w (Rd.row hw 3 rfl hr62) ((Rd.row hw 1 rfl hr27).take hkn))) ?_
      rintro _ _ ⟨rfl, rfl⟩
      dsimp only [put, List.append_nil, List.set, ev, nth, List.nil_append, List.cons_append, md, Nat.reducePow, Nat.reduceAdd, Nat.reduceMul]
      refine WL_det rfl (det_pick_true rfl) ?_
      dsimp only [put, List.set, ev, nth, List.nil_append, List.cons_append, md, Nat.reducePow, Nat.reduceAdd, Nat.reduceMul]
      refine WL_det rfl (det_assign) ?_
      dsimp only [put, List.set, ev, nth, List.nil_append, List.cons_append, md, Nat.reducePow, Nat.reduceAdd, Nat.reduceMul]
      refine WL_nil ?_
      refine WC_ret ?_
      refine fin_tmp Try.results10 rfl ([]) (List.nil_sublist _) ?_
      exact ⟨rfl, rfl⟩

end Go.Proofs.Ytpmldkhgdpchjaa

set_option linter.unusedVariables false
namespace Go.Proofs.Ytpmldkhgdpchjaa
open Go.MW
set_option maxRecDepth 100000 in
theorem open_case {H : Type} {enc : TypeId × Value → H} {W : World} {b0 base : Nat} {sp : Nat → Bool} {held : Bool} {v : Value} {d : DataW H} {ps : List MemPlace}
    (hval : Value.okWide Try.prog W .any b0 26 v) (hd : DataW.Trod enc Try.prog W base sp held 26 v d ps) : ∃ K N C, K < 256 ^ 32 ∧ N < 256 ^ 12 ∧ C < 4294967296 ∧ v = .agg (caseA K N C) := by
  obtain ⟨cs, n, rfl, hsz, hfl⟩ := open_struct Try.underlying26 hval hd
  obtain ⟨x0, h0⟩ := hfl 0 22 0 rfl
  obtain ⟨x1, h1⟩ := hfl 1 23 32 rfl
  obtain ⟨x2, h2⟩ := hfl 2 24 44 rfl
  have c22 : Try.prog.cellsOf 22 = 32 := by kernel_rfl
  have c23 : Try.prog.cellsOf 23 = 12 := by kernel_rfl
  have c24 : Try.prog.cellsOf 24 = 1 := by kernel_rfl
  have c26 : Try.prog.cellsOf 26 = 45 := by kernel_rfl
  obtain ⟨K, hK, e0⟩ := open_bytesL Try.underlying22 Try.underlying5 (by kernel_rfl) c22 h0
  obtain ⟨N, hN, e1⟩ := open_bytesL Try.underlying23 Try.underlying5 (by kernel_rfl) c23 h1
  obtain ⟨C', e2, _, w2⟩ := DataW.trod_int Try.underlying24 h2
  obtain ⟨C, rfl, hC⟩ := open_unsigned w2 rfl
  refine ⟨K, N, C, hK, hN, hC, ?_⟩
  rw [c22, List.drop_zero] at e0
  rw [c23] at e1
  rw [c24] at e2
  rw [c26] at hsz
  congr 1
  apply Array.toList_inj.1
  have hl : cs.toList.length = 45 := by simpa using hsz
  have e3 : cs.toList = cs.toList.take 32 ++ ((cs.toList.drop 32).take 12 ++ (cs.toList.drop 44).take 1) := by
    rw [List.take_of_length_le (l := cs.toList.drop 44) (by simp [hl])]
    rw [show cs.toList.drop 44 = (cs.toList.drop 32).drop 12 by rw [List.drop_drop], List.take_append_drop, List.take_append_drop]
  rw [e3, e0, e1, e2]
  simp [caseA]
end Go.Proofs.Ytpmldkhgdpchjaa
