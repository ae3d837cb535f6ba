/- More of what an operation does: parts of arrays, copy, append of what a slice holds, empty literals. Conditions: none. -/
import Derived.Test.YtpmldkhgdpchjaaM5
import Derived.Laws.IdiomCopy
import Derived.Deep.MidRow
import Derived.Deep.Upon
namespace Go.MW
open Go.RowKit

def cpy (f g : Nat → Nat) (o c : Nat) : Nat → Nat := fun i => if o ≤ i ∧ i < o + c then g (i - o) else f i
theorem cpy_zero (f g : Nat → Nat) (o : Nat) : cpy f g o 0 = f := by
  funext i; unfold cpy; rw [if_neg (by omega)]

section
variable {P : Program} {w0 : World} {K : List Value → Mem → Prop} {E : Exit → List Value → Mem → Prop} {L : List Value} {m : Mem}
variable {ρ : Operand → Value} {dst : Option Tmp} {ty : TypeId} {pos : String} {after : Array Edge} {gd : Option (Nat × Bool)} {x y s : Operand} {T T' : TypeId}

/-- xs[:h] of an array -/
theorem det_arrTo {b n e h : Nat} (hu : P.underlying T = some (.array n e)) (hz : ∀ w, (sizeOf e).run P w = .ok 1 w) (hx : ρ x = .pointer (some ⟨b, 0, none⟩)) (hy : ρ y = vn .i64 h) (hh : h ≤ n) :
    Det P w0 m ρ ⟨dst, .slice T x none (some y) none, ty, pos, after, gd⟩ (.slice (some ⟨b, 0, none⟩) h n) := fun w _ => by
  have h0 : (0 : Int) ≤ (h : Int) ∧ (h : Int) ≤ (n : Int) := by omega
  by_cases h1 : n = 0
  · subst h1
    obtain rfl : h = 0 := by omega
    simp [execOp, hx, hy, Instr.sliceAt, run_underlying hu, Instr.sureAddr, Instr.sliceBounds, Instr.sliceBound, asIntOf, hz]
  · simp [execOp, hx, hy, Instr.sliceAt, run_underlying hu, Instr.sureAddr, Instr.sliceBounds, Instr.sliceBound, asIntOf, hz, h0, Addr.add_lit]
    intro h2; omega
/-- xs[l:] of an array -/
theorem det_arrFrom {b n e l : Nat} (hu : P.underlying T = some (.array n e)) (hz : ∀ w, (sizeOf e).run P w = .ok 1 w) (hx : ρ x = .pointer (some ⟨b, 0, none⟩)) (hy : ρ y = vn .i64 l) (hh : l < n) :
    Det P w0 m ρ ⟨dst, .slice T x (some y) none none, ty, pos, after, gd⟩ (.slice (some ⟨b, l, none⟩) (n - l) (n - l)) := fun w _ => by
  have h0 : (0 : Int) ≤ (l : Int) ∧ (l : Int) ≤ (n : Int) := by omega
  have h1 : ¬ n = l := by omega
  have h2 : ¬ n < l := by omega
  simp [execOp, hx, hy, Instr.sliceAt, run_underlying hu, Instr.sureAddr, Instr.sliceBounds, Instr.sliceBound, asIntOf, hz, h0, h1, h2, Addr.add_lit]
/-- [n]T(xs), its first half -/
theorem det_arrayAt {n len c e : Nat} {p : Option Addr} (hu : P.underlying T = some (.array n e)) (hx : ρ x = .slice p len c) (hn : n ≤ len) :
    Det P w0 m ρ ⟨dst, .sliceToArrayPointer T x, ty, pos, after, gd⟩ (.pointer p) := fun w _ => by
  have h : ¬ len < n := by omega
  simp [execOp, hx, Instr.arrayAt, run_underlying hu, h]
/-- .. and its second: a part of a row of one's own -/
theorem det_loadPart (i : Nat) {b o n N e : Nat} {k : IntKind} {f : Nat → Nat} {t : TypeId} {fz : Nat × Nat} (hu : P.underlying T = some (.array n e)) (hi : (P.info? T).map (·.size) = some n)
    (hx : ρ x = .pointer (some ⟨b, o, none⟩)) (hm : m[i]? = some (some b, .cells (arr k N f) t fz)) (hn : o + n ≤ N) : Det P w0 m ρ ⟨dst, .load T x, ty, pos, after, gd⟩ (.agg (arr k n fun j => f (o + j))) := fun w hw => by
  have hr : w.rangeAt b o ((List.range n).map fun j => vn k (f (o + j))) := fun j v hj => by
    obtain ⟨hlt, rfl⟩ := listRange_get (fun j => vn k (f (o + j))) hj
    simp [World.cell?, hw.at i hm, arr_get k N f (show o + j < N by omega)]
  have h := run_loadVar_mid (P := P) w b o T _ (.array n e) hr hu rfl (by rw [hi]; simp)
  have he : ((List.range n).map fun j => vn k (f (o + j))).toArray = arr k n fun j => f (o + j) := arr_ext (by simp) fun j hj => by simp [hj]
  rw [he] at h
  simp [execOp, hx, Instr.loadAt, Instr.sureAddr, h]
theorem det_loadPart0 (i : Nat) {b n N e : Nat} {k : IntKind} {f : Nat → Nat} {t : TypeId} {fz : Nat × Nat} (hu : P.underlying T = some (.array n e)) (hi : (P.info? T).map (·.size) = some n)
    (hx : ρ x = .pointer (some ⟨b, 0, none⟩)) (hm : m[i]? = some (some b, .cells (arr k N f) t fz)) (hn : n ≤ N) : Det P w0 m ρ ⟨dst, .load T x, ty, pos, after, gd⟩ (.agg (arr k n f)) := by
  have h := det_loadPart (P := P) (w0 := w0) (dst := dst) (ty := ty) (pos := pos) (after := after) (gd := gd) i hu hi hx hm (by omega)
  rwa [arr_congr (f := fun j => f (0 + j)) (g := f) fun j _ => by rw [Nat.zero_add]] at h
/-- .. of what a slice reads -/
theorem det_loadRd {b o n e : Nat} {k : IntKind} {f : Nat → Nat} (hu : P.underlying T = some (.array n e)) (hi : (P.info? T).map (·.size) = some n)
    (hx : ρ x = .pointer (some ⟨b, o, none⟩)) (hc : ∀ w, Has w0 m w → ∀ j, j < n → w.cell? ⟨b, o + j, none⟩ = some (vn k (f j))) : Det P w0 m ρ ⟨dst, .load T x, ty, pos, after, gd⟩ (.agg (arr k n f)) := fun w hw => by
  have hr : w.rangeAt b o ((List.range n).map fun j => vn k (f j)) := fun j v hj => by
    obtain ⟨hlt, rfl⟩ := listRange_get (fun j => vn k (f j)) hj
    exact hc w hw j hlt
  have h := run_loadVar_mid (P := P) w b o T _ (.array n e) hr hu rfl (by rw [hi]; simp)
  have he : ((List.range n).map fun j => vn k (f j)).toArray = arr k n f := arr_ext (by simp) fun j hj => by simp [hj]
  rw [he] at h
  simp [execOp, hx, Instr.loadAt, Instr.sureAddr, h]

theorem rel_lit0 {e : TypeId} (hu : P.underlying T = some (.slice e)) (hs : ∀ w, (sizeOf e).run P w = .ok 1 w) :
    Rel P w0 m ρ ⟨dst, .buildSlice T 0 #[], ty, pos, after, gd⟩ (IsSl 0 #[] e) := by
  intro w _
  have h : (execOp ρ ⟨dst, .buildSlice T 0 #[], ty, pos, after, gd⟩).run P w = .ok (.value (.slice (some ⟨w.heap.size, 0, none⟩) 0 0)) (w.alloc (.cells #[] e (0, 0))) := by
    simp [execOp, Instr.buildSlice, run_underlying hu, hs, Instr.fill, newRow]
    rw [show Array.map (fun _ => (default : Value)) (Array.range 0) = #[] from by simp [Array.range]]
  unfold Runs
  rw [h]
  exact ⟨_, ⟨_, rfl, rfl⟩, Has.alloc w _⟩
theorem arr0 (k : IntKind) (f : Nat → Nat) : arr k 0 f = #[] := by simp [arr]

/-- copy, into a row of one's own -/
theorem chg_copy (i : Nat) {b o N dLen dCap q : Nat} {e : TypeId} {k : IntKind} {f g : Nat → Nat} {t : TypeId} {vy : Value} (hu : P.underlying T = some (.slice e)) (hs : (P.info? e).map (·.size) = some 1)
    (hx : ρ x = .slice (some ⟨b, o, none⟩) dLen dCap) (hm : m[i]? = some (some b, .cells (arr k N f) t (0, 0))) (ho : o + dLen ≤ N) (hy : ρ y = vy) (hsrc : ∀ w, Has w0 m w → Rd w k q g vy) :
    Chg P w0 m ρ ⟨dst, .call { callee := .builtin .copy, args := #[x, y], argTypes := #[T, T'] }, ty, pos, after, gd⟩ (fun v m' => v = vn .i64 (min q dLen) ∧ m' = m.set i (some b, .cells (arr k N (cpy f g o (min q dLen))) t (0, 0))) := by
  intro w hw
  obtain ⟨p, c', b', o', hv, hp, hc⟩ := hsrc w hw
  have hb := hw.at i hm
  have fin : ∀ w', (Builtin.copy_ #[T, T'] ty #[.slice (some ⟨b, o, none⟩) dLen dCap, .slice p q c']).run P w = .ok (goInt (Int.ofNat (min q dLen))) w' → Has w0 (m.set i (some b, .cells (arr k N (cpy f g o (min q dLen))) t (0, 0))) w' →
      Runs P ⟨dst, .call { callee := .builtin .copy, args := #[x, y], argTypes := #[T, T'] }, ty, pos, after, gd⟩ ρ w (fun v w' => ∃ m', (v = vn .i64 (min q dLen) ∧ m' = m.set i (some b, .cells (arr k N (cpy f g o (min q dLen))) t (0, 0))) ∧ Has w0 m' w') := by
    intro w' hrun hh
    have he : (execOp ρ ⟨dst, .call { callee := .builtin .copy, args := #[x, y], argTypes := #[T, T'] }, ty, pos, after, gd⟩).run P w = .ok (.value (goInt (Int.ofNat (min q dLen)))) w' := by
      simp [execOp, resolve, invoke, builtin, hx, hy, hv, hrun]
    unfold Runs
    rw [he]
    exact ⟨_, ⟨rfl, rfl⟩, hh⟩
  by_cases h0 : min q dLen = 0
  · have hrun := run_copy_none (P := P) w T T' ty e (some ⟨b, o, none⟩) p dLen dCap q c' hu hs h0
    refine fin w (by rw [hrun, h0]; rfl) ?_
    rw [h0, cpy_zero]
    have : m.set i (some b, Obj.cells (arr k N f) t (0, 0)) = m := by
      obtain ⟨hlt, hget⟩ := List.getElem?_eq_some_iff.1 hm
      rw [← hget]; exact List.set_getElem_self hlt
    rw [this]; exact hw
  · have hq : 0 < q := by omega
    obtain rfl := hp hq
    obtain ⟨cs, hcs⟩ : ∃ cs : List Value, cs = (List.range (min q dLen)).map fun j => vn k (g j) := ⟨_, rfl⟩
    have hlen : cs.length = min q dLen := by rw [hcs]; simp
    have hl := run_loadCells_list (P := P) w ⟨b', o', none⟩ cs (fun j v hj => by
      rw [hcs] at hj
      obtain ⟨hlt, rfl⟩ := listRange_get (fun j => vn k (g j)) hj
      rw [Addr.add_lit]; exact hc j (by omega))
    have hst := run_storeCells_at P b o t cs 0 (arr k N f) w hb (by rw [arr_size]; omega) (fun v hv => by
      rw [hcs] at hv
      obtain ⟨j, _, rfl⟩ := List.mem_map.1 hv
      rfl)
    refine fin (w.setRow b ((arr k N f).toList.take (o + 0) ++ cs ++ (arr k N f).toList.drop (o + 0 + cs.length)).toArray) ?_ ?_
    · cases hi : P.info? e with
      | none => simp [hi] at hs
      | some inf =>
        have his : inf.size = 1 := by simpa [hi] using hs
        have hn2 : Nat.min q dLen = cs.length := hlen.symm
        simp only [Nat.add_zero] at hst
        rw [← hlen]
        simp [Builtin.copy_, run_underlying hu, Builtin.lenOf, Builtin.firstCells, sizeOf, typeInfo, hi, his, hn2, hl, hst]
    · have he : ((arr k N f).toList.take (o + 0) ++ cs ++ (arr k N f).toList.drop (o + 0 + cs.length)).toArray = arr k N (cpy f g o (min q dLen)) := by
        refine arr_ext ?_ fun j hj => ?_
        · simp [arr_size, hlen]; omega
        · simp only [Nat.add_zero, List.getElem?_toArray, hlen]
          unfold cpy
          by_cases h1 : j < o
          · rw [List.append_assoc, List.getElem?_append_left (by simp [arr_size]; omega), if_neg (by omega)]
            simp [h1, arr_get k N f hj]
          · by_cases h2 : j < o + min q dLen
            · rw [List.getElem?_append_left (by simp [arr_size, hlen]; omega), List.getElem?_append_right (by simp [arr_size]; omega), if_pos ⟨by omega, h2⟩, hcs]
              simp [arr_size, show min o N = o by omega, show j - o < min q dLen by omega]
            · rw [List.getElem?_append_right (by simp [arr_size, hlen]; omega), if_neg (by omega)]
              simp [arr_size, hlen, show min o N = o by omega]
              rw [show o + min q dLen + (j - (o + min q dLen)) = j by omega]
              exact arr_get k N f hj
      rw [he]
      exact hw.setRow i hm _

/-- append of what a slice reads -/
theorem chg_appendRd (i : Nat) {e : Option Nat × Obj} {t : TypeId} {n q bytes : Nat} {k : IntKind} {f g : Nat → Nat} {v z vx : Value} (hm : m[i]? = some e) (hr : RowN k t n f v e) (hs : ρ s = v) (hx : ρ x = vx) (hsrc : ∀ w, Has w0 m w → Rd w k q g vx)
    (hu : P.underlying T = some (.slice t)) (hi : (P.info? t).map (fun i => (i.zero, i.size, i.bytes)) = some (some z, 1, bytes)) (hz : z.cells.size = 1) (hbound : n + q ≤ 1099511627776) (hby : bytes ≤ 64) :
    Chg P w0 m ρ ⟨dst, .call { callee := .builtin .append, args := #[s, x], argTypes := #[T, T] }, ty, pos, after, gd⟩ (fun v' m' => ∃ e', RowN k t (n + q) (catV f n g) v' e' ∧ m' = m.set i e') := by
  intro w hw
  obtain ⟨p, c', b', o', rfl, hp, hc⟩ := hsrc w hw
  by_cases h0 : q = 0
  · subst h0
    obtain ⟨inf, hi', hz0, hz1, hz2⟩ := info_parts hi
    obtain ⟨p0, n0, c0, hv, hle⟩ : ∃ p0 n0 c0, v = .slice p0 n0 c0 ∧ n0 ≤ c0 := by
      rcases hr with ⟨rfl, _, _⟩ | ⟨b, c, cur, rfl, _, h1, _⟩
      · exact ⟨_, _, _, rfl, Nat.le_refl _⟩
      · exact ⟨_, _, _, rfl, h1⟩
    have hl : ∀ (x : Addr) (w : World), (loadCells x 0).run P w = .ok #[] w := fun x w => by simpa using run_loadCells_list (P := P) w x [] (by simp)
    have hrun := run_append_nothing (P := P) w T T ty t inf hu hi' p0 n0 c0 hle (.slice p 0 c') ⟨.inl ⟨_, hu⟩, fun w' => by simp [Builtin.lenOf], by cases p <;> simp [Builtin.firstCells, hl], by cases p <;> simp [Builtin.firstCells, hl], by simp, by simp⟩
    have he : (execOp ρ ⟨dst, .call { callee := .builtin .append, args := #[s, x], argTypes := #[T, T] }, ty, pos, after, gd⟩).run P w = .ok (.value v) w := by
      subst hv
      simp [execOp, resolve, invoke, builtin, hs, hx, hrun]
    unfold Runs
    rw [he]
    refine ⟨_, ⟨e, hr.congr fun i hi => by simp [catV, hi], rfl⟩, ?_⟩
    have : m.set i e = m := by
      obtain ⟨hlt, hget⟩ := List.getElem?_eq_some_iff.1 hm
      rw [← hget]; exact List.set_getElem_self hlt
    rw [this]; exact hw
  · obtain rfl := hp (by omega)
    have h := chg_append (ρ := ρ) (dst := dst) (ty := ty) (pos := pos) (after := after) (gd := gd) (T := T) (s := s) (x := x) (g' := fun i => vn k (g i)) i hm hr hs hx (by omega) (fun w hw j hj => by
      obtain ⟨p2, c2, b2, o2, hv2, hp2, hc2⟩ := hsrc w hw
      simp only [Value.slice.injEq] at hv2
      have h3 := hp2 (by omega)
      rw [← hv2.1] at h3
      simp only [Option.some.injEq, Addr.mk.injEq] at h3
      rw [h3.1, h3.2.1]
      exact hc2 j hj) (fun _ _ => rfl) hu hi hz hbound hby w hw
    refine Runs_mono h ?_
    rintro v' w' ⟨m', ⟨e', h1, rfl⟩, h2⟩
    exact ⟨_, ⟨e', RowV.congr h1 fun i hi => by unfold catV; split <;> rfl, rfl⟩, h2⟩

theorem det_min {k : IntKind} {p q : Nat} {ats : Array TypeId} (hx : ρ x = vn k p) (hy : ρ y = vn k q) :
    Det P w0 m ρ ⟨dst, .call { callee := .builtin .min, args := #[x, y], argTypes := ats }, ty, pos, after, gd⟩ (vn k (min p q)) := fun w _ => by
  by_cases h : p ≤ q
  · have h2 : ¬ (q : Int) < (p : Int) := by omega
    simp [execOp, resolve, invoke, builtin, hx, hy, Builtin.min_, Builtin.min2, h2, Nat.min_eq_left h]
    try omega
  · have h2 : (q : Int) < (p : Int) := by omega
    simp [execOp, resolve, invoke, builtin, hx, hy, Builtin.min_, Builtin.min2, h2, Nat.min_eq_right (Nat.le_of_lt (Nat.lt_of_not_le h))]
    try omega
end

theorem RowN.empty (k : IntKind) (t : TypeId) (f : Nat → Nat) (b : Nat) : RowN k t 0 f (.slice (some ⟨b, 0, none⟩) 0 0) (some b, .cells #[] t (0, 0)) :=
  .inr ⟨b, 0, #[], rfl, rfl, Nat.le_refl _, Nat.zero_le _, rfl, fun i hi => by omega⟩
/-- One piece more of what is put together. -/
theorem RowN.more {k : IntKind} {t : TypeId} {n q : Nat} {f g : Nat → Nat} {v : Value} {e : Option Nat × Obj} (h : RowN k t (n + q) (catV f n g) v e) (hg : ∀ j, j < q → f (n + j) = g j) : RowN k t (n + q) f v e :=
  RowN.congr h fun i hi => by
    unfold catV
    split
    · rfl
    · rw [← hg (i - n) (by omega), show n + (i - n) = i by omega]

/-- A slice that reads n integers of a row of one's own. -/
def SubN (k : IntKind) (t : TypeId) (n : Nat) (f : Nat → Nat) (v : Value) (e : Option Nat × Obj) : Prop :=
  ∃ p c b o cur, v = .slice p n c ∧ n ≤ c ∧ (0 < n → p = some ⟨b, o, none⟩ ∧ e = (some b, .cells cur t (0, 0)) ∧ ∀ i, i < n → cur[o + i]? = some (vn k (f i)))
theorem SubN.ofRow {k : IntKind} {t : TypeId} {n : Nat} {f : Nat → Nat} {v : Value} {e : Option Nat × Obj} (h : RowN k t n f v e) : SubN k t n f v e := by
  rcases h with ⟨rfl, rfl, _⟩ | ⟨b, c, cur, rfl, rfl, h1, _, _, h4⟩
  · exact ⟨none, 0, 0, 0, #[], rfl, Nat.le_refl _, fun h => by omega⟩
  · exact ⟨_, c, b, 0, cur, rfl, h1, fun _ => ⟨rfl, rfl, fun i hi => by rw [Nat.zero_add]; exact h4 i hi⟩⟩
theorem SubN.congr {k : IntKind} {t : TypeId} {n : Nat} {f f' : Nat → Nat} {v : Value} {e : Option Nat × Obj} (h : SubN k t n f v e) (hf : ∀ i, i < n → f i = f' i) : SubN k t n f' v e := by
  obtain ⟨p, c, b, o, cur, h1, h2, h3⟩ := h
  exact ⟨p, c, b, o, cur, h1, h2, fun hn => ⟨(h3 hn).1, (h3 hn).2.1, fun i hi => by rw [(h3 hn).2.2 i hi, hf i hi]⟩⟩
theorem SubN.rd {w0 w : World} {m : Mem} (hw : Has w0 m w) (i : Nat) {e : Option Nat × Obj} (hm : m[i]? = some e) {k : IntKind} {t : TypeId} {n : Nat} {f : Nat → Nat} {v : Value} (h : SubN k t n f v e) : Rd w k n f v := by
  obtain ⟨p, c, b, o, cur, rfl, _, h3⟩ := h
  refine ⟨p, c, b, o, rfl, fun hn => (h3 hn).1, fun j hj => ?_⟩
  obtain ⟨_, rfl, h5⟩ := h3 (by omega)
  simp [World.cell?, hw.at i hm, h5 j hj]
theorem SubN.take {k : IntKind} {t : TypeId} {n h c : Nat} {f : Nat → Nat} {p : Option Addr} {e : Option Nat × Obj} (hs : SubN k t n f (.slice p n c) e) (hh : h ≤ n) : SubN k t h f (.slice p h c) e := by
  obtain ⟨p', c', b, o, cur, h1, h2, h3⟩ := hs
  simp only [Value.slice.injEq] at h1
  obtain ⟨rfl, _, rfl⟩ := h1
  exact ⟨_, _, b, o, cur, rfl, by omega, fun hn => ⟨(h3 (by omega)).1, (h3 (by omega)).2.1, fun i hi => (h3 (by omega)).2.2 i (by omega)⟩⟩
theorem SubN.drop {k : IntKind} {t : TypeId} {n l c : Nat} {f : Nat → Nat} {p : Option Addr} {e : Option Nat × Obj} (hs : SubN k t n f (.slice p n c) e) (hl : l ≤ n) : SubN k t (n - l) (fun i => f (l + i)) (.slice (if c = l then p else p.map (·.add l)) (n - l) (c - l)) e := by
  obtain ⟨p', c', b, o, cur, h1, h2, h3⟩ := hs
  simp only [Value.slice.injEq] at h1
  obtain ⟨rfl, _, rfl⟩ := h1
  refine ⟨_, _, b, o + l, cur, rfl, by omega, fun hn => ?_⟩
  obtain ⟨rfl, rfl, h6⟩ := h3 (by omega)
  have hc : ¬ c = l := by omega
  rw [if_neg hc]
  refine ⟨by simp [Addr.add_lit], rfl, fun i hi => ?_⟩
  rw [Nat.add_assoc]
  exact h6 (l + i) (by omega)
end Go.MW
