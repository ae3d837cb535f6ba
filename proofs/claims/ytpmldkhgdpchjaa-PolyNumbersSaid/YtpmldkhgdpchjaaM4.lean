/- Slices that a call makes itself: make, literals, append, cutting. Conditions: none. -/
import Derived.Test.YtpmldkhgdpchjaaM3
namespace Go.MW
open Go.RowKit

/-- A slice value with n elements at the head of a block of one's own; or nil. -/
def RowV (t : TypeId) (n : Nat) (g : Nat → Value) (v : Value) (e : Option Nat × Obj) : Prop :=
  (v = .slice none 0 0 ∧ n = 0 ∧ e.1 = none) ∨
  ∃ b c cur, v = .slice (some ⟨b, 0, none⟩) n c ∧ e = (some b, .cells cur t (0, 0)) ∧ n ≤ c ∧ c ≤ maxLen ∧ cur.size = c ∧ ∀ i, i < n → cur[i]? = some (g i)
abbrev RowN (k : IntKind) (t : TypeId) (n : Nat) (f : Nat → Nat) (v : Value) (e : Option Nat × Obj) : Prop := RowV t n (fun i => vn k (f i)) v e

def catV {α : Type} (f : Nat → α) (n : Nat) (g : Nat → α) : Nat → α := fun i => if i < n then f i else g (i - n)

theorem RowV.nil (t : TypeId) (g : Nat → Value) (o : Obj) : RowV t 0 g (.slice none 0 0) (none, o) := .inl ⟨rfl, rfl, rfl⟩
theorem RowV.pos {t : TypeId} {n : Nat} {g : Nat → Value} {v : Value} {e : Option Nat × Obj} (h : RowV t n g v e) (hn : 0 < n) :
    ∃ b c cur, v = .slice (some ⟨b, 0, none⟩) n c ∧ e = (some b, .cells cur t (0, 0)) ∧ n ≤ c ∧ c ≤ maxLen ∧ cur.size = c ∧ ∀ i, i < n → cur[i]? = some (g i) := by
  rcases h with ⟨_, h0, _⟩ | h
  · omega
  · exact h
theorem RowV.congr {t : TypeId} {n : Nat} {g g' : Nat → Value} {v : Value} {e : Option Nat × Obj} (h : RowV t n g v e) (hg : ∀ i, i < n → g i = g' i) : RowV t n g' v e := by
  rcases h with h | ⟨b, c, cur, h1, h2, h3, h4, h5, h6⟩
  · exact .inl h
  · exact .inr ⟨b, c, cur, h1, h2, h3, h4, h5, fun i hi => by rw [h6 i hi, hg i hi]⟩
theorem RowN.congr {k : IntKind} {t : TypeId} {n : Nat} {f f' : Nat → Nat} {v : Value} {e : Option Nat × Obj} (h : RowN k t n f v e) (hf : ∀ i, i < n → f i = f' i) : RowN k t n f' v e :=
  RowV.congr h fun i hi => by rw [hf i hi]
theorem RowN.ofArr {k : IntKind} {t : TypeId} {n : Nat} {f : Nat → Nat} {b : Nat} (hn : n ≤ maxLen) : RowN k t n f (.slice (some ⟨b, 0, none⟩) n n) (some b, .cells (arr k n f) t (0, 0)) :=
  .inr ⟨b, n, arr k n f, rfl, rfl, Nat.le_refl _, hn, arr_size _ _ _, fun _ hi => arr_get k n f hi⟩

/-- A slice value reads as n integers. -/
def Rd (w : World) (k : IntKind) (n : Nat) (f : Nat → Nat) (v : Value) : Prop := ∃ p c b o, v = .slice p n c ∧ (0 < n → p = some ⟨b, o, none⟩) ∧ ∀ i, i < n → w.cell? ⟨b, o + i, none⟩ = some (vn k (f i))
theorem Rd.far {w0 w : World} {m : Mem} (hw : Has w0 m w) {k : IntKind} {n : Nat} {f : Nat → Nat} {v : Value} (h : Rd w0 k n f v) : Rd w k n f v := by
  obtain ⟨p, c, b, o, h1, h2, h3⟩ := h
  exact ⟨p, c, b, o, h1, h2, fun i hi => hw.far (h3 i hi)⟩
theorem Rd.row {w0 w : World} {m : Mem} (hw : Has w0 m w) (i : Nat) {e : Option Nat × Obj} (hm : m[i]? = some e) {k : IntKind} {t : TypeId} {n : Nat} {f : Nat → Nat} {v : Value} (h : RowN k t n f v e) : Rd w k n f v := by
  rcases h with ⟨rfl, rfl, _⟩ | ⟨b, c, cur, rfl, rfl, _, _, _, h6⟩
  · exact ⟨none, 0, 0, 0, rfl, fun h => by omega, fun j hj => by omega⟩
  · exact ⟨_, c, b, 0, rfl, fun _ => rfl, fun j hj => by rw [Nat.zero_add]; simp [World.cell?, hw.at i hm, h6 j hj]⟩
theorem Rd.arr {w0 w : World} {m : Mem} (hw : Has w0 m w) (i : Nat) {b : Nat} {k : IntKind} {n n' : Nat} {f : Nat → Nat} {t : TypeId} {fz : Nat × Nat} {c : Nat} (hm : m[i]? = some (some b, .cells (arr k n f) t fz)) (hn : n' ≤ n) : Rd w k n' f (.slice (some ⟨b, 0, none⟩) n' c) :=
  ⟨_, c, b, 0, rfl, fun _ => rfl, fun j hj => hw.cellA i hm j (by omega)⟩
theorem Rd.cells {w0 w : World} {m : Mem} (hw : Has w0 m w) (i : Nat) {b : Nat} {k : IntKind} {n o : Nat} {f : Nat → Nat} {cur : Array Value} {t : TypeId} {fz : Nat × Nat} {c : Nat} (hm : m[i]? = some (some b, .cells cur t fz)) (hc : ∀ j, j < n → cur[o + j]? = some (vn k (f j))) : Rd w k n f (.slice (some ⟨b, o, none⟩) n c) :=
  ⟨_, c, b, o, rfl, fun _ => rfl, fun j hj => by simp [World.cell?, hw.at i hm, hc j hj]⟩
theorem Rd.nil (w : World) (k : IntKind) (f : Nat → Nat) : Rd w k 0 f (.slice none 0 0) := ⟨none, 0, 0, 0, rfl, fun h => by omega, fun j hj => by omega⟩
theorem Rd.zero (w : World) (k : IntKind) (f : Nat → Nat) (p : Option Addr) (c : Nat) : Rd w k 0 f (.slice p 0 c) := ⟨p, c, 0, 0, rfl, fun h => by omega, fun j hj => by omega⟩
theorem Rd.take {w : World} {k : IntKind} {n c l : Nat} {f : Nat → Nat} {p : Option Addr} (h : Rd w k n f (.slice p n c)) (hl : l ≤ n) : Rd w k l f (.slice p l c) := by
  obtain ⟨p', c', b, o, h1, h2, h3⟩ := h
  simp only [Value.slice.injEq] at h1
  obtain ⟨rfl, _, rfl⟩ := h1
  exact ⟨_, _, b, o, rfl, fun hn => h2 (by omega), fun i hi => h3 i (by omega)⟩
theorem Rd.drop {w : World} {k : IntKind} {n c l : Nat} {f : Nat → Nat} {p : Option Addr} (h : Rd w k n f (.slice p n c)) (hl : l ≤ n) (hc : n ≤ c) : Rd w k (n - l) (fun i => f (l + i)) (.slice (if c = l then p else p.map (·.add l)) (n - l) (c - l)) := by
  obtain ⟨p', c', b, o, h1, h2, h3⟩ := h
  simp only [Value.slice.injEq] at h1
  obtain ⟨rfl, _, rfl⟩ := h1
  refine ⟨_, _, b, o + l, rfl, fun hn => ?_, fun i hi => by rw [Nat.add_assoc]; exact h3 (l + i) (by omega)⟩
  rw [if_neg (by omega), h2 (by omega)]
  simp [Addr.add_lit]
theorem Rd.congr {w : World} {k : IntKind} {n : Nat} {f f' : Nat → Nat} {v : Value} (h : Rd w k n f v) (hf : ∀ i, i < n → f i = f' i) : Rd w k n f' v := by
  obtain ⟨p, c, b, o, h1, h2, h3⟩ := h
  exact ⟨p, c, b, o, h1, h2, fun i hi => by rw [h3 i hi, hf i hi]⟩

section
variable {P : Program} {w0 : World} {K : List Value → Mem → Prop} {E : Exit → List Value → Mem → Prop} {L : List Value} {m : Mem}

theorem WL.forget {ops : Array Oper} {l : List Oper} {m' : Mem} (hs : m'.Sublist m) (h : WL P w0 ops K E l L m') : WL P w0 ops K E l L m := fun w hw => h w (hw.sub hs)
/-- A place for a block to come. -/
theorem Has.addNone {w : World} (hw : Has w0 m w) (o : Obj) : Has w0 (m ++ [(none, o)]) w :=
  ⟨hw.below, fun b o' h => by
    rcases List.mem_append.1 h with h | h
    · exact hw.blk b o' h
    · simp at h, by rw [List.filterMap_append]; simpa using hw.nodup⟩
theorem WC.addNone {c : Code} (o : Obj) (h : WC P w0 c K E L (m ++ [(none, o)])) : WC P w0 c K E L m := fun w hw => h w (hw.addNone o)
theorem WL.addNone {ops : Array Oper} {l : List Oper} (o : Obj) (h : WL P w0 ops K E l L (m ++ [(none, o)])) : WL P w0 ops K E l L m := fun w hw => h w (hw.addNone o)

variable {ρ : Operand → Value} {dst : Option Tmp} {ty : TypeId} {pos : String} {after : Array Edge} {gd : Option (Nat × Bool)} {x y s : Operand} {T : TypeId}

/-- What a slice in a new block is. -/
def IsSl (n : Nat) (c : Array Value) (t : TypeId) (v : Value) (mi : Mem) : Prop := ∃ b, v = .slice (some ⟨b, 0, none⟩) n n ∧ mi = [(some b, .cells c t (0, 0))]
def blkS : Value → Nat
  | .slice (some a) _ _ => a.block
  | _ => 0
theorem IsSl.ptr {n : Nat} {c : Array Value} {t : TypeId} {v : Value} {mi : Mem} (h : IsSl n c t v mi) : v = .slice (some ⟨blkS v, 0, none⟩) n n := by obtain ⟨b, rfl, _⟩ := h; rfl
theorem IsSl.mem {n : Nat} {c : Array Value} {t : TypeId} {v : Value} {mi : Mem} (h : IsSl n c t v mi) : mi = [(some (blkS v), .cells c t (0, 0))] := by obtain ⟨b, rfl, rfl⟩ := h; rfl

theorem madeCells_one (k : IntKind) (z : Array Value) (hz : z = #[vn k 0]) (n : Nat) : madeCells z n = arr k n fun _ => 0 := by
  subst hz
  exact arr_ext (size_madeCells _ _) fun i hi => by simp [madeCells, hi, Nat.mod_one]
theorem rel_make {k : IntKind} {e : TypeId} {bytes : Nat} {n : Nat} (hu : P.underlying T = some (.slice e)) (hi : (P.info? e).map (fun i => (i.zero, i.size, i.bytes)) = some (some (vn k 0), 1, bytes)) (hx : ρ x = vn .i64 n) (hy : ρ y = vn .i64 n) (hb : bytes * n ≤ 281474976710656) (hn : n ≤ maxLen) :
    Rel P w0 m ρ ⟨dst, .makeSlice T x y, ty, pos, after, gd⟩ (IsSl n (arr k n fun _ => 0) e) := by
  intro w _
  obtain ⟨i, hi, hz0, hz1, hz2⟩ := info_parts hi
  have hr := run_make (P := P) w T e i _ hu hi hz0 .i64 .i64 (n : Int) (n : Int) (by omega) (Int.le_refl _) (by rw [hz2, ← Int.natCast_mul]; omega) (by simp only [maxLen] at hn; omega)
  have h : (execOp ρ ⟨dst, .makeSlice T x y, ty, pos, after, gd⟩).run P w = .ok (.value (.slice (some ⟨w.heap.size, 0, none⟩) n n)) (w.alloc (.cells (arr k n fun _ => 0) e (0, 0))) := by
    rw [hz1] at hr
    simp only [Int.toNat_natCast, Nat.mul_one] at hr
    rw [madeCells_one k (vn k 0).cells rfl] at hr
    simp [execOp, hx, hy, hr]
  unfold Runs
  rw [h]
  exact ⟨_, ⟨_, rfl, rfl⟩, Has.alloc w _⟩

theorem rel_lit1 {e : TypeId} {z v : Value} (hu : P.underlying T = some (.slice e)) (hz : ∀ w, (zeroValue e).run P w = .ok z w) (hs : ∀ w, (sizeOf e).run P w = .ok 1 w) (hx : ρ x = v) (hv : v.oneCell' = true) :
    Rel P w0 m ρ ⟨dst, .buildSlice T 1 #[(0, x)], ty, pos, after, gd⟩ (IsSl 1 #[v] e) := by
  intro w _
  subst hx
  have hc1 : (ρ x).cells = #[ρ x] := by cases h : ρ x <;> first | rfl | (rw [h] at hv; simp [Value.oneCell'] at hv)
  have h : (execOp ρ ⟨dst, .buildSlice T 1 #[(0, x)], ty, pos, after, gd⟩).run P w = .ok (.value (.slice (some ⟨w.heap.size, 0, none⟩) 1 1)) (w.alloc (.cells #[ρ x] e (0, 0))) := by
    simp [execOp, Instr.buildSlice, run_underlying hu, hs, hz, Instr.fill, hc1, newRow, Array.range_succ, Array.range_zero']
  unfold Runs
  rw [h]
  exact ⟨_, ⟨_, rfl, rfl⟩, Has.alloc w _⟩
theorem arr1 (k : IntKind) (p : Nat) : (#[vn k p] : Array Value) = arr k 1 fun _ => p := rfl

/-! append -/
theorem Has.newBlk {w w' : World} (hw : Has w0 m w) (i : Nat) {e : Option Nat × Obj} (hm : m[i]? = some e) (hb : Below w.heap.size w w') {b : Nat} {o : Obj} (hle : w.heap.size ≤ b) (ho : w'.heap[b]? = some o) : Has w0 (m.set i (some b, o)) w' := by
  refine ⟨hw.below.trans (hb.mono hw.below.size), ?_, ?_⟩
  · intro c x hc
    obtain ⟨j, hj⟩ := List.mem_iff_getElem?.1 hc
    by_cases hij : i = j
    · subst hij
      have hlt : i < m.length := (List.getElem?_eq_some_iff.1 hm).1
      rw [List.getElem?_set_self hlt] at hj
      simp only [Option.some.injEq, Prod.mk.injEq] at hj
      obtain ⟨rfl, rfl⟩ := hj
      exact ⟨Nat.le_trans hw.below.size hle, ho⟩
    · rw [List.getElem?_set_ne hij] at hj
      obtain ⟨h1, h2⟩ := hw.blk c x (List.mem_of_getElem? hj)
      exact ⟨h1, (hb.block c (lt_of_heap h2)).trans h2⟩
  · have key : ∀ (m : Mem) (i : Nat), (m.filterMap Prod.fst).Nodup → (∀ c, c ∈ m.filterMap Prod.fst → c < b) → ((m.set i (some b, o)).filterMap Prod.fst).Nodup := by
      intro m
      induction m with
      | nil => intro i _ _; simp
      | cons x m ih =>
        intro i hn hlt
        have hn' : (m.filterMap Prod.fst).Nodup := by
          rw [List.filterMap_cons] at hn
          cases hf : x.1 with
          | none => rw [hf] at hn; exact hn
          | some k => rw [hf] at hn; exact (List.nodup_cons.1 hn).2
        have hlt' : ∀ c, c ∈ m.filterMap Prod.fst → c < b := fun c hc => hlt c (by
          obtain ⟨o', ho'⟩ := mem_keys.1 hc
          exact mem_keys.2 ⟨o', by simp [ho']⟩)
        cases i with
        | zero =>
          rw [List.set_cons_zero, List.filterMap_cons]
          exact List.nodup_cons.2 ⟨fun h => by have := hlt' b h; omega, hn'⟩
        | succ i =>
          rw [List.set_cons_succ, List.filterMap_cons]
          cases hf : x.1 with
          | none => exact ih i hn' hlt'
          | some k =>
            refine List.nodup_cons.2 ⟨fun h => ?_, ih i hn' hlt'⟩
            obtain ⟨o', ho'⟩ := mem_keys.1 h
            rcases List.mem_or_eq_of_mem_set ho' with h2 | h2
            · rw [List.filterMap_cons, hf] at hn
              exact (List.nodup_cons.1 hn).1 (mem_keys.2 ⟨o', h2⟩)
            · simp only [Prod.mk.injEq, Option.some.injEq] at h2
              have := hlt k (mem_keys.2 ⟨x.2, by rw [← hf]; simp⟩)
              omega
    exact key m i hw.nodup fun c hc => by
      obtain ⟨o', ho'⟩ := mem_keys.1 hc
      have := lt_of_heap (hw.blk c o' ho').2
      omega

theorem listRange_get {α : Type} (g : Nat → α) {n j : Nat} {u : α} (h : ((List.range n).map g)[j]? = some u) : j < n ∧ u = g j := by
  by_cases hj : j < n
  · simp [hj] at h; exact ⟨hj, h.symm⟩
  · simp [hj] at h

theorem chg_append (i : Nat) {e : Option Nat × Obj} {t : TypeId} {n q c' b' o' bytes : Nat} {g g' : Nat → Value} {v z : Value} (hm : m[i]? = some e) (hr : RowV t n g v e) (hs : ρ s = v) (hx : ρ x = .slice (some ⟨b', o', none⟩) q c') (hq : 0 < q)
    (hc : ∀ w, Has w0 m w → ∀ j, j < q → w.cell? ⟨b', o' + j, none⟩ = some (g' j)) (h1 : ∀ j, j < q → (g' j).oneCell' = true)
    (hu : P.underlying T = some (.slice t)) (hi : (P.info? t).map (fun i => (i.zero, i.size, i.bytes)) = some (some z, 1, bytes)) (hz : z.cells.size = 1) (hbound : n + q ≤ 1099511627776) (hby : bytes ≤ 64) :
    Chg P w0 m ρ ⟨dst, .call { callee := .builtin .append, args := #[s, x], argTypes := #[T, T] }, ty, pos, after, gd⟩ (fun v' m' => ∃ e', RowV t (n + q) (catV g n g') v' e' ∧ m' = m.set i e') := by
  intro w hw
  obtain ⟨inf, hi, hz0, hz1, hz2⟩ := info_parts hi
  have hml : ((List.range q).map g').length = q * inf.size := by rw [hz1]; simp
  have hnews : ∀ j u, ((List.range q).map g')[j]? = some u → w.cell? ((⟨b', o', none⟩ : Addr).add j) = some u := by
    intro j u hj
    obtain ⟨hlt, rfl⟩ := listRange_get g' hj
    rw [Addr.add_lit]; exact hc w hw j hlt
  have hbb : (n + q) * inf.bytes ≤ 140737488355328 := by
    rw [hz2]
    have := Nat.mul_le_mul hbound hby
    omega
  have fin : ∀ (v' : Value) (w' : World), (Builtin.append_ #[T, T] ty #[v, .slice (some ⟨b', o', none⟩) q c']).run P w = .ok v' w' → (∃ e', RowV t (n + q) (catV g n g') v' e' ∧ Has w0 (m.set i e') w') →
      Runs P ⟨dst, .call { callee := .builtin .append, args := #[s, x], argTypes := #[T, T] }, ty, pos, after, gd⟩ ρ w (fun v' w' => ∃ m', (∃ e', RowV t (n + q) (catV g n g') v' e' ∧ m' = m.set i e') ∧ Has w0 m' w') := by
    intro v' w' hrun ⟨e', h1, h2⟩
    have he : (execOp ρ ⟨dst, .call { callee := .builtin .append, args := #[s, x], argTypes := #[T, T] }, ty, pos, after, gd⟩).run P w = .ok (.value v') w' := by
      simp [execOp, resolve, invoke, builtin, hs, hx, hrun]
    unfold Runs
    rw [he]
    exact ⟨_, ⟨e', h1, rfl⟩, h2⟩
  -- what is new lies in a new block
  have newb : ∀ (olds : List Value), olds.length = n → (∀ j, j < n → olds[j]? = some (g j)) → ∀ (cap : Nat), n + q ≤ cap → cap ≤ maxLen →
      ∃ e', RowV t (n + q) (catV g n g') (.slice (some ⟨w.heap.size, 0, none⟩) (n + q) cap) e' ∧
        Has w0 (m.set i e') (w.drew.alloc (.cells (olds.toArray ++ ((List.range q).map g').toArray ++ Builtin.zeroCells z.cells (cap - (n + q))) t)) := by
    intro olds hol hog cap hcap hmax
    refine ⟨(some w.heap.size, .cells (olds.toArray ++ ((List.range q).map g').toArray ++ Builtin.zeroCells z.cells (cap - (n + q))) t (0, 0)), .inr ⟨w.heap.size, cap, _, rfl, rfl, hcap, hmax, ?_, ?_⟩, ?_⟩
    · simp [size_zeroCells, hz, hol]; omega
    · intro j hj
      simp only [catV]
      rw [Array.getElem?_append_left (by simp [hol]; omega)]
      by_cases hjn : j < n
      · rw [if_pos hjn, Array.getElem?_append_left (by simp [hol, hjn])]
        simpa using hog j hjn
      · rw [if_neg hjn, Array.getElem?_append_right (by simp [hol]; omega)]
        simp [hol, show j - n < q by omega]
    · exact hw.newBlk i hm ((Below.refl _ _).drew.alloc (Nat.le_refl _) _) (Nat.le_refl _) (heap_alloc_new w.drew _)
  rcases hr with ⟨rfl, rfl, hke⟩ | ⟨b, c, cur, rfl, rfl, hnc, hcm, hcs, hcur⟩
  · have hrun := run_append_nil (P := P) w T ty t inf z hu hi hz0 ⟨b', o', none⟩ q c' _ hml hnews hq (by omega) (by rw [Nat.zero_add] at hbb; omega)
    refine fin _ _ hrun ?_
    have := newb [] rfl (fun j hj => by omega) (grownCap w q 0 t) (by have := grownCap_ge w q 0 t; omega) (grownCap_le_maxLen w q 0 t (by simp only [maxLen]; omega))
    simpa using this
  · by_cases hroom : n + q ≤ c
    · have hblk := hw.at i hm
      have hfit : n * inf.size + ((List.range q).map g').length ≤ cur.size := by rw [hml, hz1, hcs]; omega
      have hrun := run_append_room (P := P) w T ty t inf hu hi b n c cur hblk ⟨b', o', none⟩ q c' _ hml hnews (fun u hu => by
        obtain ⟨j, hj, rfl⟩ := List.mem_map.1 hu
        exact h1 j (by simpa using hj)) hroom hfit
      refine fin _ _ hrun ⟨_, .inr ⟨b, c, _, rfl, rfl, hroom, hcm, ?_, ?_⟩, hw.setRow i hm _⟩
      · simp [hz1]; omega
      · intro j hj
        simp only [catV, hz1, Nat.mul_one, List.length_map, List.length_range]
        by_cases hjn : j < n
        · rw [if_pos hjn]
          have := hcur j hjn
          simp only [List.getElem?_toArray]
          rw [List.append_assoc, List.getElem?_append_left (by simp; omega)]
          simp [hjn]
          simpa using this
        · rw [if_neg hjn]
          simp only [List.getElem?_toArray]
          rw [List.getElem?_append_left (by simp; omega), List.getElem?_append_right (by simp; omega)]
          simp [show min n cur.size = n by omega, show j - n < q by omega]
    · have hblk := hw.at i hm
      have hol : ((List.range n).map g).length = n * inf.size := by rw [hz1]; simp
      have holds : ∀ j u, ((List.range n).map g)[j]? = some u → w.cell? ((⟨b, 0, none⟩ : Addr).add j) = some u := by
        intro j u hj
        obtain ⟨hlt, rfl⟩ := listRange_get g hj
        rw [Addr.add_lit, Nat.zero_add]
        simp [World.cell?, hblk, hcur j hlt]
      have hrun := run_append_grow (P := P) w T ty t inf z hu hi hz0 ⟨b, 0, none⟩ n c _ hol holds ⟨b', o', none⟩ q c' _ hml hnews (by omega) (by omega) (growslice_fits (by omega) hbb)
      refine fin _ _ hrun ?_
      exact newb _ (by simp) (fun j hj => by simp [hj]) (grownCap w (n + q) c t) (grownCap_ge w (n + q) c t) (grownCap_le_maxLen w (n + q) c t (by simp only [maxLen]; omega))

/-- .. of one thing that a literal holds, the literal's block forgotten. -/
theorem chg_append1 (i j : Nat) {e : Option Nat × Obj} {t t' : TypeId} {n c' b' bytes : Nat} {g : Nat → Value} {v z u : Value} {fz : Nat × Nat} (hm : m[i]? = some e) (hr : RowV t n g v e) (hs : ρ s = v) (hx : ρ x = .slice (some ⟨b', 0, none⟩) 1 c') (hj : m[j]? = some (some b', .cells #[u] t' fz)) (h1 : u.oneCell' = true)
    (hu : P.underlying T = some (.slice t)) (hi : (P.info? t).map (fun i => (i.zero, i.size, i.bytes)) = some (some z, 1, bytes)) (hz : z.cells.size = 1) (hbound : n + 1 ≤ 1099511627776) (hby : bytes ≤ 64) :
    Chg P w0 m ρ ⟨dst, .call { callee := .builtin .append, args := #[s, x], argTypes := #[T, T] }, ty, pos, after, gd⟩ (fun v' m' => ∃ e', RowV t (n + 1) (catV g n fun _ => u) v' e' ∧ m' = (m.set i e').eraseIdx j) := by
  intro w hw
  have h := chg_append (ρ := ρ) (dst := dst) (ty := ty) (pos := pos) (after := after) (gd := gd) (T := T) (s := s) (x := x) (g' := fun _ => u) i hm hr hs hx (by decide) (fun w hw q hq => by
    obtain rfl : q = 0 := by omega
    simp [World.cell?, hw.at j hj]) (fun _ _ => h1) hu hi hz hbound hby w hw
  refine Runs_mono h ?_
  rintro v' w' ⟨m', ⟨e', h1, rfl⟩, h2⟩
  exact ⟨_, ⟨e', h1, rfl⟩, h2.sub (List.eraseIdx_sublist _ _)⟩

theorem catV_last (f : Nat → Nat) (n p : Nat) (k : IntKind) (i : Nat) : catV (fun i => vn k (f i)) n (fun _ => vn k p) i = vn k (if i < n then f i else p) := by
  unfold catV; split <;> rfl

/-! cutting -/
/-- xs[:h] -/
theorem det_cutTo {n c h e : Nat} {p : Option Addr} (hu : P.underlying T = some (.slice e)) (hs : ∀ w, (sizeOf e).run P w = .ok 1 w) (hx : ρ x = .slice p n c) (hy : ρ y = vn .i64 h) (hh : h ≤ c) :
    Det P w0 m ρ ⟨dst, .slice T x none (some y) none, ty, pos, after, gd⟩ (.slice p h c) := fun w _ => by
  have h0 : (0 : Int) ≤ (h : Int) ∧ (h : Int) ≤ (c : Int) := by omega
  by_cases hc : c = 0
  · subst hc
    obtain rfl : h = 0 := by omega
    simp [execOp, hx, hy, Instr.sliceAt, Instr.slice, run_underlying hu, Instr.sliceBounds, Instr.sliceBound, asIntOf, hs]
  · simp [execOp, hx, hy, Instr.sliceAt, Instr.slice, run_underlying hu, Instr.sliceBounds, Instr.sliceBound, asIntOf, hs, h0, hc]
    cases p <;> simp [Addr.add] <;> (intro h; omega)
/-- xs[l:] -/
theorem det_cutFrom {n c l e : Nat} {p : Option Addr} (hu : P.underlying T = some (.slice e)) (hs : ∀ w, (sizeOf e).run P w = .ok 1 w) (hx : ρ x = .slice p n c) (hy : ρ y = vn .i64 l) (hh : l ≤ n) :
    Det P w0 m ρ ⟨dst, .slice T x (some y) none none, ty, pos, after, gd⟩ (.slice (if c = l then p else p.map (·.add l)) (n - l) (c - l)) := fun w _ => by
  have h0 : (0 : Int) ≤ (l : Int) ∧ (l : Int) ≤ (n : Int) := by omega
  have h00 : ¬ n < l := by omega
  simp [execOp, hx, hy, Instr.sliceAt, Instr.slice, run_underlying hu, Instr.sliceBounds, Instr.sliceBound, asIntOf, hs, h0, h00]

theorem det_idxS0 {b n c j e : Nat} {a : Int} {k : IntKind} (hu : P.underlying T = some (.slice e)) (hz : ∀ w, (sizeOf e).run P w = .ok 1 w) (hx : ρ x = .slice (some ⟨b, 0, none⟩) n c) (hy : ρ y = .int k a) (hj : a = (j : Int)) (h : j < n) :
    Det P w0 m ρ ⟨dst, .indexAddr T x y, ty, pos, after, gd⟩ (.pointer (some ⟨b, j, none⟩)) := by
  have := det_idxS (P := P) (w0 := w0) (m := m) (dst := dst) (ty := ty) (pos := pos) (after := after) (gd := gd) hu hz hx hy hj h rfl
  rwa [Nat.zero_add] at this
theorem det_idxStr {st : ByteArray} {j : Nat} {a : Int} {k : IntKind} {u : UInt8} (hu : P.underlying T = some .string) (hx : ρ x = .string st) (hy : ρ y = .int k a) (hj : a = (j : Int)) (h : st[j]? = some u) :
    Det P w0 m ρ ⟨dst, .index T x y, ty, pos, after, gd⟩ (vn .u8 u.toNat) := fun w _ => by
  subst hj
  simp [execOp, hx, hy, Instr.index, run_underlying hu, asIntOf, h]
theorem det_lenStr {st : ByteArray} {n : Nat} (hu : P.underlying T = some .string) (hx : ρ x = .string st) (hn : st.size = n) :
    Det P w0 m ρ ⟨dst, .call { callee := .builtin .len, args := #[x], argTypes := #[T] }, ty, pos, after, gd⟩ (vn .i64 n) := fun w _ => by
  subst hn
  simp [execOp, resolve, invoke, builtin, hx, Builtin.len_, run_underlying hu, goInt]
end

theorem cur_set {k : IntKind} {n c j p : Nat} {f : Nat → Nat} {cur : Array Value} (hn : n ≤ c) (hs : cur.size = c) (hj : j < n) (h : ∀ i, i < n → cur[i]? = some (vn k (f i))) : ∀ i, i < n → (cur.setIfInBounds j (vn k p))[i]? = some (vn k (upd f j p i)) := by
  intro i hi
  rw [Array.getElem?_setIfInBounds]
  by_cases hij : j = i
  · subst hij
    rw [if_pos rfl, if_pos (by omega)]
    simp [upd]
  · rw [if_neg hij, h i hi]
    have : ¬ i = j := fun e => hij e.symm
    simp [upd, this]
theorem RowN.snoc {k : IntKind} {t : TypeId} {n p : Nat} {f : Nat → Nat} {v : Value} {e : Option Nat × Obj} (h : RowV t (n + 1) (catV (fun i => vn k (f i)) n fun _ => vn k p) v e) (hp : p = f n) : RowN k t (n + 1) f v e :=
  RowV.congr h fun i hi => by
    rw [catV_last]
    split
    · rfl
    · rw [hp, show i = n by omega]
theorem RowN.mk {k : IntKind} {t : TypeId} {n b c : Nat} {f : Nat → Nat} {cur : Array Value} (h1 : n ≤ c) (h2 : c ≤ maxLen) (h3 : cur.size = c) (h4 : ∀ i, i < n → cur[i]? = some (vn k (f i))) : RowN k t n f (.slice (some ⟨b, 0, none⟩) n c) (some b, .cells cur t (0, 0)) :=
  .inr ⟨b, c, cur, rfl, rfl, h1, h2, h3, h4⟩
end Go.MW
