/- What the claim of this folder needs of its texts, put together by a program of this claim. Conditions: none. -/
import Derived.Laws.AppendOwn
import Derived.Deep.Upon
import Derived.Test.YtocmlaloafmfkaaBMD2
namespace Go.MW
open Go.RowKit

theorem Has.setNone {w0 w : World} {m : Mem} (h : Has w0 m w) (i : Nat) (o : Obj) : Has w0 (m.set i (none, o)) w := by
  refine ⟨h.below, fun b x hb => ?_, ?_⟩
  · rcases List.mem_or_eq_of_mem_set hb with h1 | h1
    · exact h.blk b x h1
    · simp at h1
  · have hs : ∀ (m : Mem) (i : Nat), ((m.set i (none, o)).filterMap Prod.fst).Sublist (m.filterMap Prod.fst) := by
      intro m
      induction m with
      | nil => intro i; simp
      | cons x m ih =>
        intro i
        cases i with
        | zero =>
          rw [List.set_cons_zero, List.filterMap_cons, List.filterMap_cons]
          cases x.1 with
          | none => exact List.Sublist.refl _
          | some k => exact List.sublist_cons_self _ _
        | succ i =>
          rw [List.set_cons_succ, List.filterMap_cons, List.filterMap_cons]
          cases x.1 with
          | none => exact ih i
          | some k => exact (ih i).cons_cons k
    exact (hs m i).nodup h.nodup

/-- A slice value that holds the list l somewhere in a block of one's own; or nil. -/
def RowO (t : TypeId) (l : List Value) (v : Value) (e : Option Nat × Obj) : Prop :=
  (v = .slice none 0 0 ∧ l = []) ∨
  ∃ b o c cur, v = .slice (some ⟨b, o, none⟩) l.length c ∧ e = (some b, .cells cur t (0, 0)) ∧ l.length ≤ c ∧ c ≤ maxLen ∧ o + c ≤ cur.size ∧ ∀ i, i < l.length → cur[o + i]? = l[i]?
theorem RowO.nil (t : TypeId) (e : Option Nat × Obj) : RowO t [] (.slice none 0 0) e := .inl ⟨rfl, rfl⟩
theorem RowO.slice {t : TypeId} {l : List Value} {v : Value} {e : Option Nat × Obj} (h : RowO t l v e) : ∃ p c, v = .slice p l.length c ∧ l.length ≤ c := by
  rcases h with ⟨rfl, rfl⟩ | ⟨b, o, c, cur, rfl, _, hc, _⟩
  · exact ⟨none, 0, rfl, Nat.le_refl _⟩
  · exact ⟨_, c, rfl, hc⟩
theorem RowO.one {t : TypeId} {l : List Value} {v : Value} {e : Option Nat × Obj} (h : RowO t l v e) : v.oneCell' = true := by
  obtain ⟨p, c, rfl, _⟩ := h.slice; rfl
theorem RowO.ofV {t : TypeId} {n : Nat} {g : Nat → Value} {v : Value} {e : Option Nat × Obj} (h : RowV t n g v e) : RowO t ((List.range n).map g) v e := by
  rcases h with ⟨rfl, rfl, _⟩ | ⟨b, c, cur, rfl, rfl, h1, h2, h3, h4⟩
  · exact .inl ⟨rfl, rfl⟩
  · exact .inr ⟨b, 0, c, cur, by simp, rfl, by simpa using h1, h2, by omega, fun i hi => by simp at hi; simp [h4 i hi, hi]⟩
theorem RowO.tail {t : TypeId} {x : Value} {l : List Value} {p : Option Addr} {n c : Nat} {e : Option Nat × Obj} (h : RowO t (x :: l) (.slice p n c) e) : RowO t l (.slice (if c = 1 then p else p.map (·.add 1)) (n - 1) (c - 1)) e := by
  rcases h with ⟨_, h⟩ | ⟨b, o, c', cur, h0, rfl, h1, h2, h3, h4⟩
  · cases h
  · simp only [Value.slice.injEq, List.length_cons] at h0 h1
    obtain ⟨rfl, rfl, rfl⟩ := h0
    by_cases hc : c = 1
    · subst hc
      have : l = [] := List.eq_nil_of_length_eq_zero (by omega)
      subst this
      exact .inr ⟨b, o, 0, cur, by simp, rfl, Nat.le_refl _, Nat.zero_le _, by omega, fun i hi => by simp at hi⟩
    · refine .inr ⟨b, o + 1, c - 1, cur, by simp [hc, Addr.add_lit], rfl, by omega, by omega, by omega, fun i hi => ?_⟩
      have := h4 (i + 1) (by simp; omega)
      rw [show o + 1 + i = o + (i + 1) by omega, this]
      rfl
theorem RowO.at {t : TypeId} {l : List Value} {v : Value} {e : Option Nat × Obj} (h : RowO t l v e) {i : Nat} (hi : i < l.length) : ∃ b o c cur, v = .slice (some ⟨b, o, none⟩) l.length c ∧ e = (some b, .cells cur t (0, 0)) ∧ cur[o + i]? = some (l[i]) := by
  rcases h with ⟨_, rfl⟩ | ⟨b, o, c', cur, h0, rfl, h1, h2, h3, h4⟩
  · simp at hi
  · exact ⟨b, o, c', cur, h0, rfl, by rw [h4 i hi]; simp [hi]⟩
/-- What a slice reads, in a world. -/
def RdL (w : World) (l : List Value) (v : Value) : Prop := ∃ p c b o, v = .slice p l.length c ∧ (0 < l.length → p = some ⟨b, o, none⟩) ∧ ∀ i, i < l.length → w.cell? ⟨b, o + i, none⟩ = l[i]?
theorem RowO.rd {w0 w : World} {m : Mem} (hw : Has w0 m w) (i : Nat) {e : Option Nat × Obj} (hm : m[i]? = some e) {t : TypeId} {l : List Value} {v : Value} (h : RowO t l v e) : RdL w l v := by
  rcases h with ⟨rfl, rfl⟩ | ⟨b, o, c, cur, rfl, rfl, _, _, _, h4⟩
  · exact ⟨none, 0, 0, 0, rfl, fun h => by simp at h, fun i hi => by simp at hi⟩
  · exact ⟨_, c, b, o, rfl, fun _ => rfl, fun j hj => by simp [World.cell?, hw.at i hm, h4 j hj]⟩

section
variable {P : Program} {w0 : World} {m : Mem} {ρ : Operand → Value} {dst : Option Tmp} {ty : TypeId} {pos : String} {after : Array Edge} {gd : Option (Nat × Bool)} {T : TypeId} {s x y : Operand}
/-- A store of one cell into a row, what comes of it told. -/
theorem chg_storeC (i : Nat) {b off : Nat} {c c' : Array Value} {t : TypeId} {v : Value} (hz : ∀ w, (sizeOf T).run P w = .ok 1 w) (hx : ρ x = .pointer (some ⟨b, off, none⟩)) (hm : m[i]? = some (some b, .cells c t (0, 0))) (h : off < c.size) (hy : ρ y = v) (hv : v.oneCell' = true) (hc : c.setIfInBounds off v = c') :
    Chg P w0 m ρ ⟨dst, .store T x y, ty, pos, after, gd⟩ (fun _ m' => m' = m.set i (some b, .cells c' t (0, 0))) := by
  subst hc
  exact chg_store i hz hx hm h hy hv

/-- append of one thing that a literal holds, the literal's block forgotten; the row begins anywhere. -/
theorem chg_appendO1 (i j : Nat) {e : Option Nat × Obj} {t t' : TypeId} {l : List Value} {c' b' bytes : Nat} {v z u : Value} {fz : Nat × Nat} (hm : m[i]? = some e) (hij : i ≠ j) (hr : RowO t l v e) (hs : ρ s = v) (hx : ρ x = .slice (some ⟨b', 0, none⟩) 1 c') (hj : m[j]? = some (some b', .cells #[u] t' fz)) (h1 : u.oneCell' = true)
    (hu : P.underlying T = some (.slice t)) (hi : (P.info? t).map (fun i => (i.zero, i.size, i.bytes)) = some (some z, 1, bytes)) (hz : z.cells.size = 1) (hbound : l.length + 1 ≤ 1099511627776) (hby : bytes ≤ 64) :
    Chg P w0 m ρ ⟨dst, .call { callee := .builtin .append, args := #[s, x], argTypes := #[T, T] }, ty, pos, after, gd⟩ (fun v' m' => ∃ e', RowO t (l ++ [u]) v' e' ∧ m' = (m.set i e').eraseIdx j) := by
  rcases hr with ⟨rfl, rfl⟩ | ⟨b, o, c, cur, rfl, rfl, hlc, hcm, hsz, hcur⟩
  · intro w hw
    have hrow : RowV t 0 (fun _ => u) (.slice none 0 0) (none, e.2) := RowV.nil _ _ _
    have hlt : i < m.length := (List.getElem?_eq_some_iff.1 hm).1
    have h := chg_append1 (ρ := ρ) (dst := dst) (ty := ty) (pos := pos) (after := after) (gd := gd) (T := T) (s := s) (x := x) (m := m.set i (none, e.2)) (w0 := w0) i j (e := (none, e.2)) (by rw [List.getElem?_set_self hlt]) hrow hs hx (by rw [List.getElem?_set_ne hij]; exact hj) h1 hu hi hz (by simp) hby w (hw.setNone i e.2)
    refine Runs_mono h ?_
    rintro v' w' ⟨m', ⟨e', h2, rfl⟩, h3⟩
    refine ⟨_, ⟨e', ?_, rfl⟩, ?_⟩
    · have := RowO.ofV h2
      simpa [catV] using this
    · rwa [List.set_set] at h3
  · intro w hw
    obtain ⟨inf, hi', hz0, hz1, hz2⟩ := info_parts hi
    have hblk := hw.at i hm
    have hjb : w.cell? ⟨b', 0, none⟩ = some u := by simp [World.cell?, hw.at j hj]
    have hnews : ∀ q v, [u][q]? = some v → w.cell? ((⟨b', 0, none⟩ : Addr).add q) = some v := by
      intro q v hq
      rcases q with _ | q
      · simp at hq; subst hq; simpa [Addr.add_lit] using hjb
      · simp at hq
    have fin : ∀ (v' : Value) (w' : World), (Builtin.append_ #[T, T] ty #[.slice (some ⟨b, o, none⟩) l.length c, .slice (some ⟨b', 0, none⟩) 1 c']).run P w = .ok v' w' → (∃ e', RowO t (l ++ [u]) v' e' ∧ Has w0 (m.set i e') w') →
        Runs P ⟨dst, .call { callee := .builtin .append, args := #[s, x], argTypes := #[T, T] }, ty, pos, after, gd⟩ ρ w (fun v' w' => ∃ m', (∃ e', RowO t (l ++ [u]) v' e' ∧ m' = (m.set i e').eraseIdx j) ∧ Has w0 m' w') := by
      intro v' w' hrun ⟨e', h1, h2⟩
      have he : (execOp ρ ⟨dst, .call { callee := .builtin .append, args := #[s, x], argTypes := #[T, T] }, ty, pos, after, gd⟩).run P w = .ok (.value v') w' := by
        simp [execOp, resolve, invoke, builtin, hs, hx, hrun]
      unfold Runs
      rw [he]
      exact ⟨_, ⟨e', h1, rfl⟩, h2.sub (List.eraseIdx_sublist _ _)⟩
    by_cases hroom : l.length + 1 ≤ c
    · have hl := run_loadCells_list (P := P) w ⟨b', 0, none⟩ [u] hnews
      have hst := run_storeCells_at P b (o + l.length) t [u] 0 cur w hblk (by simp; omega) (by simpa using h1)
      have hrun : (Builtin.append_ #[T, T] ty #[.slice (some ⟨b, o, none⟩) l.length c, .slice (some ⟨b', 0, none⟩) 1 c']).run P w = .ok (.slice (some ⟨b, o, none⟩) (l.length + 1) c) (w.setRow b (cur.toList.take (o + l.length) ++ [u] ++ cur.toList.drop (o + l.length + 1)).toArray) := by
        simp only [Nat.add_zero, List.length_singleton] at hst hl
        simp [Builtin.append_, run_underlying hu, Builtin.lenOf, Builtin.firstCells, sizeOf, typeInfo, hi', hz1, hroom, hl, Addr.add_lit, hst]
      refine fin _ _ hrun ⟨_, .inr ⟨b, o, c, _, by simp, rfl, by simpa using hroom, hcm, ?_, ?_⟩, hw.setRow i hm _⟩
      · simp; omega
      · intro q hq
        simp at hq
        simp only [List.getElem?_toArray]
        by_cases hql : q < l.length
        · rw [List.append_assoc, List.getElem?_append_left (by simp; omega), List.getElem?_append_left hql]
          have := hcur q hql
          simp [show o + q < o + l.length by omega]
          simpa using this
        · obtain rfl : q = l.length := by omega
          rw [List.getElem?_append_left (by simp; omega), List.getElem?_append_right (by simp; omega), List.getElem?_append_right (Nat.le_refl _)]
          simp [show min (o + l.length) cur.size = o + l.length by omega]
    · have hol : l.length = l.length * inf.size := by rw [hz1]; simp
      have holds : ∀ q v, l[q]? = some v → w.cell? ((⟨b, o, none⟩ : Addr).add q) = some v := by
        intro q v hq
        have hlt := (List.getElem?_eq_some_iff.1 hq).1
        rw [Addr.add_lit]
        simp [World.cell?, hblk, hcur q hlt, hq]
      have hbb : (l.length + 1) * inf.bytes ≤ 140737488355328 := by
        rw [hz2]
        have := Nat.mul_le_mul hbound hby
        omega
      have hrun := run_append_grow (P := P) w T ty t inf z hu hi' hz0 ⟨b, o, none⟩ l.length c _ hol holds ⟨b', 0, none⟩ 1 c' [u] (by rw [hz1]; rfl) hnews (by omega) (by omega) (growslice_fits (by omega) hbb)
      refine fin _ _ hrun ⟨(some w.heap.size, .cells (l.toArray ++ [u].toArray ++ Builtin.zeroCells z.cells (grownCap w (l.length + 1) c t - (l.length + 1))) t (0, 0)), ?_, ?_⟩
      · have hg1 := grownCap_ge w (l.length + 1) c t
        refine .inr ⟨w.heap.size, 0, grownCap w (l.length + 1) c t, _, by simp, rfl, by simpa using hg1, grownCap_le_maxLen w (l.length + 1) c t (by simp only [maxLen]; omega), ?_, ?_⟩
        · simp [size_zeroCells, hz]; omega
        · intro q hq
          simp at hq
          rw [Nat.zero_add, Array.getElem?_append_left (by simp; omega)]
          simp
      · have hn := hw.newBlk (i := i) hm ((Below.refl _ w).drew.alloc (Nat.le_refl _) (.cells (l.toArray ++ [u].toArray ++ Builtin.zeroCells z.cells (grownCap w (l.length + 1) c t - (l.length + 1))) t (0, 0))) (Nat.le_refl _) (heap_alloc_new w.drew _)
        simpa using hn
/-- append of what a slice reads, to a row that begins its block -/
theorem chg_appendVL (i : Nat) {e : Option Nat × Obj} {t : TypeId} {n bytes : Nat} {g : Nat → Value} {l : List Value} {v z vx : Value} (hm : m[i]? = some e) (hr : RowV t n g v e) (hs : ρ s = v) (hx : ρ x = vx) (hsrc : ∀ w, Has w0 m w → RdL w l vx) (hl : ∀ u ∈ l, u.oneCell' = true)
    (hu : P.underlying T = some (.slice t)) (hi : (P.info? t).map (fun i => (i.zero, i.size, i.bytes)) = some (some z, 1, bytes)) (hz : z.cells.size = 1) (hbound : n + l.length ≤ 1099511627776) (hby : bytes ≤ 64) :
    Chg P w0 m ρ ⟨dst, .call { callee := .builtin .append, args := #[s, x], argTypes := #[T, T] }, ty, pos, after, gd⟩ (fun v' m' => ∃ e', RowV t (n + l.length) (catV g n fun i => l.getD i undef) v' e' ∧ m' = m.set i e') := by
  intro w hw
  obtain ⟨p, c', b', o', rfl, hp, hc⟩ := hsrc w hw
  by_cases h0 : l.length = 0
  · have hl0 : l = [] := List.eq_nil_of_length_eq_zero h0
    subst hl0
    obtain ⟨inf, hi', hz0, hz1, hz2⟩ := info_parts hi
    obtain ⟨p0, n0, c0, hv, hle⟩ : ∃ p0 n0 c0, v = .slice p0 n0 c0 ∧ n0 ≤ c0 := by
      rcases hr with ⟨rfl, _, _⟩ | ⟨b, c, cur, rfl, _, h1, _⟩
      · exact ⟨_, _, _, rfl, Nat.le_refl _⟩
      · exact ⟨_, _, _, rfl, h1⟩
    have hl : ∀ (x : Addr) (w : World), (loadCells x 0).run P w = .ok #[] w := fun x w => by simpa using run_loadCells_list (P := P) w x [] (by simp)
    have hrun := run_append_nothing (P := P) w T T ty t inf hu hi' p0 n0 c0 hle (.slice p 0 c') ⟨.inl ⟨_, hu⟩, fun w' => by simp [Builtin.lenOf], by cases p <;> simp [Builtin.firstCells, hl], by cases p <;> simp [Builtin.firstCells, hl], by simp, by simp⟩
    have he : (execOp ρ ⟨dst, .call { callee := .builtin .append, args := #[s, x], argTypes := #[T, T] }, ty, pos, after, gd⟩).run P w = .ok (.value v) w := by
      subst hv
      simp [execOp, resolve, invoke, builtin, hs, hx, hrun]
    unfold Runs
    rw [he]
    refine ⟨_, ⟨e, hr.congr fun i hi => by simp [catV, hi], rfl⟩, ?_⟩
    have : m.set i e = m := by
      obtain ⟨hlt, hget⟩ := List.getElem?_eq_some_iff.1 hm
      rw [← hget]; exact List.set_getElem_self hlt
    rw [this]; exact hw
  · obtain rfl := hp (by omega)
    have h := chg_append (ρ := ρ) (dst := dst) (ty := ty) (pos := pos) (after := after) (gd := gd) (T := T) (s := s) (x := x) (g' := fun i => l.getD i undef) i hm hr hs hx (by omega) (fun w hw j hj => by
      obtain ⟨p2, c2, b2, o2, hv2, hp2, hc2⟩ := hsrc w hw
      simp only [Value.slice.injEq] at hv2
      have h3 := hp2 (by omega)
      rw [← hv2.1] at h3
      simp only [Option.some.injEq, Addr.mk.injEq] at h3
      rw [h3.1, h3.2.1, hc2 j hj]
      simp [hj]) (fun j hj => hl _ (by simp [hj])) hu hi hz hbound hby w hw
    exact h
end
end Go.MW

namespace Go.MW
open Go.RowKit

section
variable {P : Program} {w0 : World} {K : List Value → Mem → Prop} {E : Exit → List Value → Mem → Prop} {L : List Value} {m : Mem} {ρ : Operand → Value}
variable {dst : Option Tmp} {ty : TypeId} {pos : String} {after : Array Edge} {gd : Option (Nat × Bool)} {T : TypeId} {x y : Operand}

/-- A loop whose memory is told by the loop's own datum. -/
theorem WC_loopF {ι : Type} {c : Code} (D : List Nat) (S : ι → List (Nat × Value)) (mf : ι → Mem) (I : ι → Prop) (μ : ι → Nat) (x0 : ι) (hF : setAll L (S x0) = L) (hM : mf x0 = m) (hI : I x0)
    (round : ∀ (x : ι) (g : Nat → Value), I x → WC P w0 c (fun L' m' => ∃ x', setAll (setG L D (nth L')) (S x') = L' ∧ mf x' = m' ∧ I x' ∧ μ x' < μ x) E (setAll (setG L D g) (S x)) (mf x)) : WC P w0 (.loop c) K E L m := by
  refine WC_loop (ι := ι × (Nat → Value)) (fun x => setAll (setG L D x.2) (S x.1)) (fun x => mf x.1) (fun x => I x.1) (fun x => μ x.1) (x0, nth L) (by simp only [setG_self]; exact hF) hM hI ?_
  rintro ⟨x, g⟩ hi w hw
  refine wp_mono (round x g hi w hw) ?_
  intro e a w' hq
  cases e with
  | normal =>
    obtain ⟨L', m', rfl, hw', x', h1, h2, h3, h4⟩ := hq
    exact ⟨L', m', rfl, hw', (x', nth L'), h1, h2, h3, h4⟩
  | outgrown => exact hq
  | panic c => exact hq
  | exit id => exact hq
  | goto l => exact hq
  | ret => exact hq
/-- A call that turns a part of the memory. -/
theorem Chg_callQ (A rest : Mem) (Bf : Mem → Mem) {x : Operand} {args : List Operand} {ats : Array TypeId} {f : FuncId} {R : Value → Mem → Prop}
    (hx : ρ x = .func (.func f) #[] #[]) (hc : ∀ as w, (callFunc f as).run P w = .ok (.enter f as) w) (hp : (A ++ rest).Perm m) (hq : ∀ m1, (Bf m1).Perm (m1 ++ rest))
    (h : ∀ w, Has w0 (A ++ rest) w → Calls P f (args.map ρ).toArray w (Post w0 fun v m' => ∃ m1, R v m1 ∧ m' = m1 ++ rest)) :
    Chg P w0 m ρ ⟨dst, .call { callee := .value x, args := args.toArray, argTypes := ats }, ty, pos, after, gd⟩ (fun v m' => ∃ m1, R v m1 ∧ m' = Bf m1) := by
  refine Chg_call hx hc fun w hw => ?_
  refine (h w (hw.perm hp)).mono ?_
  rintro e1 w' ⟨v, mi', rfl, ⟨m1, hR, rfl⟩, hh⟩
  exact ⟨v, _, rfl, ⟨m1, hR, rfl⟩, hh.perm (hq m1)⟩
theorem perm_mid3 (a b c : Mem) : (b ++ (a ++ c)).Perm (a ++ (b ++ c)) := by
  rw [← List.append_assoc, ← List.append_assoc]
  exact List.Perm.append_right _ List.perm_append_comm
/-- .. its end, ahead of the rest m0. -/
theorem Chg_callT (pre A m0 : Mem) {x : Operand} {args : List Operand} {ats : Array TypeId} {f : FuncId} {R : Value → Mem → Prop}
    (hx : ρ x = .func (.func f) #[] #[]) (hc : ∀ as w, (callFunc f as).run P w = .ok (.enter f as) w) (hm : pre ++ (A ++ m0) = m)
    (h : ∀ w mm, Has w0 (A ++ mm) w → Calls P f (args.map ρ).toArray w (Post w0 fun v m' => ∃ m1, R v m1 ∧ m' = m1 ++ mm)) :
    Chg P w0 m ρ ⟨dst, .call { callee := .value x, args := args.toArray, argTypes := ats }, ty, pos, after, gd⟩ (fun v m' => ∃ m1, R v m1 ∧ m' = pre ++ (m1 ++ m0)) := by
  subst hm
  exact Chg_callQ A (pre ++ m0) (fun m1 => pre ++ (m1 ++ m0)) hx hc (perm_mid3 pre A m0) (fun m1 => perm_mid3 m1 pre m0) fun w hw => h w _ hw
theorem det_lenL {n : Nat} {e : TypeId} {v : Value} (hu : P.underlying T = some (.slice e)) (hx : ρ x = v) (h : ∃ p c, v = .slice p n c) :
    Det P w0 m ρ ⟨dst, .call { callee := .builtin .len, args := #[x], argTypes := #[T] }, ty, pos, after, gd⟩ (vn .i64 n) := by
  obtain ⟨p, c, rfl⟩ := h
  exact det_len hu hx
/-- The place of an element of several cells. -/
theorem det_idxSn (s : Nat) {b o n c j e : Nat} {a : Int} {k : IntKind} {ad : Option Addr} (hu : P.underlying T = some (.slice e)) (hz : ∀ w, (sizeOf e).run P w = .ok (s + 1) w) (hx : ρ x = .slice ad n c) (hy : ρ y = .int k a) (hj : a = (j : Int)) (h : j < n) (ha : ad = some ⟨b, o, none⟩) :
    Det P w0 m ρ ⟨dst, .indexAddr T x y, ty, pos, after, gd⟩ (.pointer (some ⟨b, o + (s + 1) * j, none⟩)) := fun w _ => by
  subst hj ha
  have h0 : (0 : Int) ≤ (j : Int) ∧ (j : Int) < (n : Int) := by omega
  simp [execOp, hx, hy, Instr.indexAt, run_underlying hu, asIntOf, hz, h, Addr.add_lit]
  rw [Nat.mul_comm]
/-- A struct or an array, out of memory that reads so. -/
theorem det_loadLs {b o : Nat} {l : List Value} {d : TypeDesc} (hu : P.underlying T = some d) (hd : d.isRow = true) (hi : (P.info? T).map (·.size) = some l.length)
    (hx : ρ x = .pointer (some ⟨b, o, none⟩)) (hc : ∀ w, Has w0 m w → ∀ j, j < l.length → w.cell? ⟨b, o + j, none⟩ = l[j]?) : Det P w0 m ρ ⟨dst, .load T x, ty, pos, after, gd⟩ (.agg l.toArray) := fun w hw => by
  have hr : w.rangeAt b o l := fun j v hj => by
    have hlt := (List.getElem?_eq_some_iff.1 hj).1
    rw [hc w hw j hlt, hj]
  have h := run_loadVar_mid (P := P) w b o T _ d hr hu hd hi
  simp [execOp, hx, Instr.loadAt, Instr.sureAddr, h]
/-- A struct stored whole, and read whole. -/
theorem chg_storeWn (i n : Nat) {b : Nat} {c c' : Array Value} {t : TypeId} {v : Value} (hx : ρ x = .pointer (some ⟨b, 0, none⟩)) (hm : m[i]? = some (some b, .cells c t (0, 0))) (hn : c.size = n) (hz : ∀ w, (sizeOf T).run P w = .ok n w) (hy : ρ y = v) (hc : v.cells = c') (hs : c'.size = n) (hv : ∀ u ∈ c'.toList, u.oneCell' = true) :
    Chg P w0 m ρ ⟨dst, .store T x y, ty, pos, after, gd⟩ (fun _ m' => m' = m.set i (some b, .cells c' t (0, 0))) := by
  subst hn
  exact chg_storeW i hz hx hm hy hc hs hv
theorem det_loadWn (i n : Nat) {b : Nat} {c : Array Value} {t : TypeId} {fz : Nat × Nat} {d : TypeDesc} (hx : ρ x = .pointer (some ⟨b, 0, none⟩)) (hm : m[i]? = some (some b, .cells c t fz)) (hn : c.size = n) (hu : P.underlying T = some d) (hd : (match d with | .struct _ | .array _ _ => true | _ => false) = true) (hi : (P.info? T).map (·.size) = some n) : Det P w0 m ρ ⟨dst, .load T x, ty, pos, after, gd⟩ (.agg c) := by
  subst hn
  exact det_loadW i hu hd hi hx hm
theorem fin_tmp3 {fn : Func} {R : Value → Mem → Prop} {t0 t1 t2 : Nat} {v0 v1 v2 : Value} (h : fn.results = #[.tmp t0, .tmp t1, .tmp t2]) (h0 : nth L t0 = v0) (h1 : nth L t1 = v1) (h2 : nth L t2 = v2) (mi : Mem) (hs : mi.Sublist m) (hR : R (.tuple #[v0, v1, v2]) mi) : Fin P fn w0 R L m := by
  intro w hw
  refine ⟨_, mi, ?_, hR, hw.sub hs⟩
  have e : ∀ t, L.toArray.getD t undef = nth L t := fun t => by rw [← nth_eq]
  simp [results, h]
  have e2 : ∀ t, L[t]?.getD undef = nth L t := fun t => by rw [← nth_eq]; simp
  simp [e2, h0, h1, h2]
end
end Go.MW
