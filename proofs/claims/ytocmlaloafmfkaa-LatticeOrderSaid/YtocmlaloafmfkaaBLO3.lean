/- What the claim of this folder needs of its texts, put together by a program of this claim. Conditions: none. -/
import Derived.Laws.AppendOwn
import Derived.Deep.Upon
import Derived.Carry
import Derived.MapKept
import Derived.Test.YtocmlaloafmfkaaBLO2
set_option linter.unusedSectionVars false
set_option linter.unusedSimpArgs false
set_option linter.unusedVariables false
namespace Go.MW
open Go.RowKit

theorem Has.setNone {w0 w : World} {m : Mem} (h : Has w0 m w) (i : Nat) (o : Obj) : Has w0 (m.set i (none, o)) w := by
  refine ⟨h.below, fun b x hb => ?_, ?_⟩
  · rcases List.mem_or_eq_of_mem_set hb with h1 | h1
    · exact h.blk b x h1
    · simp at h1
  · have hs : ∀ (m : Mem) (i : Nat), ((m.set i (none, o)).filterMap Prod.fst).Sublist (m.filterMap Prod.fst) := by
      intro m
      induction m with
      | nil => intro i; simp
      | cons x m ih =>
        intro i
        cases i with
        | zero =>
          rw [List.set_cons_zero, List.filterMap_cons, List.filterMap_cons]
          cases x.1 with
          | none => exact List.Sublist.refl _
          | some k => exact List.sublist_cons_self _ _
        | succ i =>
          rw [List.set_cons_succ, List.filterMap_cons, List.filterMap_cons]
          cases x.1 with
          | none => exact ih i
          | some k => exact (ih i).cons_cons k
    exact (hs m i).nodup h.nodup

/-- A slice value that holds the list l somewhere in a block of one's own; or nil. -/
def RowO (t : TypeId) (l : List Value) (v : Value) (e : Option Nat × Obj) : Prop :=
  (v = .slice none 0 0 ∧ l = []) ∨
  ∃ b o c cur, v = .slice (some ⟨b, o, none⟩) l.length c ∧ e = (some b, .cells cur t (0, 0)) ∧ l.length ≤ c ∧ c ≤ maxLen ∧ o + c ≤ cur.size ∧ ∀ i, i < l.length → cur[o + i]? = l[i]?
theorem RowO.nil (t : TypeId) (e : Option Nat × Obj) : RowO t [] (.slice none 0 0) e := .inl ⟨rfl, rfl⟩
theorem RowO.slice {t : TypeId} {l : List Value} {v : Value} {e : Option Nat × Obj} (h : RowO t l v e) : ∃ p c, v = .slice p l.length c ∧ l.length ≤ c := by
  rcases h with ⟨rfl, rfl⟩ | ⟨b, o, c, cur, rfl, _, hc, _⟩
  · exact ⟨none, 0, rfl, Nat.le_refl _⟩
  · exact ⟨_, c, rfl, hc⟩
theorem RowO.one {t : TypeId} {l : List Value} {v : Value} {e : Option Nat × Obj} (h : RowO t l v e) : v.oneCell' = true := by
  obtain ⟨p, c, rfl, _⟩ := h.slice; rfl
theorem RowO.ofV {t : TypeId} {n : Nat} {g : Nat → Value} {v : Value} {e : Option Nat × Obj} (h : RowV t n g v e) : RowO t ((List.range n).map g) v e := by
  rcases h with ⟨rfl, rfl, _⟩ | ⟨b, c, cur, rfl, rfl, h1, h2, h3, h4⟩
  · exact .inl ⟨rfl, rfl⟩
  · exact .inr ⟨b, 0, c, cur, by simp, rfl, by simpa using h1, h2, by omega, fun i hi => by simp at hi; simp [h4 i hi, hi]⟩
theorem RowO.tail {t : TypeId} {x : Value} {l : List Value} {p : Option Addr} {n c : Nat} {e : Option Nat × Obj} (h : RowO t (x :: l) (.slice p n c) e) : RowO t l (.slice (if c = 1 then p else p.map (·.add 1)) (n - 1) (c - 1)) e := by
  rcases h with ⟨_, h⟩ | ⟨b, o, c', cur, h0, rfl, h1, h2, h3, h4⟩
  · cases h
  · simp only [Value.slice.injEq, List.length_cons] at h0 h1
    obtain ⟨rfl, rfl, rfl⟩ := h0
    by_cases hc : c = 1
    · subst hc
      have : l = [] := List.eq_nil_of_length_eq_zero (by omega)
      subst this
      exact .inr ⟨b, o, 0, cur, by simp, rfl, Nat.le_refl _, Nat.zero_le _, by omega, fun i hi => by simp at hi⟩
    · refine .inr ⟨b, o + 1, c - 1, cur, by simp [hc, Addr.add_lit], rfl, by omega, by omega, by omega, fun i hi => ?_⟩
      have := h4 (i + 1) (by simp; omega)
      rw [show o + 1 + i = o + (i + 1) by omega, this]
      rfl
theorem RowO.at {t : TypeId} {l : List Value} {v : Value} {e : Option Nat × Obj} (h : RowO t l v e) {i : Nat} (hi : i < l.length) : ∃ b o c cur, v = .slice (some ⟨b, o, none⟩) l.length c ∧ e = (some b, .cells cur t (0, 0)) ∧ cur[o + i]? = some (l[i]) := by
  rcases h with ⟨_, rfl⟩ | ⟨b, o, c', cur, h0, rfl, h1, h2, h3, h4⟩
  · simp at hi
  · exact ⟨b, o, c', cur, h0, rfl, by rw [h4 i hi]; simp [hi]⟩
/-- What a slice reads, in a world. -/
def RdL (w : World) (l : List Value) (v : Value) : Prop := ∃ p c b o, v = .slice p l.length c ∧ (0 < l.length → p = some ⟨b, o, none⟩) ∧ ∀ i, i < l.length → w.cell? ⟨b, o + i, none⟩ = l[i]?
theorem RowO.rd {w0 w : World} {m : Mem} (hw : Has w0 m w) (i : Nat) {e : Option Nat × Obj} (hm : m[i]? = some e) {t : TypeId} {l : List Value} {v : Value} (h : RowO t l v e) : RdL w l v := by
  rcases h with ⟨rfl, rfl⟩ | ⟨b, o, c, cur, rfl, rfl, _, _, _, h4⟩
  · exact ⟨none, 0, 0, 0, rfl, fun h => by simp at h, fun i hi => by simp at hi⟩
  · exact ⟨_, c, b, o, rfl, fun _ => rfl, fun j hj => by simp [World.cell?, hw.at i hm, h4 j hj]⟩

section
variable {P : Program} {w0 : World} {m : Mem} {ρ : Operand → Value} {dst : Option Tmp} {ty : TypeId} {pos : String} {after : Array Edge} {gd : Option (Nat × Bool)} {T : TypeId} {s x y : Operand}
/-- A store of one cell into a row, what comes of it told. -/
theorem chg_storeC (i : Nat) {b off : Nat} {c c' : Array Value} {t : TypeId} {v : Value} (hz : ∀ w, (sizeOf T).run P w = .ok 1 w) (hx : ρ x = .pointer (some ⟨b, off, none⟩)) (hm : m[i]? = some (some b, .cells c t (0, 0))) (h : off < c.size) (hy : ρ y = v) (hv : v.oneCell' = true) (hc : c.setIfInBounds off v = c') :
    Chg P w0 m ρ ⟨dst, .store T x y, ty, pos, after, gd⟩ (fun _ m' => m' = m.set i (some b, .cells c' t (0, 0))) := by
  subst hc
  exact chg_store i hz hx hm h hy hv

/-- append of one thing that a literal holds, the literal's block forgotten; the row begins anywhere. -/
theorem chg_appendO1 (i j : Nat) {e : Option Nat × Obj} {t t' : TypeId} {l : List Value} {c' b' bytes : Nat} {v z u : Value} {fz : Nat × Nat} (hm : m[i]? = some e) (hij : i ≠ j) (hr : RowO t l v e) (hs : ρ s = v) (hx : ρ x = .slice (some ⟨b', 0, none⟩) 1 c') (hj : m[j]? = some (some b', .cells #[u] t' fz)) (h1 : u.oneCell' = true)
    (hu : P.underlying T = some (.slice t)) (hi : (P.info? t).map (fun i => (i.zero, i.size, i.bytes)) = some (some z, 1, bytes)) (hz : z.cells.size = 1) (hbound : l.length + 1 ≤ 1099511627776) (hby : bytes ≤ 64) :
    Chg P w0 m ρ ⟨dst, .call { callee := .builtin .append, args := #[s, x], argTypes := #[T, T] }, ty, pos, after, gd⟩ (fun v' m' => ∃ e', RowO t (l ++ [u]) v' e' ∧ m' = (m.set i e').eraseIdx j) := by
  rcases hr with ⟨rfl, rfl⟩ | ⟨b, o, c, cur, rfl, rfl, hlc, hcm, hsz, hcur⟩
  · intro w hw
    have hrow : RowV t 0 (fun _ => u) (.slice none 0 0) (none, e.2) := RowV.nil _ _ _
    have hlt : i < m.length := (List.getElem?_eq_some_iff.1 hm).1
    have h := chg_append1 (ρ := ρ) (dst := dst) (ty := ty) (pos := pos) (after := after) (gd := gd) (T := T) (s := s) (x := x) (m := m.set i (none, e.2)) (w0 := w0) i j (e := (none, e.2)) (by rw [List.getElem?_set_self hlt]) hrow hs hx (by rw [List.getElem?_set_ne hij]; exact hj) h1 hu hi hz (by simp) hby w (hw.setNone i e.2)
    refine Runs_mono h ?_
    rintro v' w' ⟨m', ⟨e', h2, rfl⟩, h3⟩
    refine ⟨_, ⟨e', ?_, rfl⟩, ?_⟩
    · have := RowO.ofV h2
      simpa [catV] using this
    · rwa [List.set_set] at h3
  · intro w hw
    obtain ⟨inf, hi', hz0, hz1, hz2⟩ := info_parts hi
    have hblk := hw.at i hm
    have hjb : w.cell? ⟨b', 0, none⟩ = some u := by simp [World.cell?, hw.at j hj]
    have hnews : ∀ q v, [u][q]? = some v → w.cell? ((⟨b', 0, none⟩ : Addr).add q) = some v := by
      intro q v hq
      rcases q with _ | q
      · simp at hq; subst hq; simpa [Addr.add_lit] using hjb
      · simp at hq
    have fin : ∀ (v' : Value) (w' : World), (Builtin.append_ #[T, T] ty #[.slice (some ⟨b, o, none⟩) l.length c, .slice (some ⟨b', 0, none⟩) 1 c']).run P w = .ok v' w' → (∃ e', RowO t (l ++ [u]) v' e' ∧ Has w0 (m.set i e') w') →
        Runs P ⟨dst, .call { callee := .builtin .append, args := #[s, x], argTypes := #[T, T] }, ty, pos, after, gd⟩ ρ w (fun v' w' => ∃ m', (∃ e', RowO t (l ++ [u]) v' e' ∧ m' = (m.set i e').eraseIdx j) ∧ Has w0 m' w') := by
      intro v' w' hrun ⟨e', h1, h2⟩
      have he : (execOp ρ ⟨dst, .call { callee := .builtin .append, args := #[s, x], argTypes := #[T, T] }, ty, pos, after, gd⟩).run P w = .ok (.value v') w' := by
        simp [execOp, resolve, invoke, builtin, hs, hx, hrun]
      unfold Runs
      rw [he]
      exact ⟨_, ⟨e', h1, rfl⟩, h2.sub (List.eraseIdx_sublist _ _)⟩
    by_cases hroom : l.length + 1 ≤ c
    · have hl := run_loadCells_list (P := P) w ⟨b', 0, none⟩ [u] hnews
      have hst := run_storeCells_at P b (o + l.length) t [u] 0 cur w hblk (by simp; omega) (by simpa using h1)
      have hrun : (Builtin.append_ #[T, T] ty #[.slice (some ⟨b, o, none⟩) l.length c, .slice (some ⟨b', 0, none⟩) 1 c']).run P w = .ok (.slice (some ⟨b, o, none⟩) (l.length + 1) c) (w.setRow b (cur.toList.take (o + l.length) ++ [u] ++ cur.toList.drop (o + l.length + 1)).toArray) := by
        simp only [Nat.add_zero, List.length_singleton] at hst hl
        simp [Builtin.append_, run_underlying hu, Builtin.lenOf, Builtin.firstCells, sizeOf, typeInfo, hi', hz1, hroom, hl, Addr.add_lit, hst]
      refine fin _ _ hrun ⟨_, .inr ⟨b, o, c, _, by simp, rfl, by simpa using hroom, hcm, ?_, ?_⟩, hw.setRow i hm _⟩
      · simp; omega
      · intro q hq
        simp at hq
        simp only [List.getElem?_toArray]
        by_cases hql : q < l.length
        · rw [List.append_assoc, List.getElem?_append_left (by simp; omega), List.getElem?_append_left hql]
          have := hcur q hql
          simp [show o + q < o + l.length by omega]
          simpa using this
        · obtain rfl : q = l.length := by omega
          rw [List.getElem?_append_left (by simp; omega), List.getElem?_append_right (by simp; omega), List.getElem?_append_right (Nat.le_refl _)]
          simp [show min (o + l.length) cur.size = o + l.length by omega]
    · have hol : l.length = l.length * inf.size := by rw [hz1]; simp
      have holds : ∀ q v, l[q]? = some v → w.cell? ((⟨b, o, none⟩ : Addr).add q) = some v := by
        intro q v hq
        have hlt := (List.getElem?_eq_some_iff.1 hq).1
        rw [Addr.add_lit]
        simp [World.cell?, hblk, hcur q hlt, hq]
      have hbb : (l.length + 1) * inf.bytes ≤ 140737488355328 := by
        rw [hz2]
        have := Nat.mul_le_mul hbound hby
        omega
      have hrun := run_append_grow (P := P) w T ty t inf z hu hi' hz0 ⟨b, o, none⟩ l.length c _ hol holds ⟨b', 0, none⟩ 1 c' [u] (by rw [hz1]; rfl) hnews (by omega) (by omega) (growslice_fits (by omega) hbb)
      refine fin _ _ hrun ⟨(some w.heap.size, .cells (l.toArray ++ [u].toArray ++ Builtin.zeroCells z.cells (grownCap w (l.length + 1) c t - (l.length + 1))) t (0, 0)), ?_, ?_⟩
      · have hg1 := grownCap_ge w (l.length + 1) c t
        refine .inr ⟨w.heap.size, 0, grownCap w (l.length + 1) c t, _, by simp, rfl, by simpa using hg1, grownCap_le_maxLen w (l.length + 1) c t (by simp only [maxLen]; omega), ?_, ?_⟩
        · simp [size_zeroCells, hz]; omega
        · intro q hq
          simp at hq
          rw [Nat.zero_add, Array.getElem?_append_left (by simp; omega)]
          simp
      · have hn := hw.newBlk (i := i) hm ((Below.refl _ w).drew.alloc (Nat.le_refl _) (.cells (l.toArray ++ [u].toArray ++ Builtin.zeroCells z.cells (grownCap w (l.length + 1) c t - (l.length + 1))) t (0, 0))) (Nat.le_refl _) (heap_alloc_new w.drew _)
        simpa using hn
end
end Go.MW

namespace Go.MW
open Go.RowKit

section
variable {P : Program} {w0 : World} {K : List Value → Mem → Prop} {E : Exit → List Value → Mem → Prop} {L : List Value} {m : Mem} {ρ : Operand → Value}
variable {dst : Option Tmp} {ty : TypeId} {pos : String} {after : Array Edge} {gd : Option (Nat × Bool)} {T : TypeId} {x y : Operand}

/-- A loop whose memory is told by the loop's own datum. -/
theorem WC_loopF {ι : Type} {c : Code} (D : List Nat) (S : ι → List (Nat × Value)) (mf : ι → Mem) (I : ι → Prop) (μ : ι → Nat) (x0 : ι) (hF : setAll L (S x0) = L) (hM : mf x0 = m) (hI : I x0)
    (round : ∀ (x : ι) (g : Nat → Value), I x → WC P w0 c (fun L' m' => ∃ x', setAll (setG L D (nth L')) (S x') = L' ∧ mf x' = m' ∧ I x' ∧ μ x' < μ x) E (setAll (setG L D g) (S x)) (mf x)) : WC P w0 (.loop c) K E L m := by
  refine WC_loop (ι := ι × (Nat → Value)) (fun x => setAll (setG L D x.2) (S x.1)) (fun x => mf x.1) (fun x => I x.1) (fun x => μ x.1) (x0, nth L) (by simp only [setG_self]; exact hF) hM hI ?_
  rintro ⟨x, g⟩ hi w hw
  refine wp_mono (round x g hi w hw) ?_
  intro e a w' hq
  cases e with
  | normal =>
    obtain ⟨L', m', rfl, hw', x', h1, h2, h3, h4⟩ := hq
    exact ⟨L', m', rfl, hw', (x', nth L'), h1, h2, h3, h4⟩
  | outgrown => exact hq
  | panic c => exact hq
  | exit id => exact hq
  | goto l => exact hq
  | ret => exact hq
/-- A call that turns a part of the memory. -/
theorem Chg_callQ (A rest : Mem) (Bf : Mem → Mem) {x : Operand} {args : List Operand} {ats : Array TypeId} {f : FuncId} {R : Value → Mem → Prop}
    (hx : ρ x = .func (.func f) #[] #[]) (hc : ∀ as w, (callFunc f as).run P w = .ok (.enter f as) w) (hp : (A ++ rest).Perm m) (hq : ∀ m1, (Bf m1).Perm (m1 ++ rest))
    (h : ∀ w, Has w0 (A ++ rest) w → Calls P f (args.map ρ).toArray w (Post w0 fun v m' => ∃ m1, R v m1 ∧ m' = m1 ++ rest)) :
    Chg P w0 m ρ ⟨dst, .call { callee := .value x, args := args.toArray, argTypes := ats }, ty, pos, after, gd⟩ (fun v m' => ∃ m1, R v m1 ∧ m' = Bf m1) := by
  refine Chg_call hx hc fun w hw => ?_
  refine (h w (hw.perm hp)).mono ?_
  rintro e1 w' ⟨v, mi', rfl, ⟨m1, hR, rfl⟩, hh⟩
  exact ⟨v, _, rfl, ⟨m1, hR, rfl⟩, hh.perm (hq m1)⟩
theorem perm_mid3 (a b c : Mem) : (b ++ (a ++ c)).Perm (a ++ (b ++ c)) := by
  rw [← List.append_assoc, ← List.append_assoc]
  exact List.Perm.append_right _ List.perm_append_comm
/-- .. its end, ahead of the rest m0. -/
theorem Chg_callT (pre A m0 : Mem) {x : Operand} {args : List Operand} {ats : Array TypeId} {f : FuncId} {R : Value → Mem → Prop}
    (hx : ρ x = .func (.func f) #[] #[]) (hc : ∀ as w, (callFunc f as).run P w = .ok (.enter f as) w) (hm : pre ++ (A ++ m0) = m)
    (h : ∀ w mm, Has w0 (A ++ mm) w → Calls P f (args.map ρ).toArray w (Post w0 fun v m' => ∃ m1, R v m1 ∧ m' = m1 ++ mm)) :
    Chg P w0 m ρ ⟨dst, .call { callee := .value x, args := args.toArray, argTypes := ats }, ty, pos, after, gd⟩ (fun v m' => ∃ m1, R v m1 ∧ m' = pre ++ (m1 ++ m0)) := by
  subst hm
  exact Chg_callQ A (pre ++ m0) (fun m1 => pre ++ (m1 ++ m0)) hx hc (perm_mid3 pre A m0) (fun m1 => perm_mid3 m1 pre m0) fun w hw => h w _ hw
/-- The place of an element of several cells. -/
theorem det_idxSn (s : Nat) {b o n c j e : Nat} {a : Int} {k : IntKind} {ad : Option Addr} (hu : P.underlying T = some (.slice e)) (hz : ∀ w, (sizeOf e).run P w = .ok (s + 1) w) (hx : ρ x = .slice ad n c) (hy : ρ y = .int k a) (hj : a = (j : Int)) (h : j < n) (ha : ad = some ⟨b, o, none⟩) :
    Det P w0 m ρ ⟨dst, .indexAddr T x y, ty, pos, after, gd⟩ (.pointer (some ⟨b, o + (s + 1) * j, none⟩)) := fun w _ => by
  subst hj ha
  have h0 : (0 : Int) ≤ (j : Int) ∧ (j : Int) < (n : Int) := by omega
  simp [execOp, hx, hy, Instr.indexAt, run_underlying hu, asIntOf, hz, h, Addr.add_lit]
  rw [Nat.mul_comm]
/-- A struct or an array, out of memory that reads so. -/
theorem det_loadLs {b o : Nat} {l : List Value} {d : TypeDesc} (hu : P.underlying T = some d) (hd : d.isRow = true) (hi : (P.info? T).map (·.size) = some l.length)
    (hx : ρ x = .pointer (some ⟨b, o, none⟩)) (hc : ∀ w, Has w0 m w → ∀ j, j < l.length → w.cell? ⟨b, o + j, none⟩ = l[j]?) : Det P w0 m ρ ⟨dst, .load T x, ty, pos, after, gd⟩ (.agg l.toArray) := fun w hw => by
  have hr : w.rangeAt b o l := fun j v hj => by
    have hlt := (List.getElem?_eq_some_iff.1 hj).1
    rw [hc w hw j hlt, hj]
  have h := run_loadVar_mid (P := P) w b o T _ d hr hu hd hi
  simp [execOp, hx, Instr.loadAt, Instr.sureAddr, h]
/-- A struct stored whole, and read whole. -/
theorem chg_storeWn (i n : Nat) {b : Nat} {c c' : Array Value} {t : TypeId} {v : Value} (hx : ρ x = .pointer (some ⟨b, 0, none⟩)) (hm : m[i]? = some (some b, .cells c t (0, 0))) (hn : c.size = n) (hz : ∀ w, (sizeOf T).run P w = .ok n w) (hy : ρ y = v) (hc : v.cells = c') (hs : c'.size = n) (hv : ∀ u ∈ c'.toList, u.oneCell' = true) :
    Chg P w0 m ρ ⟨dst, .store T x y, ty, pos, after, gd⟩ (fun _ m' => m' = m.set i (some b, .cells c' t (0, 0))) := by
  subst hn
  exact chg_storeW i hz hx hm hy hc hs hv
end
end Go.MW

namespace Go.MW
open Go.RowKit

/-- The block and the place that a slice begins at. -/
def sbk : Value → Nat
  | .slice (some a) _ _ => a.block
  | _ => 0
def sof : Value → Nat
  | .slice (some a) _ _ => a.off
  | _ => 0
theorem RdL.parts {w : World} {l : List Value} {v : Value} (h : RdL w l v) : ∃ p c, v = .slice p l.length c ∧ (0 < l.length → p = some ⟨sbk v, sof v, none⟩) ∧ ∀ i, i < l.length → w.cell? ⟨sbk v, sof v + i, none⟩ = l[i]? := by
  obtain ⟨p, c, b, o, rfl, hp, hc⟩ := h
  refine ⟨p, c, rfl, fun h => ?_, fun i hi => ?_⟩
  · obtain rfl := hp h; rfl
  · obtain rfl := hp (by omega); exact hc i hi
theorem RdL.far {w0 w : World} {m : Mem} (hw : Has w0 m w) {l : List Value} {v : Value} (h : RdL w0 l v) : RdL w l v := by
  obtain ⟨p, c, b, o, h1, h2, h3⟩ := h
  refine ⟨p, c, b, o, h1, h2, fun i hi => ?_⟩
  have h4 := h3 i hi
  rw [List.getElem?_eq_getElem hi] at h4 ⊢
  exact hw.far h4
theorem RdL.nil (w : World) : RdL w [] (.slice none 0 0) := ⟨none, 0, 0, 0, rfl, fun h => absurd h (Nat.lt_irrefl _), fun i hi => absurd hi (Nat.not_lt_zero _)⟩

structure KeyK (α : Type) [DecidableEq α] where
  kv : α → Value
  d : TypeDesc
  one : ∀ a, (kv a).oneCell' = true
  same : ∀ a b, Instr.sameNow d (kv a) (kv b) = some (decide (a = b))
  key : ∀ a, MapKept.IsKey d (kv a)
section
variable {α : Type} [DecidableEq α] (Kk : KeyK α)
def entsF (k : Nat) (L : List α) : List MapEntry := L.zipIdx k |>.map fun x => { key := Kk.kv x.1, val := vn .i64 x.2, born := x.2 }
def mapO (L : List α) : Obj := .map (entsF Kk 0 L).toArray L.length
def ixv (L : List α) (x : α) : Nat := if x ∈ L then L.idxOf x else 0
theorem findNow_ents (x : α) : ∀ (L : List α) (k j : Nat), Instr.findNow Kk.d (Kk.kv x) (entsF Kk k L) j = some (if x ∈ L then some (j + L.idxOf x, vn .i64 (k + L.idxOf x)) else none)
  | [], k, j => by simp [entsF, Instr.findNow]
  | y :: L, k, j => by
    have ih := findNow_ents x L (k + 1) (j + 1)
    have e : entsF Kk k (y :: L) = { key := Kk.kv y, val := vn .i64 k, born := k } :: entsF Kk (k + 1) L := by simp [entsF, List.zipIdx_cons]
    rw [e, Instr.findNow, Kk.same]
    by_cases h : x = y
    · subst h
      simp
    · rw [decide_eq_false h]
      simp only
      rw [ih]
      by_cases hm : x ∈ L
      · have hyx : (y == x) = false := by simpa using fun e : y = x => h e.symm
        simp [hm, h, List.idxOf_cons, hyx]
        exact ⟨by omega, by first | omega | (congr 1; omega)⟩
      · simp [hm, h]
end
section
variable {P : Program} {w0 : World} {m : Mem} {ρ : Operand → Value} {dst : Option Tmp} {ty : TypeId} {pos : String} {after : Array Edge} {gd : Option (Nat × Bool)} {T : TypeId} {x y z : Operand}
theorem run_eqI_MN (w : World) (d : Nat) {T k e : TypeId} (c : Option Nat) (hu : P.underlying T = some (.map k e)) : (Op.equalIn (d + 1) T (.map c) (.map none)).run P w = .ok c.isNone w := by
  rw [Op.equalIn]
  cases c <;> simp [run_underlying hu]
theorem det_neqMN {c : Option Nat} {k e : TypeId} (hx : ρ x = .map c) (hy : ρ y = .map none) (hu : P.underlying T = some (.map k e)) : Det P w0 m ρ ⟨dst, .binOp .neq T x y T, ty, pos, after, gd⟩ (.bool (!c.isNone)) := fun w _ => by
  simp [execOp, hx, hy, eqGuard_at_map, binOp, Op.equal, Op.maxDepth, run_eqI_MN w 9999 c hu]
theorem rel_makeMap : Rel P w0 m ρ ⟨dst, .makeMap T none, ty, pos, after, gd⟩ (fun v mi => ∃ b, v = .map (some b) ∧ mi = [(some b, .map #[] 0)]) := by
  intro w _
  have h : (execOp ρ ⟨dst, .makeMap T none, ty, pos, after, gd⟩).run P w = .ok (.value (.map (some w.heap.size))) (w.alloc (.map #[] 0)) := by
    simp [execOp, run_makeMap]
  unfold Runs
  rw [h]
  exact ⟨_, ⟨_, rfl, rfl⟩, Has.alloc w _⟩
theorem run_look {α : Type} [DecidableEq α] (Kk : KeyK α) {b : Nat} {L : List α} {k e : TypeId} (hu : P.underlying T = some (.map k e)) (hk : P.underlying k = some Kk.d) (hz : ∀ w, (zeroValue e).run P w = .ok (vn .i64 0) w) (a : α) {w : World} (hb : w.heap[b]? = some (mapO Kk L)) :
    (Instr.lookup T (.map (some b)) (Kk.kv a) true).run P w = .ok (.tuple #[vn .i64 (ixv L a), .bool (decide (a ∈ L))]) w := by
  have hf := findNow_ents Kk a L 0 0
  have hc := fun e n => MapKept.run_checkKey (P := P) (w := w) hk (Kk.key a) e n
  have hc' : ∀ e, (Instr.checkKey e 10000 k (Kk.kv a)).run P w = .ok () w := fun e => hc e 9999
  have hg := MapKept.run_getObj_map (P := P) hb
  by_cases hm : a ∈ L
  · simp [hm] at hf
    simp [Instr.lookup, run_underlying hu, hg, hc', Instr.findKey, run_underlying hk, hf, hm, ixv]
  · simp [hm] at hf
    simp [Instr.lookup, run_underlying hu, hg, hc', Instr.findKey, run_underlying hk, hf, hm, ixv, hz]
theorem det_look {α : Type} [DecidableEq α] (Kk : KeyK α) {b : Nat} {L : List α} {k e : TypeId} (a : α) (hu : P.underlying T = some (.map k e)) (hk : P.underlying k = some Kk.d) (hz : ∀ w, (zeroValue e).run P w = .ok (vn .i64 0) w)
    (hx : ρ x = .map (some b)) (hy : ρ y = Kk.kv a) (hb : ∀ w, Has w0 m w → w.heap[b]? = some (mapO Kk L)) :
    Det P w0 m ρ ⟨dst, .lookup T x y true, ty, pos, after, gd⟩ (.tuple #[vn .i64 (ixv L a), .bool (decide (a ∈ L))]) := fun w hw => by
  simp [execOp, hx, hy, run_look Kk hu hk hz a (hb w hw)]
theorem chg_mapPut {α : Type} [DecidableEq α] (Kk : KeyK α) (i : Nat) {b : Nat} {L : List α} {k e : TypeId} (a : α) (hu : P.underlying T = some (.map k e)) (hk : P.underlying k = some Kk.d)
    (hx : ρ x = .map (some b)) (hy : ρ y = Kk.kv a) (hv : ρ z = vn .i64 L.length) (hm : m[i]? = some (some b, mapO Kk L)) (hn : a ∉ L) :
    Chg P w0 m ρ ⟨dst, .mapUpdate T x y z, ty, pos, after, gd⟩ (fun _ m' => m' = m.set i (some b, mapO Kk (L ++ [a]))) := by
  intro w hw
  have hb := hw.at i hm
  have hf := findNow_ents Kk a L 0 0
  simp [hn] at hf
  have hc' : ∀ e, (Instr.checkKey e 10000 k (Kk.kv a)).run P w = .ok () w := fun e => MapKept.run_checkKey (P := P) (w := w) hk (Kk.key a) e 9999
  have ho : mapO Kk (L ++ [a]) = .map ((entsF Kk 0 L).toArray.push { key := Kk.kv a, val := vn .i64 L.length, born := L.length }) (L.length + 1) := by
    simp [mapO, entsF, List.zipIdx_append]
  have he : (execOp ρ ⟨dst, .mapUpdate T x y z, ty, pos, after, gd⟩).run P w = .ok .skip { w with heap := w.heap.setIfInBounds b (mapO Kk (L ++ [a])) } := by
    rw [ho]
    simp [execOp, hx, hy, hv, Instr.mapUpdate, run_underlying hu, MapKept.run_getObj_map hb, hc', Instr.findKey, run_underlying hk, hf, MapKept.run_setObj_map _ hb]
  unfold Runs
  rw [he]
  refine ⟨_, rfl, hw.set i hm _ rfl rfl rfl (by simp) ?_ fun k hk => ?_⟩
  · have := (Array.getElem?_eq_some_iff.1 hb).1
    simp [this]
  · show (w.heap.setIfInBounds b _)[k]? = _
    rw [Array.getElem?_setIfInBounds_ne (fun e => hk e.symm)]
theorem det_lenR {n : Nat} {e : TypeId} {l : List Value} {v : Value} (hu : P.underlying T = some (.slice e)) (hx : ρ x = v) (hr : ∀ w, Has w0 m w → RdL w l v) (hn : l.length = n) :
    Det P w0 m ρ ⟨dst, .call { callee := .builtin .len, args := #[x], argTypes := #[T] }, ty, pos, after, gd⟩ (vn .i64 n) := fun w hw => by
  obtain ⟨p, c, h, _⟩ := (hr w hw).parts
  subst hn
  exact det_len hu (hx.trans h) w hw
theorem det_idxR {j e : Nat} {a : Int} {k : IntKind} {l : List Value} {v : Value} (hu : P.underlying T = some (.slice e)) (hz : ∀ w, (sizeOf e).run P w = .ok 1 w) (hx : ρ x = v) (hy : ρ y = .int k a) (hj : a = (j : Int)) (h : j < l.length) (hr : ∀ w, Has w0 m w → RdL w l v) :
    Det P w0 m ρ ⟨dst, .indexAddr T x y, ty, pos, after, gd⟩ (.pointer (some ⟨sbk v, sof v + j, none⟩)) := fun w hw => by
  obtain ⟨p, c, h1, h2, _⟩ := (hr w hw).parts
  exact det_idxS hu hz (hx.trans h1) hy hj h (h2 (by omega)) w hw
theorem det_loadR {j : Nat} {l : List Value} {v u : Value} (hg : ∀ w, (isAgg T).run P w = .ok false w) (hx : ρ x = .pointer (some ⟨sbk v, sof v + j, none⟩)) (hr : ∀ w, Has w0 m w → RdL w l v) (hj : l[j]? = some u) :
    Det P w0 m ρ ⟨dst, .load T x, ty, pos, after, gd⟩ u :=
  det_loadAt hg hx fun w hw => by
    obtain ⟨p, c, _, _, h3⟩ := (hr w hw).parts
    rw [h3 j (List.getElem?_eq_some_iff.1 hj).1, hj]
/-- append of one thing whose literal lies at the memory's end. -/
theorem chg_appendOE (A : Mem) (i : Nat) {s : Operand} {e : Option Nat × Obj} {t t' : TypeId} {l : List Value} {c' b' bytes : Nat} {v z u : Value} {fz : Nat × Nat} (hm : A ++ [(some b', .cells #[u] t' fz)] = m) (hi : A[i]? = some e) (hr : RowO t l v e) (hs : ρ s = v) (hx : ρ x = .slice (some ⟨b', 0, none⟩) 1 c') (h1 : u.oneCell' = true)
    (hu : P.underlying T = some (.slice t)) (hinf : (P.info? t).map (fun i => (i.zero, i.size, i.bytes)) = some (some z, 1, bytes)) (hz : z.cells.size = 1) (hbound : l.length + 1 ≤ 1099511627776) (hby : bytes ≤ 64) :
    Chg P w0 m ρ ⟨dst, .call { callee := .builtin .append, args := #[s, x], argTypes := #[T, T] }, ty, pos, after, gd⟩ (fun v' m' => ∃ e', RowO t (l ++ [u]) v' e' ∧ m' = A.set i e') := by
  subst hm
  have hlt : i < A.length := (List.getElem?_eq_some_iff.1 hi).1
  have h := chg_appendO1 (P := P) (w0 := w0) (ρ := ρ) (dst := dst) (ty := ty) (pos := pos) (after := after) (gd := gd) (m := A ++ [(some b', .cells #[u] t' fz)]) i A.length (by rw [List.getElem?_append_left hlt]; exact hi) (by omega) hr hs hx (show (A ++ [(some b', .cells #[u] t' fz)])[A.length]? = some (some b', .cells #[u] t' fz) by simp) h1 hu hinf hz hbound hby
  intro w hw
  refine Runs_mono (h w hw) ?_
  rintro v' w' ⟨m', ⟨e', h2, rfl⟩, h3⟩
  refine ⟨_, ⟨e', h2, rfl⟩, ?_⟩
  rw [List.set_append_left _ _ hlt, List.eraseIdx_append_of_length_le (by simp)] at h3
  simpa using h3
end
theorem RowO.pos {t : TypeId} {l : List Value} {v : Value} {e : Option Nat × Obj} (h : RowO t l v e) (hn : 0 < l.length) : ∃ b o c cur, v = .slice (some ⟨b, o, none⟩) l.length c ∧ e = (some b, .cells cur t (0, 0)) ∧ l.length ≤ c ∧ c ≤ maxLen ∧ o + c ≤ cur.size ∧ ∀ i, i < l.length → cur[o + i]? = l[i]? := by
  rcases h with ⟨_, rfl⟩ | h
  · simp at hn
  · exact h
theorem RowO.put {t : TypeId} {l : List Value} {n b o c : Nat} {cur : Array Value} (hn : l.length = n) (hc : n ≤ c) (hm : c ≤ maxLen) (hs : o + c ≤ cur.size) (hcur : ∀ i, i < n → cur[o + i]? = l[i]?) {j : Nat} (hj : j < n) (u : Value) :
    RowO t (l.set j u) (.slice (some ⟨b, o, none⟩) n c) (some b, .cells (cur.setIfInBounds (o + j) u) t (0, 0)) := by
  refine .inr ⟨b, o, c, _, by rw [List.length_set, hn], rfl, by rw [List.length_set, hn]; exact hc, hm, by simpa using hs, fun i hi => ?_⟩
  rw [List.length_set, hn] at hi
  rw [Array.getElem?_setIfInBounds, List.getElem?_set]
  by_cases e : j = i
  · subst e; rw [if_pos rfl, if_pos rfl, if_pos (by omega), if_pos (by omega)]
  · rw [if_neg (by omega), if_neg e]; exact hcur i hi
end Go.MW

namespace Go.MW
open Go.RowKit

def pk (e : Int × Int) : List Value := [.int .i64 e.1, .int .i64 e.2]
/-- A slice that reads pairs. -/
def RdP (w : World) (L : List (Int × Int)) (v : Value) : Prop := ∃ p c b o, v = .slice p L.length c ∧ (0 < L.length → p = some ⟨b, o, none⟩) ∧
  ∀ i, i < L.length → w.cell? ⟨b, o + 2 * i, none⟩ = some (.int .i64 (L.getD i (0, 0)).1) ∧ w.cell? ⟨b, o + 2 * i + 1, none⟩ = some (.int .i64 (L.getD i (0, 0)).2)
theorem RdP.parts {w : World} {L : List (Int × Int)} {v : Value} (h : RdP w L v) : ∃ p c, v = .slice p L.length c ∧ (0 < L.length → p = some ⟨sbk v, sof v, none⟩) ∧
    ∀ i, i < L.length → w.cell? ⟨sbk v, sof v + 2 * i, none⟩ = some (.int .i64 (L.getD i (0, 0)).1) ∧ w.cell? ⟨sbk v, sof v + 2 * i + 1, none⟩ = some (.int .i64 (L.getD i (0, 0)).2) := by
  obtain ⟨p, c, b, o, rfl, hp, hc⟩ := h
  refine ⟨p, c, rfl, fun h => ?_, fun i hi => ?_⟩
  · obtain rfl := hp h; rfl
  · obtain rfl := hp (by omega); exact hc i hi
theorem RdP.far {w0 w : World} {m : Mem} (hw : Has w0 m w) {L : List (Int × Int)} {v : Value} (h : RdP w0 L v) : RdP w L v := by
  obtain ⟨p, c, b, o, h1, h2, h3⟩ := h
  exact ⟨p, c, b, o, h1, h2, fun i hi => ⟨hw.far (h3 i hi).1, hw.far (h3 i hi).2⟩⟩
theorem pk_one (e : Int × Int) : ∀ u ∈ (pk e).toArray.toList, u.oneCell' = true := by
  intro u hu
  simp only [pk, List.mem_cons, List.not_mem_nil, or_false] at hu
  rcases hu with rfl | rfl <;> rfl
section
variable {P : Program} {w0 : World} {m : Mem} {ρ : Operand → Value} {dst : Option Tmp} {ty : TypeId} {pos : String} {after : Array Edge} {gd : Option (Nat × Bool)} {T : TypeId} {x y z : Operand} {L : List (Int × Int)} {v : Value}
theorem det_lenP {e : TypeId} (hu : P.underlying T = some (.slice e)) (hx : ρ x = v) (hr : ∀ w, Has w0 m w → RdP w L v) :
    Det P w0 m ρ ⟨dst, .call { callee := .builtin .len, args := #[x], argTypes := #[T] }, ty, pos, after, gd⟩ (vn .i64 L.length) := fun w hw => by
  obtain ⟨p, c, h, _⟩ := (hr w hw).parts
  exact det_len hu (hx.trans h) w hw
theorem det_idxP {j e : Nat} {a : Int} {k : IntKind} (hu : P.underlying T = some (.slice e)) (hz : ∀ w, (sizeOf e).run P w = .ok 2 w) (hx : ρ x = v) (hy : ρ y = .int k a) (hj : a = (j : Int)) (h : j < L.length) (hr : ∀ w, Has w0 m w → RdP w L v) :
    Det P w0 m ρ ⟨dst, .indexAddr T x y, ty, pos, after, gd⟩ (.pointer (some ⟨sbk v, sof v + 2 * j, none⟩)) := fun w hw => by
  obtain ⟨p, c, h1, h2, _⟩ := (hr w hw).parts
  exact det_idxSn 1 hu hz (hx.trans h1) hy hj h (h2 (by omega)) w hw
theorem det_loadP {j : Nat} {d : TypeDesc} (hu : P.underlying T = some d) (hd : d.isRow = true) (hi : (P.info? T).map (·.size) = some 2) (hx : ρ x = .pointer (some ⟨sbk v, sof v + 2 * j, none⟩)) (hr : ∀ w, Has w0 m w → RdP w L v) (h : j < L.length) :
    Det P w0 m ρ ⟨dst, .load T x, ty, pos, after, gd⟩ (.agg (pk (L.getD j (0, 0))).toArray) :=
  det_loadLs hu hd hi hx fun w hw k hk => by
    obtain ⟨p, c, _, _, h3⟩ := (hr w hw).parts
    obtain ⟨h4, h5⟩ := h3 j h
    simp only [pk, List.length_cons, List.length_nil] at hk
    rcases (by omega : k = 0 ∨ k = 1) with rfl | rfl
    · exact h4
    · exact h5
/-- The place of an array's element, wherever the array lies. -/
theorem det_idxAo {b o n j e : Nat} {a : Int} {k : IntKind} (hu : P.underlying T = some (.array n e)) (hz : ∀ w, (sizeOf e).run P w = .ok 1 w) (hx : ρ x = .pointer (some ⟨b, o, none⟩)) (hy : ρ y = .int k a) (hj : a = (j : Int)) (h : j < n) :
    Det P w0 m ρ ⟨dst, .indexAddr T x y, ty, pos, after, gd⟩ (.pointer (some ⟨b, o + j, none⟩)) := fun w _ => by
  subst hj
  have h0 : (0 : Int) ≤ (j : Int) ∧ (j : Int) < (n : Int) := by omega
  simp [execOp, hx, hy, Instr.indexAt, run_underlying hu, asIntOf, hz, h, Addr.add_lit, Instr.sureAddr]
theorem det_loadP0 {j : Nat} (hg : ∀ w, (isAgg T).run P w = .ok false w) (hx : ρ x = .pointer (some ⟨sbk v, sof v + 2 * j, none⟩)) (hr : ∀ w, Has w0 m w → RdP w L v) (h : j < L.length) :
    Det P w0 m ρ ⟨dst, .load T x, ty, pos, after, gd⟩ (.int .i64 (L.getD j (0, 0)).1) :=
  det_loadAt hg hx fun w hw => by
    obtain ⟨p, c, _, _, h3⟩ := (hr w hw).parts
    exact (h3 j h).1
theorem det_loadP1 {j : Nat} (hg : ∀ w, (isAgg T).run P w = .ok false w) (hx : ρ x = .pointer (some ⟨sbk v, sof v + 2 * j + 1, none⟩)) (hr : ∀ w, Has w0 m w → RdP w L v) (h : j < L.length) :
    Det P w0 m ρ ⟨dst, .load T x, ty, pos, after, gd⟩ (.int .i64 (L.getD j (0, 0)).2) :=
  det_loadAt hg hx fun w hw => by
    obtain ⟨p, c, _, _, h3⟩ := (hr w hw).parts
    exact (h3 j h).2
end
end Go.MW

namespace Go.MW
open Go.RowKit

section
variable {P : Program} {w0 : World} {m : Mem} {ρ : Operand → Value} {dst : Option Tmp} {ty : TypeId} {pos : String} {after : Array Edge} {gd : Option (Nat × Bool)} {T : TypeId}
/-- An array that is built of its elements. -/
theorem det_buildA {n e : Nat} {z : Value} {c : Array Value} {parts : Array (Nat × Operand)} (hz : ∀ w, (zeroValue T).run P w = .ok z w) (hu : P.underlying T = some (.array n e)) (hs : ∀ w, (sizeOf e).run P w = .ok 1 w)
    (hf : Instr.fill (fun i => some (i * 1, 1)) z.cells (parts.map fun p => (p.1, ρ p.2)).toList = some c) : Det P w0 m ρ ⟨dst, .build T parts, ty, pos, after, gd⟩ (.agg c) := fun w _ => by
  simp only [execOp, Instr.build]
  simp [hz, run_underlying hu, hs]
  simp at hf
  simp [hf]
/-- A slice that is written out, its elements of several cells. -/
theorem rel_litN (s : Nat) {n : Nat} {e : TypeId} {z : Value} {c : Array Value} {parts : Array (Nat × Operand)} (hu : P.underlying T = some (.slice e)) (hz : ∀ w, (zeroValue e).run P w = .ok z w) (hs : ∀ w, (sizeOf e).run P w = .ok s w) (hn : 0 < n * s) (hb : n * s ≤ 16777216)
    (hf : Instr.fill (fun i => some (i * s, s)) ((Array.range (n * s)).map (z.cells[· % z.cells.size]!)) (parts.map fun p => (p.1, ρ p.2)).toList = some c) :
    Rel P w0 m ρ ⟨dst, .buildSlice T n parts, ty, pos, after, gd⟩ (IsSl n c e) := by
  intro w _
  have h : (execOp ρ ⟨dst, .buildSlice T n parts, ty, pos, after, gd⟩).run P w = .ok (.value (.slice (some ⟨w.heap.size, 0, none⟩) n n)) (w.alloc (.cells c e (0, 0))) := by
    have h1 : ¬ 16777216 < n * s := by omega
    simp only [execOp, Instr.buildSlice]
    simp [run_underlying hu, hs, hz, h1, newRow]
    simp at hf
    simp [hf]
    intro h2
    exact absurd h2 (Nat.ne_of_gt hn)
  unfold Runs
  rw [h]
  exact ⟨_, ⟨_, rfl, rfl⟩, Has.alloc w _⟩
end
section
variable {P : Program} {w0 : World} {K : List Value → Mem → Prop} {E : Exit → List Value → Mem → Prop} {L : List Value} {m : Mem} {ops : Array Oper} {rest : List Oper} {o : Oper}
theorem WL_relAtG (k : Nat) {R : Value → Mem → Prop} (hg : Region.wanted o (yielded ops L.toArray) = true) (h : Rel P w0 m (ev L) o R) (kk : ∀ v mi, R v mi → WL P w0 ops K E rest (put L o.dst v) (m.take k ++ (mi ++ m.drop k))) :
    WL P w0 ops K E (o :: rest) L m :=
  WL_relG hg h fun v mi hr w hw => kk v mi hr w (hw.perm (perm_mid m mi k))
end
end Go.MW

namespace Go.MW
open Go.RowKit

/-- A row of pairs that begins its block; or nil. -/
def RowP (t : TypeId) (L : List (Int × Int)) (v : Value) (e : Option Nat × Obj) : Prop :=
  (v = .slice none 0 0 ∧ L = []) ∨
  ∃ b c cur, v = .slice (some ⟨b, 0, none⟩) L.length c ∧ e = (some b, .cells cur t (0, 0)) ∧ L.length ≤ c ∧ c ≤ maxLen ∧ 2 * c ≤ cur.size ∧ ∀ i, i < 2 * L.length → cur[i]? = (L.flatMap pk)[i]?
theorem RowP.nil (t : TypeId) (e : Option Nat × Obj) : RowP t [] (.slice none 0 0) e := .inl ⟨rfl, rfl⟩
theorem pk_flat_len (L : List (Int × Int)) : (L.flatMap pk).length = 2 * L.length := by
  induction L with
  | nil => rfl
  | cons x L ih => rw [List.flatMap_cons, List.length_append, ih, List.length_cons]; show 2 + 2 * L.length = _; omega
theorem pk_flat_at : ∀ (L : List (Int × Int)) (i : Nat), i < L.length → (L.flatMap pk)[2 * i]? = some (.int .i64 (L.getD i (0, 0)).1) ∧ (L.flatMap pk)[2 * i + 1]? = some (.int .i64 (L.getD i (0, 0)).2) := by
  intro L
  induction L with
  | nil => intro i hi; simp at hi
  | cons x L ih =>
    intro i hi
    cases i with
    | zero => exact ⟨rfl, rfl⟩
    | succ i => exact ih i (by simpa using hi)
theorem RowP.rd {w0 w : World} {m : Mem} (hw : Has w0 m w) (i : Nat) {e : Option Nat × Obj} (hm : m[i]? = some e) {t : TypeId} {L : List (Int × Int)} {v : Value} (h : RowP t L v e) : RdP w L v := by
  rcases h with ⟨rfl, rfl⟩ | ⟨b, c, cur, rfl, rfl, _, _, _, h4⟩
  · exact ⟨none, 0, 0, 0, rfl, fun h => by simp at h, fun i hi => by simp at hi⟩
  · refine ⟨_, c, b, 0, rfl, fun _ => rfl, fun j hj => ?_⟩
    obtain ⟨h1, h2⟩ := pk_flat_at L j hj
    rw [Nat.zero_add]
    constructor
    · simp [World.cell?, hw.at i hm, h4 (2 * j) (by omega), h1]
    · simp [World.cell?, hw.at i hm, h4 (2 * j + 1) (by omega), h2]
section
variable {P : Program} {w0 : World} {m : Mem} {ρ : Operand → Value} {dst : Option Tmp} {ty : TypeId} {pos : String} {after : Array Edge} {gd : Option (Nat × Bool)} {T T' : TypeId} {x y s : Operand}
theorem infoP {t : TypeId} {z : Value} {n b : Nat} (h : (P.info? t).map (fun i => (i.zero, i.size, i.bytes)) = some (some z, n, b)) : ∃ i, P.info? t = some i ∧ i.zero = some z ∧ i.size = n ∧ i.bytes = b := by
  cases hi : P.info? t with
  | none => rw [hi] at h; cases h
  | some i =>
    rw [hi] at h
    simp only [Option.map_some, Option.some.injEq, Prod.mk.injEq] at h
    exact ⟨i, rfl, h.1, h.2.1, h.2.2⟩
/-- append of one pair that a literal holds, the literal's block forgotten. -/
theorem chg_appendP (i j : Nat) {e : Option Nat × Obj} {t t' : TypeId} {L : List (Int × Int)} {p : Int × Int} {c' b' bytes : Nat} {v z : Value} {fz : Nat × Nat} (hm : m[i]? = some e) (hr : RowP t L v e) (hs : ρ s = v) (hx : ρ x = .slice (some ⟨b', 0, none⟩) 1 c') (hj : m[j]? = some (some b', .cells (pk p).toArray t' fz))
    (hu : P.underlying T = some (.slice t)) (hi : (P.info? t).map (fun i => (i.zero, i.size, i.bytes)) = some (some z, 2, bytes)) (hz : z.cells.size = 2) (hbound : L.length + 1 ≤ 1099511627776) (hby : bytes ≤ 64) :
    Chg P w0 m ρ ⟨dst, .call { callee := .builtin .append, args := #[s, x], argTypes := #[T, T] }, ty, pos, after, gd⟩ (fun v' m' => ∃ e', RowP t (L ++ [p]) v' e' ∧ m' = (m.set i e').eraseIdx j) := by
  intro w hw
  obtain ⟨inf, hi', hz0, hz1, hz2⟩ := infoP hi
  have hjb := hw.at j hj
  have hml : (pk p).length = 1 * inf.size := by rw [hz1]; rfl
  have hnews : ∀ q v, (pk p)[q]? = some v → w.cell? ((⟨b', 0, none⟩ : Addr).add q) = some v := by
    intro q v hq
    rw [Addr.add_lit, Nat.zero_add]
    simp [World.cell?, hjb, hq]
  have h1 : ∀ u ∈ pk p, u.oneCell' = true := fun u hu => pk_one p u (by simpa using hu)
  have hbb : (L.length + 1) * inf.bytes ≤ 140737488355328 := by
    rw [hz2]
    have := Nat.mul_le_mul hbound hby
    omega
  have hflat : (L ++ [p]).flatMap pk = L.flatMap pk ++ pk p := by simp
  have hfl := pk_flat_len L
  have fin : ∀ (v' : Value) (w' : World), (Builtin.append_ #[T, T] ty #[v, .slice (some ⟨b', 0, none⟩) 1 c']).run P w = .ok v' w' → (∃ e', RowP t (L ++ [p]) v' e' ∧ Has w0 (m.set i e') w') →
      Runs P ⟨dst, .call { callee := .builtin .append, args := #[s, x], argTypes := #[T, T] }, ty, pos, after, gd⟩ ρ w (fun v' w' => ∃ m', (∃ e', RowP t (L ++ [p]) v' e' ∧ m' = (m.set i e').eraseIdx j) ∧ Has w0 m' w') := by
    intro v' w' hrun ⟨e', h1, h2⟩
    have he : (execOp ρ ⟨dst, .call { callee := .builtin .append, args := #[s, x], argTypes := #[T, T] }, ty, pos, after, gd⟩).run P w = .ok (.value v') w' := by
      simp [execOp, resolve, invoke, builtin, hs, hx, hrun]
    unfold Runs
    rw [he]
    exact ⟨_, ⟨e', h1, rfl⟩, h2.sub (List.eraseIdx_sublist _ _)⟩
  -- what is new lies in a new block
  have newb : ∀ (cap : Nat), L.length + 1 ≤ cap → cap ≤ maxLen → ∀ (olds : List Value), olds = L.flatMap pk →
      ∃ e', RowP t (L ++ [p]) (.slice (some ⟨w.heap.size, 0, none⟩) (L.length + 1) cap) e' ∧
        Has w0 (m.set i e') (w.drew.alloc (.cells (olds.toArray ++ (pk p).toArray ++ Builtin.zeroCells z.cells (cap - (L.length + 1))) t)) := by
    intro cap hcap hmax olds hol
    subst hol
    refine ⟨(some w.heap.size, .cells ((L.flatMap pk).toArray ++ (pk p).toArray ++ Builtin.zeroCells z.cells (cap - (L.length + 1))) t (0, 0)), .inr ⟨w.heap.size, cap, _, by simp, rfl, by simpa using hcap, hmax, ?_, ?_⟩, ?_⟩
    · have : (pk p).length = 2 := rfl
      rw [Array.size_append, Array.size_append, size_zeroCells, hz]
      simp only [List.size_toArray, hfl, this]
      omega
    · intro q hq
      rw [hflat]
      simp only [List.length_append, List.length_singleton] at hq
      have : (pk p).length = 2 := rfl
      rw [Array.getElem?_append_left (by rw [Array.size_append]; simp only [List.size_toArray, hfl, this]; omega)]
      rw [List.append_toArray, List.getElem?_toArray]
    · exact hw.newBlk (i := i) hm ((Below.refl _ _).drew.alloc (Nat.le_refl _) _) (Nat.le_refl _) (heap_alloc_new w.drew _)
  rcases hr with ⟨rfl, rfl⟩ | ⟨b, c, cur, rfl, rfl, hlc, hcm, hsz, hcur⟩
  · have hrun := run_append_nil (P := P) w T ty t inf z hu hi' hz0 ⟨b', 0, none⟩ 1 c' _ hml hnews (by decide) (by decide) (by rw [List.length_nil, Nat.zero_add] at hbb; omega)
    refine fin _ _ hrun ?_
    have := newb (grownCap w 1 0 t) (grownCap_ge w 1 0 t) (grownCap_le_maxLen w 1 0 t (by decide)) [] rfl
    simpa using this
  · have hblk := hw.at i hm
    by_cases hroom : L.length + 1 ≤ c
    · have hfit : L.length * inf.size + (pk p).length ≤ cur.size := by
        have : (pk p).length = 2 := rfl
        rw [this, hz1]; omega
      have hrun := run_append_room (P := P) w T ty t inf hu hi' b L.length c cur hblk ⟨b', 0, none⟩ 1 c' _ hml hnews h1 hroom hfit
      refine fin _ _ hrun ⟨_, .inr ⟨b, c, _, by simp, rfl, by simpa using hroom, hcm, ?_, ?_⟩, hw.setRow i hm _⟩
      · have : (pk p).length = 2 := rfl
        simp [hz1, this]; omega
      · intro q hq
        rw [hflat]
        have hp2 : (pk p).length = 2 := rfl
        simp only [List.length_append, List.length_singleton] at hq
        simp only [hz1, List.getElem?_toArray]
        by_cases hql : q < 2 * L.length
        · rw [List.append_assoc, List.getElem?_append_left (by simp; omega), List.getElem?_append_left (by omega)]
          have := hcur q hql
          rw [← this]
          simp [show q < L.length * 2 by omega]
        · rw [List.getElem?_append_left (by simp [hp2]; omega), List.getElem?_append_right (by simp; omega), List.getElem?_append_right (by omega)]
          congr 1
          have hcl : cur.toList.length = cur.size := Array.length_toList
          rw [List.length_take, hcl, hfl]
          omega
    · have hol : (L.flatMap pk).length = L.length * inf.size := by rw [hz1, hfl]; omega
      have holds : ∀ q v, (L.flatMap pk)[q]? = some v → w.cell? ((⟨b, 0, none⟩ : Addr).add q) = some v := by
        intro q v hq
        have hlt := (List.getElem?_eq_some_iff.1 hq).1
        rw [hfl] at hlt
        rw [Addr.add_lit, Nat.zero_add]
        simp [World.cell?, hblk, hcur q hlt, hq]
      have hrun := run_append_grow (P := P) w T ty t inf z hu hi' hz0 ⟨b, 0, none⟩ L.length c _ hol holds ⟨b', 0, none⟩ 1 c' _ hml hnews (by omega) (by omega) (growslice_fits (by omega) hbb)
      exact fin _ _ hrun (newb _ (grownCap_ge w (L.length + 1) c t) (grownCap_le_maxLen w (L.length + 1) c t (by simp only [maxLen]; omega)) _ rfl)
theorem run_equalIn_pk (w : World) (d : Nat) {T e : Nat} (a b : Int × Int) (hu : P.underlying T = some (.array 2 e)) (hz : ∀ w, (sizeOf e).run P w = .ok 1 w) (hg : ∀ w, (isAgg e).run P w = .ok false w) (he : P.underlying e = some (.int .i64)) :
    (Op.equalIn (d + 2) T (.agg (pk a).toArray) (.agg (pk b).toArray)).run P w = .ok (decide (a = b)) w := by
  have hp0 : ∀ (a : Int × Int), (part e (pk a).toArray (0 * 1)).run P w = .ok (.int .i64 a.1) w := fun a => by
    simp [part, hg, pk]
  have hp1 : ∀ (a : Int × Int), (part e (pk a).toArray (1 * 1)).run P w = .ok (.int .i64 a.2) w := fun a => by
    simp [part, hg, pk]
  rw [Op.equalIn]
  simp only [Sem.run_bind, run_underlying hu, Result.andThen_ok, hz]
  simp only [Std.Legacy.Range.forIn_eq_forIn_range', Std.Legacy.Range.size]
  simp only [Nat.sub_zero, Nat.add_sub_cancel, Nat.div_one]
  show ((forIn [0, 1] _ _ : Sem _).run P w).andThen _ = _
  rw [List.forIn_cons, Sem.run_bind]
  simp only [Sem.run_bind, hp0, Result.andThen_ok, run_equalIn_int w d e .i64 .i64 _ _ he]
  by_cases h : a.1 = b.1
  · simp only [h, beq_self_eq_true, Bool.not_true, Bool.false_eq_true, if_false, Sem.run_pure, Result.andThen_ok]
    rw [List.forIn_cons, Sem.run_bind]
    simp only [Sem.run_bind, hp1, Result.andThen_ok, run_equalIn_int w d e .i64 .i64 _ _ he]
    by_cases h2 : a.2 = b.2
    · simp [Prod.ext h h2]
    · have : ¬ a = b := fun e => h2 (by rw [e])
      simp [h2, this]
  · have : ¬ a = b := fun e => h (by rw [e])
    simp [h, this]
theorem det_eqlP {e : Nat} {a b : Int × Int} (hu : P.underlying T = some (.array 2 e)) (hz : ∀ w, (sizeOf e).run P w = .ok 1 w) (hg : ∀ w, (isAgg e).run P w = .ok false w) (he : P.underlying e = some (.int .i64))
    (hq : P.eqGuardType P.depth T = false) (hx : ρ x = .agg (pk a).toArray) (hy : ρ y = .agg (pk b).toArray) :
    Det P w0 m ρ ⟨dst, .binOp .eql T x y T', ty, pos, after, gd⟩ (.bool (decide (a = b))) := fun w _ => by
  simp [execOp, hx, hy, run_eqGuard_agg w .eql T x y _ _ hq, run_eql_struct, run_equalIn_pk w 9998 a b hu hz hg he]
end
end Go.MW
