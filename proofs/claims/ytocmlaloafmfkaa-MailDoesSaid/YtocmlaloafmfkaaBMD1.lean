/- What the claim of this folder needs of its texts, put together by a program of this claim. Conditions: none. -/
import Derived.Conc.LoneSelect
import Derived.Conc.SmallLaws
import Derived.LaidEql
import Derived.Test.YtocmlaloafmfkaaBMD0
namespace Go.MW
open Go.RowKit Go.Conc

def getE (m : Mem) (i : Nat) : Option Nat × Obj := m.getD i (none, .cells #[] 0 (0, 0))
theorem map_getE (m : Mem) : (List.range m.length).map (getE m) = m := by
  apply List.ext_getElem?
  intro i
  by_cases hi : i < m.length
  · simp [getE, hi]
  · rw [List.getElem?_eq_none (by simp; omega), List.getElem?_eq_none (by omega)]
theorem range_pick (is : List Nat) (hn : is.Nodup) (n : Nat) (hlt : ∀ i ∈ is, i < n) : (is ++ (List.range n).filter fun j => !is.contains j).Perm (List.range n) := by
  refine (List.perm_ext_iff_of_nodup ?_ List.nodup_range).2 fun a => ?_
  · refine List.nodup_append.2 ⟨hn, (List.filter_sublist (l := List.range n)).nodup List.nodup_range, ?_⟩
    intro x hx y hy e
    subst e
    simp at hy
    exact hy.2 hx
  · simp only [List.mem_append, List.mem_filter, List.mem_range]
    constructor
    · rintro (h | h)
      · exact hlt a h
      · exact h.1
    · intro h
      by_cases ha : a ∈ is
      · exact .inl ha
      · exact .inr ⟨h, by simpa using ha⟩
def restOf (m : Mem) (is : List Nat) : Mem := ((List.range m.length).filter fun j => !is.contains j).map (getE m)
theorem perm_pick (m : Mem) (is : List Nat) (hn : is.Nodup) (hlt : ∀ i ∈ is, i < m.length) : (is.map (getE m) ++ restOf m is).Perm m := by
  have h := (range_pick is hn m.length hlt).map (getE m)
  rw [List.map_append, map_getE] at h
  exact h
theorem length_setM (l : List (Nat × (Option Nat × Obj))) : ∀ (m : Mem), (setM m l).length = m.length := by
  induction l with
  | nil => intro m; rfl
  | cons x l ih => intro m; rw [show x = (x.1, x.2) from rfl, setM, ih, List.length_set]
theorem getE_setM_ne (l : List (Nat × (Option Nat × Obj))) : ∀ (m : Mem) (j : Nat), (∀ x ∈ l, x.1 ≠ j) → getE (setM m l) j = getE m j := by
  induction l with
  | nil => intro m j _; rfl
  | cons x l ih =>
    intro m j h
    obtain ⟨i, e⟩ := x
    rw [setM, ih _ _ fun y hy => h y (by simp [hy])]
    have : i ≠ j := h (i, e) (by simp)
    simp [getE, List.getElem?_set_ne this]
theorem map_setM (is : List Nat) : ∀ (es : List (Option Nat × Obj)) (m : Mem), is.Nodup → (∀ i ∈ is, i < m.length) → es.length = is.length → is.map (getE (setM m (is.zip es))) = es := by
  induction is with
  | nil => intro es m _ _ hl; simp at hl; subst hl; rfl
  | cons i is ih =>
    intro es m hn hlt hl
    obtain ⟨hi, hn'⟩ := List.nodup_cons.1 hn
    cases es with
    | nil => simp at hl
    | cons e es =>
      simp only [List.zip_cons_cons, List.map_cons, setM]
      rw [ih es (m.set i e) hn' (fun j hj => by rw [List.length_set]; exact hlt j (by simp [hj])) (by simpa using hl)]
      congr 1
      rw [getE_setM_ne _ _ _ fun x hx => ?_]
      · simp [getE, hlt i (by simp)]
      · obtain ⟨a, b⟩ := x
        have := (List.of_mem_zip hx).1
        rintro rfl
        exact hi this
theorem perm_setM (m : Mem) (is : List Nat) (es : List (Option Nat × Obj)) (hn : is.Nodup) (hlt : ∀ i ∈ is, i < m.length) (hl : es.length = is.length) : (es ++ restOf m is).Perm (setM m (is.zip es)) := by
  have h := perm_pick (setM m (is.zip es)) is hn (by rw [length_setM]; exact hlt)
  rw [map_setM is es m hn hlt hl] at h
  have hr : restOf (setM m (is.zip es)) is = restOf m is := by
    unfold restOf
    rw [length_setM]
    refine List.map_congr_left fun j hj => getE_setM_ne _ _ _ fun x hx => ?_
    obtain ⟨a, b⟩ := x
    have h1 := (List.of_mem_zip hx).1
    simp only [List.mem_filter] at hj
    rintro rfl
    have := hj.2
    simp at this
    exact this h1
  rwa [hr] at h
theorem perm_mid (m mi : Mem) (k : Nat) : (m.take k ++ (mi ++ m.drop k)).Perm (m ++ mi) := by
  have h : m ++ mi = m.take k ++ (m.drop k ++ mi) := by rw [← List.append_assoc, List.take_append_drop]
  rw [h]
  exact List.Perm.append_left _ List.perm_append_comm

section
variable {P : Program} {w0 : World} {K : List Value → Mem → Prop} {E : Exit → List Value → Mem → Prop} {L : List Value} {m : Mem} {ρ : Operand → Value} {ops : Array Oper} {rest : List Oper} {o : Oper}
/-- What is new is laid at place k of the list. -/
theorem WL_relAt (k : Nat) {R : Value → Mem → Prop} (hg : o.guard = none) (h : Rel P w0 m (ev L) o R) (kk : ∀ v mi, R v mi → WL P w0 ops K E rest (put L o.dst v) (m.take k ++ (mi ++ m.drop k))) :
    WL P w0 ops K E (o :: rest) L m :=
  WL_rel hg h fun v mi hr w hw => kk v mi hr w (hw.perm (perm_mid m mi k))
theorem WC.addNoneAt {c : Code} (k : Nat) (x : Obj) (h : WC P w0 c K E L (m.take k ++ ([(none, x)] ++ m.drop k))) : WC P w0 c K E L m := WC.addNone x fun w hw => h w (hw.perm (perm_mid m [(none, x)] k))
/-- .. that makes nothing. -/
theorem Chg_callM (is : List Nat) (es : List (Option Nat × Obj)) {dst : Option Tmp} {x : Operand} {args : List Operand} {ats : Array TypeId} {ty : TypeId} {pos : String} {after : Array Edge} {gd : Option (Nat × Bool)} {f : FuncId} {R : Value → List (Option Nat × Obj) → Prop}
    (hx : ρ x = .func (.func f) #[] #[]) (hc : ∀ as w, (callFunc f as).run P w = .ok (.enter f as) w) (hn : is.Nodup) (hlt : ∀ i ∈ is, i < m.length) (hm : is.map (getE m) = es) (hl : ∀ v es', R v es' → es'.length = is.length)
    (h : ∀ w m0, Has w0 (es ++ m0) w → Calls P f (args.map ρ).toArray w (Post w0 fun v m' => ∃ es', R v es' ∧ m' = es' ++ m0)) :
    Chg P w0 m ρ ⟨dst, .call { callee := .value x, args := args.toArray, argTypes := ats }, ty, pos, after, gd⟩ (fun v m' => ∃ es', R v es' ∧ m' = setM m (is.zip es')) := by
  refine Chg_call hx hc fun w hw => ?_
  have hp := perm_pick m is hn hlt
  rw [hm] at hp
  refine (h w (restOf m is) (hw.perm hp)).mono ?_
  rintro e1 w' ⟨v, mi', rfl, ⟨es', hR, rfl⟩, hh⟩
  exact ⟨v, _, rfl, ⟨es', hR, rfl⟩, hh.perm (perm_setM m is es' hn hlt (hl _ _ hR)).symm⟩
end

theorem stepG_comm {P : Program} {b : Frame} {a : Act} {k : List Item} {cs : List Frame} {w w' : World} {ops : Array Oper} {i : Nat} {rest : List Nat} {o : Oper} {cases : Array CommCase} {bl : Bool} {sh : CommShape}
    (ho : ops[i]? = some o) (hw : Region.wanted o (yielded ops a.tmps) = true) (hr : (execOp a.eval o).run P w = .ok (.comm cases bl sh) w') :
    ∃ es, stepG P true (G (b.at a (.inRegion ops (i :: rest) :: k)) cs) w = .comm (G (b.at a (.inRegion ops (i :: rest) :: k)) cs) cases bl sh w' es := by
  have hg := stepG_op (P := P) (b := b) (k := k) (cs := cs) (w := w) (rest := rest) ho hw
  unfold G
  rw [hg]
  simp only [stepG.apply, Sem.runT_eq, hr, if_true]
  exact ⟨_, rfl⟩

section
variable {P : Program} {w0 : World} {K : List Value → Mem → Prop} {E : Exit → List Value → Mem → Prop} {L : List Value} {m : Mem} {ρ : Operand → Value} {rest : List Oper} {o : Oper}
theorem WC_select {id : Nat}
    (h : ∀ w, Has w0 m w → ∃ v w' m', (∀ (b : Frame) (k : List Item) (cs : List Frame) (r : List Nat), step P (lone (b.at (fr L) (.inRegion (o :: rest).toArray (0 :: r) :: k)) cs w) = .next (lone ((b.at (fr L) (.inRegion (o :: rest).toArray (0 :: r) :: k)).finish v) cs w')) ∧ Has w0 m' w' ∧ WL P w0 (o :: rest).toArray K E rest (put L o.dst v) m') :
    WC P w0 (.region id (o :: rest).toArray false) K E L m := by
  intro w hw b k cs
  obtain ⟨v, w', m', hs, hh, hk⟩ := h w hw
  have h1 : wpOps P (o :: rest).toArray (LQ w0 K E) (List.range' 1 rest.length) (fr (put L o.dst v)) w' := by
    rw [wpOps_eq_wpList rest 1 fun j => by simp [Nat.add_comm 1 j]]
    exact hk w' hh
  obtain ⟨e, a', w2, hq, harr⟩ := wp_ops _ _ _ h1 b k cs
  refine ⟨e, a', w2, hq, .of_steps (.head step_region (.one ?_)) harr⟩
  have h2 := hs b k cs (List.range' 1 rest.length)
  rw [Frame.finish_at] at h2
  have h3 : List.range (o :: rest).toArray.size = 0 :: List.range' 1 rest.length := by
    simp [List.range_eq_range', List.range'_succ]
  rw [h3, h2]
  simp [put_fr]
end
end Go.MW

namespace Go.MW
open Go.RowKit Go.Conc

section
variable {P : Program} {w0 : World} {K : List Value → Mem → Prop} {E : Exit → List Value → Mem → Prop} {L : List Value} {m : Mem} {ρ : Operand → Value} {rest : List Oper}
variable {dst : Option Tmp} {ty : TypeId} {pos : String} {after : Array Edge} {gd : Option (Nat × Bool)} {T T' : TypeId} {x y : Operand}

theorem det_nilCheck {a : Addr} (hx : ρ x = .pointer (some a)) : Det P w0 m ρ ⟨dst, .nilCheck x, ty, pos, after, gd⟩ (.pointer (some a)) := fun w _ => by simp [execOp, hx]
theorem run_eqI_PN (w : World) (d : Nat) {T e : TypeId} (p : Option Addr) (hu : P.underlying T = some (.pointer e)) : (Op.equalIn (d + 1) T (.pointer p) (.pointer none)).run P w = .ok p.isNone w := by
  rw [Op.equalIn]
  cases p <;> simp [run_underlying hu]
theorem run_eqI_CN (w : World) (d : Nat) {T e : TypeId} {dr : ChanDir} (c : Option Nat) (hu : P.underlying T = some (.chan dr e)) : (Op.equalIn (d + 1) T (.chan c) (.chan none)).run P w = .ok c.isNone w := by
  rw [Op.equalIn]
  cases c <;> simp [run_underlying hu]
theorem run_eqI_PP (w : World) (d : Nat) {T e n : TypeId} {a b : Addr} {r : Bool} (hu : P.underlying T = some (.pointer e)) (hz : ∀ w, (sizeOf e).run P w = .ok (n + 1) w) (h : (sameAddr a b).run P w = .ok r w) : (Op.equalIn (d + 1) T (.pointer (some a)) (.pointer (some b))).run P w = .ok r w := by
  rw [Op.equalIn]
  simp [run_underlying hu, hz, h]
theorem det_neqPN {p : Option Addr} {e : TypeId} (hx : ρ x = .pointer p) (hy : ρ y = .pointer none) (hu : P.underlying T = some (.pointer e)) : Det P w0 m ρ ⟨dst, .binOp .neq T x y T', ty, pos, after, gd⟩ (.bool (!p.isNone)) := fun w _ => by
  simp [execOp, hx, hy, eqGuard_at_pointer, binOp, Op.equal, Op.maxDepth, run_eqI_PN w 9999 p hu]
theorem det_neqCN {c : Option Nat} {d : ChanDir} {e : TypeId} (hx : ρ x = .chan c) (hy : ρ y = .chan none) (hu : P.underlying T = some (.chan d e)) : Det P w0 m ρ ⟨dst, .binOp .neq T x y T', ty, pos, after, gd⟩ (.bool (!c.isNone)) := fun w _ => by
  simp [execOp, hx, hy, eqGuard_at_chan, binOp, Op.equal, Op.maxDepth, run_eqI_CN w 9999 c hu]
/-- Two pointers to blocks of one's own, or old ones. -/
theorem det_eqlPP (b b' : Nat) {c c' : Array Value} {t t' e n : TypeId} (hx : ρ x = .pointer (some ⟨b, 0, none⟩)) (hy : ρ y = .pointer (some ⟨b', 0, none⟩)) (hu : P.underlying T = some (.pointer e)) (hz : ∀ w, (sizeOf e).run P w = .ok (n + 1) w)
    (h : ∀ w, Has w0 m w → w.heap[b]? = some (.cells c t (0, 0)) ∧ w.heap[b']? = some (.cells c' t' (0, 0))) : Det P w0 m ρ ⟨dst, .binOp .eql T x y T', ty, pos, after, gd⟩ (.bool (decide (b = b'))) := fun w hw => by
  have hs : (sameAddr ⟨b, 0, none⟩ ⟨b', 0, none⟩).run P w = .ok (decide (b = b')) w := by
    by_cases hb : b = b'
    · subst hb
      rw [run_sameAddr_same]; simp
    · obtain ⟨h1, h2⟩ := h w hw
      rw [run_sameAddr_other w (a := ⟨b, 0, none⟩) (b := ⟨b', 0, none⟩) (by simp [hb]) h1 h2]
      simp [hb]
  simp [execOp, hx, hy, eqGuard_at_pointer, binOp, Op.equal, Op.maxDepth, run_eqI_PP w 9999 hu hz hs]
theorem det_lenChanF {c cap s r : Nat} {buf : Array Value} {cl : Bool} {d : ChanDir} {e : TypeId} (hu : P.underlying T = some (.chan d e)) (hx : ρ x = .chan (some c)) (hm : w0.heap[c]? = some (.chan cap buf cl s r false)) :
    Det P w0 m ρ ⟨dst, .call { callee := .builtin .len, args := #[x], argTypes := #[T] }, ty, pos, after, gd⟩ (vn .i64 buf.size) := fun w hw => by
  simp [execOp, resolve, invoke, builtin, hx, Builtin.len_, run_underlying hu, run_getObj_chan _ _ (hw.farBlk hm), goInt]
theorem rel_makeChan {n bytes : Nat} {d : ChanDir} {e : TypeId} (hu : P.underlying T = some (.chan d e)) (hi : (P.info? e).map (·.bytes) = some bytes) (hx : ρ x = vn .i64 n) (hn : n ≤ 1000000) (hb : bytes ≤ 1000) :
    Rel P w0 m ρ ⟨dst, .makeChan T x, ty, pos, after, gd⟩ (fun v mi => ∃ c, v = .chan (some c) ∧ mi = [(some c, .chan n #[] false 0 0 false)]) := by
  intro w _
  cases hinf : P.info? e with
  | none => rw [hinf] at hi; cases hi
  | some i =>
    have hib : i.bytes = bytes := by rw [hinf] at hi; simpa using hi
    have hp : (i.bytes : Int) * n ≤ 281474976710544 := by
      have : i.bytes * n ≤ 1000 * 1000000 := Nat.mul_le_mul (by omega) hn
      have h2 : ((i.bytes * n : Nat) : Int) = (i.bytes : Int) * n := by simp
      omega
    have h : (execOp ρ ⟨dst, .makeChan T x, ty, pos, after, gd⟩).run P w = .ok (.value (.chan (some w.heap.size))) (w.alloc (.chan n #[] false 0 0 false)) := by
      simp [execOp, hx, run_makeChan hu hinf .i64 n (by omega) hp]
    unfold Runs
    rw [h]
    exact ⟨_, ⟨_, rfl, rfl⟩, Has.alloc w _⟩
/-- A struct that is built of its fields. -/
theorem det_buildS {fs : Array Field} {z : Value} {c : Array Value} {parts : Array (Nat × Operand)} {pl : Array (Nat × Nat)} (hz : ∀ w, (zeroValue T).run P w = .ok z w) (hu : P.underlying T = some (.struct fs)) (hp : ∀ w, (fs.mapM fun f => do pure (f.offset, ← sizeOf f.type) : Sem (Array (Nat × Nat))).run P w = .ok pl w)
    (hf : Instr.fill (pl[·]?) z.cells (parts.map fun p => (p.1, ρ p.2)).toList = some c) : Det P w0 m ρ ⟨dst, .build T parts, ty, pos, after, gd⟩ (.agg c) := fun w _ => by
  simp only [execOp, Instr.build]
  simp [hz, run_underlying hu]
  simp at hp
  simp at hf
  simp [hp, hf]

theorem det_loadFB {b o : Nat} {c : Array Value} {t : TypeId} {fz : Nat × Nat} {v : Value} (hg : ∀ w, (isAgg T).run P w = .ok false w) (hx : ρ x = .pointer (some ⟨b, o, none⟩)) (hb : w0.heap[b]? = some (.cells c t fz)) (hc : c[o]? = some v) : Det P w0 m ρ ⟨dst, .load T x, ty, pos, after, gd⟩ v :=
  det_loadF hg hx (by simp [World.cell?, hb, hc])
theorem Has.setChan {w : World} (hw : Has w0 m w) (i : Nat) {c cap cap' s r s' r' : Nat} {buf buf' : Array Value} {cl cl' tm tm' : Bool} (hm : m[i]? = some (some c, .chan cap buf cl s r tm)) :
    Has w0 (m.set i (some c, .chan cap' buf' cl' s' r' tm')) (w.setChan c cap' buf' cl' s' r' tm') :=
  hw.set i hm _ rfl rfl rfl (by simp [World.setChan]) (heap_setChan w c cap' buf' cl' s' r' tm' (lt_of_heap (hw.at i hm))) fun k hk => by
    simp only [World.setChan]
    rw [Array.getElem?_setIfInBounds_ne (fun e => hk e.symm)]

theorem run_selS {a : Act} {w : World} {c : Nat} {v z : Value} {e : TypeId} (hz : ∀ w, (zeroValue e).run P w = .ok z w) (hx : a.eval x = .chan (some c)) (hy : a.eval y = v) :
    (execOp a.eval ⟨dst, .select #[{ chan := x, send := some y, elem := e }] false, ty, pos, after, gd⟩).run P w = .ok (.comm #[scase c v z] false .select) w := by
  subst hy
  simp [execOp, hx, hz, scase]
theorem run_selR {a : Act} {w : World} {c : Nat} {z : Value} {e : TypeId} (hz : ∀ w, (zeroValue e).run P w = .ok z w) (hx : a.eval x = .chan (some c)) :
    (execOp a.eval ⟨dst, .select #[{ chan := x, send := none, elem := e }] false, ty, pos, after, gd⟩).run P w = .ok (.comm #[rcase c z] false .select) w := by
  simp [execOp, hx, hz, rcase]

/-- The send has room. -/
theorem WC_selSend (i : Nat) {id : Nat} {c cap s r : Nat} {buf : Array Value} {v z : Value} {e : TypeId} (hz : ∀ w, (zeroValue e).run P w = .ok z w) (hx : ev L x = .chan (some c)) (hy : ev L y = v) (hm : m[i]? = some (some c, .chan cap buf false s r false)) (hroom : buf.size < cap)
    (k : WL P w0 ((⟨dst, .select #[{ chan := x, send := some y, elem := e }] false, ty, pos, after, none⟩ : Oper) :: rest).toArray K E rest (put L dst (.tuple #[.int .i64 0, .bool false])) (m.set i (some c, .chan cap (buf.push v) false (s + 1) r false))) :
    WC P w0 (.region id ((⟨dst, .select #[{ chan := x, send := some y, elem := e }] false, ty, pos, after, none⟩ : Oper) :: rest).toArray false) K E L m := by
  refine WC_select fun w hw => ⟨.tuple #[goInt 0, .bool false], w.setChan c cap (buf.push v) false (s + 1) r false, _, fun b k cs rr => ?_, hw.setChan i hm, k⟩
  obtain ⟨es, hs⟩ := stepG_comm (P := P) (b := b) (a := fr L) (k := k) (cs := cs) (w := w) (ops := ((⟨dst, .select #[{ chan := x, send := some y, elem := e }] false, ty, pos, after, none⟩ : Oper) :: rest).toArray) (i := 0) (rest := rr) rfl rfl (run_selS (v := v) hz (by rw [eval_fr]; exact hx) (by rw [eval_fr]; exact hy))
  rw [lone_eq_solo]
  exact step_lone_select_send_room hs (hw.at i hm) hroom
/-- The send has none. -/
theorem WC_selFull (i : Nat) {id : Nat} {c cap s r : Nat} {buf : Array Value} {v z : Value} {e : TypeId} (hz : ∀ w, (zeroValue e).run P w = .ok z w) (hx : ev L x = .chan (some c)) (hy : ev L y = v) (hm : m[i]? = some (some c, .chan cap buf false s r false)) (hfull : cap ≤ buf.size)
    (k : WL P w0 ((⟨dst, .select #[{ chan := x, send := some y, elem := e }] false, ty, pos, after, none⟩ : Oper) :: rest).toArray K E rest (put L dst (.tuple #[.int .i64 (-1), .bool false])) m) :
    WC P w0 (.region id ((⟨dst, .select #[{ chan := x, send := some y, elem := e }] false, ty, pos, after, none⟩ : Oper) :: rest).toArray false) K E L m := by
  refine WC_select fun w hw => ⟨.tuple #[goInt (-1), .bool false], w, _, fun b k cs rr => ?_, hw, k⟩
  obtain ⟨es, hs⟩ := stepG_comm (P := P) (b := b) (a := fr L) (k := k) (cs := cs) (w := w) (ops := ((⟨dst, .select #[{ chan := x, send := some y, elem := e }] false, ty, pos, after, none⟩ : Oper) :: rest).toArray) (i := 0) (rest := rr) rfl rfl (run_selS (v := v) hz (by rw [eval_fr]; exact hx) (by rw [eval_fr]; exact hy))
  rw [lone_eq_solo]
  exact step_lone_select_send_full hs (hw.at i hm) hfull
/-- Something is there. -/
theorem WC_selRecv (i : Nat) {id : Nat} {c cap s r : Nat} {buf : Array Value} {z : Value} {e : TypeId} (hz : ∀ w, (zeroValue e).run P w = .ok z w) (hx : ev L x = .chan (some c)) (hm : m[i]? = some (some c, .chan cap buf false s r false)) (hsome : 0 < buf.size)
    (k : WL P w0 ((⟨dst, .select #[{ chan := x, send := none, elem := e }] false, ty, pos, after, none⟩ : Oper) :: rest).toArray K E rest (put L dst (.tuple #[.int .i64 0, .bool true, buf.getD 0 undef])) (m.set i (some c, .chan cap (buf.extract 1 buf.size) false s (r + 1) false))) :
    WC P w0 (.region id ((⟨dst, .select #[{ chan := x, send := none, elem := e }] false, ty, pos, after, none⟩ : Oper) :: rest).toArray false) K E L m := by
  refine WC_select fun w hw => ⟨.tuple #[goInt 0, .bool true, buf.getD 0 undef], w.setChan c cap (buf.extract 1 buf.size) false s (r + 1) false, _, fun b k cs rr => ?_, hw.setChan i hm, k⟩
  obtain ⟨es, hs⟩ := stepG_comm (P := P) (b := b) (a := fr L) (k := k) (cs := cs) (w := w) (ops := ((⟨dst, .select #[{ chan := x, send := none, elem := e }] false, ty, pos, after, none⟩ : Oper) :: rest).toArray) (i := 0) (rest := rr) rfl rfl (run_selR hz (by rw [eval_fr]; exact hx))
  rw [lone_eq_solo]
  exact step_lone_select_recv_buf hs (hw.at i hm) hsome
/-- Nothing is there. -/
theorem WC_selNone (i : Nat) {id : Nat} {c cap s r : Nat} {z : Value} {e : TypeId} (hz : ∀ w, (zeroValue e).run P w = .ok z w) (hx : ev L x = .chan (some c)) (hm : m[i]? = some (some c, .chan cap #[] false s r false))
    (k : WL P w0 ((⟨dst, .select #[{ chan := x, send := none, elem := e }] false, ty, pos, after, none⟩ : Oper) :: rest).toArray K E rest (put L dst (.tuple #[.int .i64 (-1), .bool false, z])) m) :
    WC P w0 (.region id ((⟨dst, .select #[{ chan := x, send := none, elem := e }] false, ty, pos, after, none⟩ : Oper) :: rest).toArray false) K E L m := by
  refine WC_select fun w hw => ⟨.tuple #[goInt (-1), .bool false, z], w, _, fun b k cs rr => ?_, hw, k⟩
  obtain ⟨es, hs⟩ := stepG_comm (P := P) (b := b) (a := fr L) (k := k) (cs := cs) (w := w) (ops := ((⟨dst, .select #[{ chan := x, send := none, elem := e }] false, ty, pos, after, none⟩ : Oper) :: rest).toArray) (i := 0) (rest := rr) rfl rfl (run_selR hz (by rw [eval_fr]; exact hx))
  rw [lone_eq_solo]
  exact step_lone_select_default hs (hw.at i hm)
end
end Go.MW
