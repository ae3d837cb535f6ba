/- A region that draws its order, shown operation by operation in the order of the text. Conditions: none. -/
import Derived.Test.YtpmldkhgdpchjaaM2
namespace Go.MW
open Go.RowKit

abbrev RList := List (Option (Sel → Prop))
def relOf (Rs : RList) (j : Nat) : Bool := (Rs.getD j none).isSome
def jsOf (D : List (List Nat)) (T : List Nat) (Rs : RList) (i : Nat) : List Nat := (List.range i).filter fun j => (Dn D i).contains j && relOf Rs j && !T.contains j
def jsAll (T : List Nat) (Rs : RList) (i : Nat) : List Nat := (List.range i).filter fun j => relOf Rs j && !T.contains j
/-- What is known of what an operation waits for. -/
def RD (D : List (List Nat)) (Rs : RList) (i : Nat) (V : Sel) : Prop := ∀ j ∈ Dn D i, ∀ R, Rs.getD j none = some R → R V
def RAll (Rs : RList) (V : Sel) : Prop := ∀ j, ∀ R, Rs.getD j none = some R → R V
def blkOf : Value → Option Nat
  | .pointer (some a) => some a.block
  | .slice (some a) _ _ => some a.block
  | _ => none

inductive RW (P : Program) (w0 : World) (K : List Value → Mem → Prop) (mk m : Mem) (l : List Oper) (D : List (List Nat)) (T : List Nat) :
    Nat → (Sel → List Value) → List (Sel → Value) → RList → List (Sel → Mem) → Prop
  | pure {i : Nat} {F : Sel → List Value} {es : List (Sel → Value)} {Rs : RList} {Ms : List (Sel → Mem)} {o : Oper} {e : Sel → Value}
      (ho : l[i]? = some o) (hT : T.contains i = false) (hw : ∀ V, Region.wanted o (yielded l.toArray (F V).toArray) = true)
      (h : ∀ V, RD D Rs i V → Det P w0 mk (ev (F V)) o (e V)) (dep : ∀ V V' : Sel, (∀ j ∈ Dn D i, V j = V' j) → e V = e V')
      (k : RW P w0 K mk m l D T (i + 1) (fun V => put (F V) o.dst (e V)) (es ++ [e]) (Rs ++ [none]) Ms) : RW P w0 K mk m l D T i F es Rs Ms
  | skip {i : Nat} {F : Sel → List Value} {es : List (Sel → Value)} {Rs : RList} {Ms : List (Sel → Mem)} {o : Oper}
      (ho : l[i]? = some o) (hT : T.contains i = false) (hw : ∀ V, Region.wanted o (yielded l.toArray (F V).toArray) = false)
      (k : RW P w0 K mk m l D T (i + 1) (fun V => put (F V) o.dst undef) (es ++ [fun _ => undef]) (Rs ++ [none]) Ms) : RW P w0 K mk m l D T i F es Rs Ms
  | det {i : Nat} {F : Sel → List Value} {es : List (Sel → Value)} {Rs : RList} {Ms : List (Sel → Mem)} {o : Oper} {e : Sel → Value} (js : List Nat)
      (ho : l[i]? = some o) (hT : T.contains i = false) (he : early D T i = true) (hj : js.isSublist (jsOf D T Rs i) = true) (hw : ∀ V, Region.wanted o (yielded l.toArray (F V).toArray) = true)
      (h : ∀ V, RD D Rs i V → Rel P w0 (m ++ flat js V) (ev (F V)) o (fun v mi => v = e V ∧ mi = [])) (dep : ∀ V V' : Sel, (∀ j ∈ Dn D i, V j = V' j) → e V = e V')
      (k : RW P w0 K mk m l D T (i + 1) (fun V => put (F V) o.dst (e V)) (es ++ [e]) (Rs ++ [none]) Ms) : RW P w0 K mk m l D T i F es Rs Ms
  | rel {i : Nat} {F : Sel → List Value} {es : List (Sel → Value)} {Rs : RList} {Ms : List (Sel → Mem)} {o : Oper} {R : Sel → Prop} (js : List Nat)
      (ho : l[i]? = some o) (hT : T.contains i = false) (he : (T.all fun t => (Dn D t).contains i) = true) (hj : js.isSublist (jsOf D T Rs i) = true) (hw : ∀ V, Region.wanted o (yielded l.toArray (F V).toArray) = true)
      (h : ∀ V, RD D Rs i V → Rel P w0 (m ++ flat js V) (ev (F V)) o (fun v mi => R (updV V i (v, mi)))) (dep : ∀ V V' : Sel, (∀ j ∈ Dn D i, V j = V' j) → V i = V' i → R V → R V')
      (k : RW P w0 K mk m l D T (i + 1) (fun V => put (F V) o.dst (V i).1) (es ++ [fun V => (V i).1]) (Rs ++ [some R]) Ms) : RW P w0 K mk m l D T i F es Rs Ms
  | tail {i : Nat} {F : Sel → List Value} {es : List (Sel → Value)} {Rs : RList} {Ms : List (Sel → Mem)} {o : Oper} {R : Sel → Prop} (B : Sel → Mem) (M : Sel → Mem)
      (ho : l[i]? = some o) (hT : T[Ms.length]? = some i) (hg : o.guard = none) (hB : ∀ V, B V = match Ms.getLast? with | none => m ++ flat (jsAll T Rs i) V | some M0 => M0 V)
      (h : ∀ V, RD D Rs i V → Chg P w0 (B V) (ev (F V)) o (fun v m' => ∃ x, R (updV V i (v, x)) ∧ m' = M (updV V i (v, x)) ∧ mk.Sublist m')) (dep : ∀ V V' : Sel, (∀ j ∈ Dn D i, V j = V' j) → V i = V' i → R V → R V')
      (k : RW P w0 K mk m l D T (i + 1) (fun V => put (F V) o.dst (V i).1) (es ++ [fun V => (V i).1]) (Rs ++ [some R]) (Ms ++ [M])) : RW P w0 K mk m l D T i F es Rs Ms
  | late {i : Nat} {F : Sel → List Value} {es : List (Sel → Value)} {Rs : RList} {Ms : List (Sel → Mem)} {o : Oper} {e : Sel → Value} (B : Sel → Mem)
      (ho : l[i]? = some o) (hT : T.contains i = false) (hl : lateAll D T i = true) (he : early D T i = false) (hM : T.length = Ms.length) (hB : ∀ V, B V = match Ms.getLast? with | none => m ++ flat (jsAll T Rs i) V | some M0 => M0 V)
      (hw : ∀ V, Region.wanted o (yielded l.toArray (F V).toArray) = true)
      (h : ∀ V, RD D Rs i V → Rel P w0 (B V) (ev (F V)) o (fun v mi => v = e V ∧ mi = [])) (dep : ∀ V V' : Sel, (∀ j ∈ Dn D i, V j = V' j) → e V = e V')
      (k : RW P w0 K mk m l D T (i + 1) (fun V => put (F V) o.dst (e V)) (es ++ [e]) (Rs ++ [none]) Ms) : RW P w0 K mk m l D T i F es Rs Ms
  | done {i : Nat} {F : Sel → List Value} {es : List (Sel → Value)} {Rs : RList} {Ms : List (Sel → Mem)} (B : Sel → Mem) (hi : l.length = i) (hT : T.length = Ms.length)
      (hB : ∀ V, B V = match Ms.getLast? with | none => m ++ flat (jsAll T Rs i) V | some M0 => M0 V)
      (h : ∀ V, RAll Rs V → K (F V) (B V)) : RW P w0 K mk m l D T i F es Rs Ms

def eOf (es : List (Sel → Value)) (j : Nat) (V : Sel) : Value := match es[j]? with | some f => f V | none => undef
def ROf (Rs : RList) (j : Nat) (V : Sel) : Prop := ∀ R, Rs.getD j none = some R → R V
def MOf (Ms : List (Sel → Mem)) (p : Nat) (V : Sel) : Mem := match Ms[p - 1]? with | some f => f V | none => []

section
variable {P : Program} {w0 : World} {K : List Value → Mem → Prop} {E : Exit → List Value → Mem → Prop} {L : List Value} {mk m : Mem} {l : List Oper} {D : List (List Nat)} {T : List Nat}

theorem not_self {i : Nat} (h : (Dn D i).contains i = false) {j : Nat} (hj : j ∈ Dn D i) : j ≠ i := fun e => by
  subst e
  have : (Dn D j).contains j = true := by simpa using hj
  rw [h] at this; cases this

/-- The same, what comes of the operation said of its value and its blocks. -/
theorem RW.rel' {i : Nat} {F : Sel → List Value} {es : List (Sel → Value)} {Rs : RList} {Ms : List (Sel → Mem)} {o : Oper} {R0 : Sel → Value → Mem → Prop} (js : List Nat)
    (ho : l[i]? = some o) (hT : T.contains i = false) (he : (T.all fun t => (Dn D t).contains i) = true) (hj : js.isSublist (jsOf D T Rs i) = true) (hw : ∀ V, Region.wanted o (yielded l.toArray (F V).toArray) = true) (hi : (Dn D i).contains i = false)
    (h : ∀ V, RD D Rs i V → Rel P w0 (m ++ flat js V) (ev (F V)) o (R0 V)) (dep : ∀ V V' : Sel, (∀ j ∈ Dn D i, V j = V' j) → ∀ v mi, R0 V v mi → R0 V' v mi)
    (k : RW P w0 K mk m l D T (i + 1) (fun V => put (F V) o.dst (V i).1) (es ++ [fun V => (V i).1]) (Rs ++ [some fun V => R0 V (V i).1 (V i).2]) Ms) : RW P w0 K mk m l D T i F es Rs Ms := by
  refine RW.rel js ho hT he hj hw (fun V hV w hw' => Runs_mono (h V hV w hw') ?_) (fun V V' hV hi' hR => ?_) k
  · rintro v w' ⟨mi, hr, hm⟩
    refine ⟨mi, ?_, hm⟩
    simp only [updV_same]
    exact dep V _ (fun j hj => (updV_ne V _ (not_self hi hj)).symm) _ _ hr
  · rw [← hi']
    exact dep V V' hV _ _ hR
theorem RW.tail' {i : Nat} {F : Sel → List Value} {es : List (Sel → Value)} {Rs : RList} {Ms : List (Sel → Mem)} {o : Oper} {R0 : Sel → Value → Mem → Prop} {B : Sel → Mem}
    (ho : l[i]? = some o) (hT : T[Ms.length]? = some i) (hg : o.guard = none) (hi : (Dn D i).contains i = false) (hB : ∀ V, B V = match Ms.getLast? with | none => m ++ flat (jsAll T Rs i) V | some M0 => M0 V)
    (h : ∀ V, RD D Rs i V → Chg P w0 (B V) (ev (F V)) o (R0 V)) (dep : ∀ V V' : Sel, (∀ j ∈ Dn D i, V j = V' j) → ∀ v m', R0 V v m' → R0 V' v m') (keep : ∀ V, RD D Rs i V → ∀ v m', R0 V v m' → mk.Sublist m')
    (k : RW P w0 K mk m l D T (i + 1) (fun V => put (F V) o.dst (V i).1) (es ++ [fun V => (V i).1]) (Rs ++ [some fun V => R0 V (V i).1 (V i).2]) (Ms ++ [fun V => (V i).2])) : RW P w0 K mk m l D T i F es Rs Ms := by
  refine RW.tail B (fun V => (V i).2) ho hT hg hB (fun V hV w hw' => Runs_mono (h V hV w hw') ?_) (fun V V' hV hi' hR => ?_) k
  · rintro v w' ⟨m', hr, hm⟩
    refine ⟨m', ⟨m', ?_, by simp only [updV_same], keep V hV v m' hr⟩, hm⟩
    simp only [updV_same]
    exact dep V _ (fun j hj => (updV_ne V _ (not_self hi hj)).symm) _ _ hr
  · rw [← hi']
    exact dep V V' hV _ _ hR

def blk : Value → Nat
  | .pointer (some a) => a.block
  | _ => 0
/-- What a new variable is. -/
def IsNew (c : Array Value) (t : TypeId) (v : Value) (mi : Mem) : Prop := ∃ b, v = .pointer (some ⟨b, 0, none⟩) ∧ mi = [(some b, .cells c t (0, 0))]
theorem IsNew.ptr {c : Array Value} {t : TypeId} {v : Value} {mi : Mem} (h : IsNew c t v mi) : v = .pointer (some ⟨blk v, 0, none⟩) := by obtain ⟨b, rfl, _⟩ := h; rfl
theorem IsNew.mem {c : Array Value} {t : TypeId} {v : Value} {mi : Mem} (h : IsNew c t v mi) : mi = [(some (blk v), .cells c t (0, 0))] := by obtain ⟨b, rfl, rfl⟩ := h; rfl
theorem draw_alloc {ρ : Operand → Value} {dst : Option Tmp} {T : TypeId} {ty : TypeId} {pos : String} {after : Array Edge} {gd : Option (Nat × Bool)} {z : Value} {c : Array Value} (hz : ∀ w, (zeroValue T).run P w = .ok z w) (hc : z.cells = c) :
    Rel P w0 m ρ ⟨dst, .alloc T, ty, pos, after, gd⟩ (IsNew c T) := rel_alloc hz hc

theorem frm_congr {e e' : Nat → Sel → Value} {V : Sel} : ∀ (k : Nat), (∀ j, j < k → e j V = e' j V) → frm l e V L k = frm l e' V L k
  | 0, _ => rfl
  | k + 1, h => by simp only [frm]; rw [frm_congr k fun j hj => h j (by omega), h k (by omega)]

theorem eOf_pre {es es' : List (Sel → Value)} (h : es <+: es') {j : Nat} (hj : j < es.length) (V : Sel) : eOf es' j V = eOf es j V := by
  obtain ⟨r, rfl⟩ := h
  simp [eOf, List.getElem?_append_left hj]
theorem getD_pre {α : Type} {d : α} {a b : List α} (h : a <+: b) {j : Nat} (hj : j < a.length) : b.getD j d = a.getD j d := by
  obtain ⟨r, rfl⟩ := h
  simp [List.getElem?_append_left hj]

/-- What a walk has shown of the operations from number i on. -/
structure From (P : Program) (w0 : World) (K : List Value → Mem → Prop) (L : List Value) (mk m : Mem) (l : List Oper) (D : List (List Nat)) (T : List Nat) (i : Nat) (es : List (Sel → Value)) (Rs : RList) (Ms : List (Sel → Mem))
    (es' : List (Sel → Value)) (Rs' : RList) (Ms' : List (Sel → Mem)) : Prop where
  pe : es <+: es'
  pr : Rs <+: Rs'
  pm : Ms <+: Ms'
  le : es'.length = l.length
  lr : Rs'.length = l.length
  lm : Ms'.length = T.length
  each : ∀ j, i ≤ j → j < l.length → ∀ o, l[j]? = some o →
    (∀ V V' : Sel, (∀ k ∈ Dn D j, V k = V' k) → (relOf Rs' j = true → V j = V' j) → eOf es' j V = eOf es' j V') ∧
    (∀ V V' : Sel, (∀ k ∈ Dn D j, V k = V' k) → V j = V' j → ROf Rs' j V → ROf Rs' j V') ∧
    (relOf Rs' j = true → ∀ V, eOf es' j V = (V j).1) ∧
    (j ∈ T → relOf Rs' j = true) ∧
    (relOf Rs' j = true → j ∉ T → ∀ t ∈ T, j ∈ Dn D t) ∧
    (j ∉ T → ∀ V, (∀ k ∈ Dn D j, ROf Rs' k V) →
      if Region.wanted o (yielded l.toArray (frm l (eOf es') V L j).toArray) then
        ∃ X, (X = memH mk m l.length D T (relOf Rs') j V ∨ (lateAll D T j = true ∧ early D T j = false ∧ X = MOf Ms' T.length V)) ∧
        Rel P w0 X (ev (frm l (eOf es') V L j)) o (fun v mi => if relOf Rs' j then ROf Rs' j (updV V j (v, mi)) else v = eOf es' j V ∧ mi = [])
      else (if relOf Rs' j then ROf Rs' j (updV V j (undef, [])) else eOf es' j V = undef)) ∧
    (∀ p, p < T.length → T.getD p 0 = j → o.guard = none ∧ ∀ V, (∀ k ∈ Dn D j, ROf Rs' k V) →
      Chg P w0 (memT m l.length T (relOf Rs') (MOf Ms') p V) (ev (frm l (eOf es') V L j)) o (fun v m' => ∃ x, ROf Rs' j (updV V j (v, x)) ∧ m' = MOf Ms' (p + 1) (updV V j (v, x)) ∧ mk.Sublist m'))
  fin : ∀ V, (∀ j, j < l.length → ROf Rs' j V) → K (frm l (eOf es') V L l.length) (memT m l.length T (relOf Rs') (MOf Ms') T.length V)

theorem RD_of {Rs Rs' : RList} (hp : Rs <+: Rs') {i : Nat} (hl : Rs.length = i) (hlt : ∀ k ∈ Dn D i, k < i) {V : Sel} (h : ∀ k ∈ Dn D i, ROf Rs' k V) : RD D Rs i V := fun k hk R hR => h k hk R (by rw [getD_pre hp (by rw [hl]; exact hlt k hk)]; exact hR)

theorem relOf_pre {Rs Rs' : RList} (hp : Rs <+: Rs') {j : Nat} (hj : j < Rs.length) : relOf Rs' j = relOf Rs j := by
  unfold relOf; rw [getD_pre hp hj]

theorem jsOf_heads {Rs Rs' : RList} (hp : Rs <+: Rs') {i n : Nat} (hl : Rs.length = i) (hin : i ≤ n) : (jsOf D T Rs i).Sublist (heads n (relOf Rs') T fun j => (Dn D i).contains j) := by
  have h1 : jsOf D T Rs i = (List.range i).filter fun j => (Dn D i).contains j && relOf Rs' j && !T.contains j := List.filter_congr fun j hj => by
    rw [relOf_pre hp (by rw [hl]; exact List.mem_range.1 hj)]
  rw [h1]
  unfold heads
  have h2 : (List.range i).Sublist (List.range n) := by
    obtain ⟨d, rfl⟩ := Nat.exists_eq_add_of_le hin
    rw [List.range_add]
    exact List.sublist_append_left _ _
  exact h2.filter _

theorem Rel.more {m' : Mem} {ρ : Operand → Value} {o : Oper} {R : Value → Mem → Prop} (h : Rel P w0 m ρ o R) (hs : m.Sublist m') : Rel P w0 m' ρ o R := fun w hw => h w (hw.sub hs)
theorem Rel.weaken {ρ : Operand → Value} {o : Oper} {R R' : Value → Mem → Prop} (h : Rel P w0 m ρ o R) (hr : ∀ v mi, R v mi → R' v mi) : Rel P w0 m ρ o R' :=
  fun w hw => Runs_mono (h w hw) fun v _ ⟨mi, a, b⟩ => ⟨mi, hr v mi a, b⟩

theorem snoc_pre {α : Type} {a b : List α} {x : α} (h : a ++ [x] <+: b) : a <+: b := (List.prefix_append a [x]).trans h
theorem snoc_get {α : Type} {a b : List α} {x : α} (h : a ++ [x] <+: b) : b[a.length]? = some x := by
  obtain ⟨r, rfl⟩ := h
  simp

theorem heads_all {Rs : RList} {i n : Nat} {Rs' : RList} (hp : Rs <+: Rs') (hl : Rs.length = i) (hin : i ≤ n) (hno : ∀ j, i ≤ j → j < n → relOf Rs' j = true → j ∈ T) :
    heads n (relOf Rs') T (fun _ => true) = jsAll T Rs i := by
  obtain ⟨d, rfl⟩ := Nat.exists_eq_add_of_le hin
  unfold heads jsAll
  rw [List.range_add, List.filter_append]
  have h1 : ((List.range d).map fun x => i + x).filter (fun j => true && relOf Rs' j && !T.contains j) = [] := List.filter_eq_nil_iff.2 fun j hj => by
    obtain ⟨x, hx, rfl⟩ := List.mem_map.1 hj
    have hxd := List.mem_range.1 hx
    cases hr : relOf Rs' (i + x) with
    | false => simp
    | true => simp [hno (i + x) (by omega) (by omega) hr]
  rw [h1, List.append_nil]
  exact List.filter_congr fun j hj => by rw [relOf_pre hp (by rw [hl]; exact List.mem_range.1 hj)]; simp

theorem getLast_pre {Ms Ms' : List (Sel → Mem)} (hp : Ms <+: Ms') {B : Mem} {V : Sel} {h0 : Mem} (hB : B = match Ms.getLast? with | none => h0 | some M0 => M0 V) : B = if Ms.length = 0 then h0 else MOf Ms' Ms.length V := by
  rcases List.eq_nil_or_concat Ms with rfl | ⟨a, x, rfl⟩
  · simpa using hB
  · rw [List.concat_eq_append] at hp hB ⊢
    rw [hB]
    have hl : (a ++ [x]).length ≠ 0 := by simp
    rw [if_neg hl]
    unfold MOf
    have : Ms'[(a ++ [x]).length - 1]? = some x := by
      obtain ⟨r, rfl⟩ := hp
      simp
    rw [this]
    simp

theorem from_of_RW {len : Nat} (hc : Chk l D T len) (hmk : mk.Sublist m) {i : Nat} {F : Sel → List Value} {es : List (Sel → Value)} {Rs : RList} {Ms : List (Sel → Mem)} (h : RW P w0 K mk m l D T i F es Rs Ms) :
    es.length = i → Rs.length = i → i ≤ l.length → (∀ V, F V = frm l (eOf es) V L i) → ∃ es' Rs' Ms', From P w0 K L mk m l D T i es Rs Ms es' Rs' Ms' := by
  have dlt : ∀ j o, l[j]? = some o → ∀ k ∈ Dn D j, k < j := by
    intro j
    induction j using Nat.strongRecOn with
    | _ j ih =>
      intro o ho k hk
      obtain ⟨q, hq, h | h⟩ := hc.deps j o ho k hk
      · subst h; exact hc.back j o ho q hq
      · have hqj := hc.back j o ho q hq
        have hql : q < l.length := by have := (List.getElem?_eq_some_iff.1 ho).1; omega
        have := ih q hqj l[q] (List.getElem?_eq_getElem hql) k h
        omega
  -- the step: one operation more at the front
  have cons : ∀ {i : Nat} {F : Sel → List Value} {es : List (Sel → Value)} {Rs : RList} {Ms : List (Sel → Mem)} {o : Oper} {e : Sel → Value} {r : Option (Sel → Prop)} {Mx : List (Sel → Mem)} {es' : List (Sel → Value)} {Rs' : RList} {Ms' : List (Sel → Mem)},
      es.length = i → Rs.length = i → l[i]? = some o → From P w0 K L mk m l D T (i + 1) (es ++ [e]) (Rs ++ [r]) (Ms ++ Mx) es' Rs' Ms' →
      ((es <+: es') ∧ (Rs <+: Rs') ∧ (Ms <+: Ms') ∧ eOf es' i = e ∧ Rs'.getD i none = r) := by
    intro i F es Rs Ms o e r Mx es' Rs' Ms' he hr ho hf
    refine ⟨snoc_pre hf.pe, snoc_pre hf.pr, (List.prefix_append _ _).trans hf.pm, ?_, ?_⟩
    · have := snoc_get hf.pe
      rw [he] at this
      funext V
      simp [eOf, this]
    · have := snoc_get hf.pr
      rw [hr] at this
      simp [this]
  induction h with
  | @pure i F es Rs Ms o e ho hT hw h dep k ih =>
    intro he hr hi hF
    have hil : i < l.length := (List.getElem?_eq_some_iff.1 ho).1
    have hd : dstOf l i = o.dst := by simp [dstOf, ho]
    obtain ⟨es', Rs', Ms', hf⟩ := ih (by simp [he]) (by simp [hr]) hil (fun V => by
      have h1 : eOf (es ++ [e]) i V = e V := by simp [eOf, ← he]
      have h2 : frm l (eOf (es ++ [e])) V L i = frm l (eOf es) V L i := frm_congr i fun j hj => eOf_pre (List.prefix_append _ _) (by omega) V
      simp only [frm, hd, h1, h2, hF V])
    obtain ⟨pe, pr, pm, hei, hri⟩ := cons (F := F) (Mx := []) he hr ho (by rw [List.append_nil]; exact hf)
    have hrel : relOf Rs' i = false := by simp only [relOf, hri]; rfl
    have hFi : ∀ V, frm l (eOf es') V L i = F V := fun V => by rw [hF V]; exact frm_congr i fun j hj => eOf_pre pe (by omega) V
    refine ⟨es', Rs', Ms', pe, pr, pm, hf.le, hf.lr, hf.lm, fun j hij hj o' ho' => ?_, hf.fin⟩
    rcases Nat.eq_or_lt_of_le hij with rfl | hlt
    · rw [ho] at ho'
      obtain rfl : o = o' := by simpa using ho'
      have hiT : i ∉ T := by simpa using hT
      refine ⟨fun V V' hV _ => by rw [hei]; exact dep V V' hV, fun V V' _ _ _ R hR => (by rw [hri] at hR; cases hR), fun h => (by rw [hrel] at h; cases h), fun h => absurd h hiT, fun h => (by rw [hrel] at h; cases h), fun _ V hV => ?_, fun p hp hpi => ?_⟩
      · rw [hFi V, if_pos (hw V), hei, hrel]
        simp only [Bool.false_eq_true, if_false]
        have hm0 := (h V (RD_of pr hr (dlt i o ho) hV)).rel
        refine ⟨_, .inl rfl, ?_⟩
        unfold memH
        split
        · exact hm0.more (hmk.trans (List.sublist_append_left _ _))
        · exact hm0
      · exfalso; apply hiT; rw [← hpi]; simp [hp]
    · exact hf.each j hlt hj o' ho'
  | @skip i F es Rs Ms o ho hT hw k ih =>
    intro he hr hi hF
    have hil : i < l.length := (List.getElem?_eq_some_iff.1 ho).1
    have hd : dstOf l i = o.dst := by simp [dstOf, ho]
    obtain ⟨es', Rs', Ms', hf⟩ := ih (by simp [he]) (by simp [hr]) hil (fun V => by
      have h1 : eOf (es ++ [fun _ => undef]) i V = undef := by simp [eOf, ← he]
      have h2 : frm l (eOf (es ++ [fun _ => undef])) V L i = frm l (eOf es) V L i := frm_congr i fun j hj => eOf_pre (List.prefix_append _ _) (by omega) V
      simp only [frm, hd, h1, h2, hF V])
    obtain ⟨pe, pr, pm, hei, hri⟩ := cons (F := F) (Mx := []) he hr ho (by rw [List.append_nil]; exact hf)
    have hrel : relOf Rs' i = false := by simp only [relOf, hri]; rfl
    have hFi : ∀ V, frm l (eOf es') V L i = F V := fun V => by rw [hF V]; exact frm_congr i fun j hj => eOf_pre pe (by omega) V
    refine ⟨es', Rs', Ms', pe, pr, pm, hf.le, hf.lr, hf.lm, fun j hij hj o' ho' => ?_, hf.fin⟩
    rcases Nat.eq_or_lt_of_le hij with rfl | hlt
    · rw [ho] at ho'
      obtain rfl : o = o' := by simpa using ho'
      have hiT : i ∉ T := by simpa using hT
      refine ⟨fun V V' _ _ => by rw [hei], fun V V' _ _ _ R hR => (by rw [hri] at hR; cases hR), fun h => (by rw [hrel] at h; cases h), fun h => absurd h hiT, fun h => (by rw [hrel] at h; cases h), fun _ V hV => ?_, fun p hp hpi => ?_⟩
      · rw [hFi V, if_neg (by rw [hw V]; simp), hei, hrel]
        simp
      · exfalso; apply hiT; rw [← hpi]; simp [hp]
    · exact hf.each j hlt hj o' ho'
  | @det i F es Rs Ms o e js ho hT hearly hj hw h dep k ih =>
    intro he hr hi hF
    have hil : i < l.length := (List.getElem?_eq_some_iff.1 ho).1
    have hd : dstOf l i = o.dst := by simp [dstOf, ho]
    obtain ⟨es', Rs', Ms', hf⟩ := ih (by simp [he]) (by simp [hr]) hil (fun V => by
      have h1 : eOf (es ++ [e]) i V = e V := by simp [eOf, ← he]
      have h2 : frm l (eOf (es ++ [e])) V L i = frm l (eOf es) V L i := frm_congr i fun j hj => eOf_pre (List.prefix_append _ _) (by omega) V
      simp only [frm, hd, h1, h2, hF V])
    obtain ⟨pe, pr, pm, hei, hri⟩ := cons (F := F) (Mx := []) he hr ho (by rw [List.append_nil]; exact hf)
    have hrel : relOf Rs' i = false := by simp only [relOf, hri]; rfl
    have hFi : ∀ V, frm l (eOf es') V L i = F V := fun V => by rw [hF V]; exact frm_congr i fun j hj => eOf_pre pe (by omega) V
    refine ⟨es', Rs', Ms', pe, pr, pm, hf.le, hf.lr, hf.lm, fun j hij hjl o' ho' => ?_, hf.fin⟩
    rcases Nat.eq_or_lt_of_le hij with rfl | hlt
    · rw [ho] at ho'
      obtain rfl : o = o' := by simpa using ho'
      have hiT : i ∉ T := by simpa using hT
      refine ⟨fun V V' hV _ => by rw [hei]; exact dep V V' hV, fun V V' _ _ _ R hR => (by rw [hri] at hR; cases hR), fun h => (by rw [hrel] at h; cases h), fun h => absurd h hiT, fun h => (by rw [hrel] at h; cases h), fun _ V hV => ?_, fun p hp hpi => ?_⟩
      · rw [hFi V, if_pos (hw V), hei, hrel]
        simp only [Bool.false_eq_true, if_false]
        refine ⟨_, .inl rfl, ?_⟩
        unfold memH
        rw [if_pos hearly]
        exact (h V (RD_of pr hr (dlt i o ho) hV)).more ((List.Sublist.refl m).append (flat_sub V ((List.isSublist_iff_sublist.1 hj).trans (jsOf_heads pr hr (Nat.le_of_lt hil)))))
      · exfalso; apply hiT; rw [← hpi]; simp [hp]
    · exact hf.each j hlt hjl o' ho'
  | @late i F es Rs Ms o e B ho hT hla hea hM hB hw h dep k ih =>
    intro he hr hi hF
    have hil : i < l.length := (List.getElem?_eq_some_iff.1 ho).1
    have hd : dstOf l i = o.dst := by simp [dstOf, ho]
    obtain ⟨es', Rs', Ms', hf⟩ := ih (by simp [he]) (by simp [hr]) hil (fun V => by
      have h1 : eOf (es ++ [e]) i V = e V := by simp [eOf, ← he]
      have h2 : frm l (eOf (es ++ [e])) V L i = frm l (eOf es) V L i := frm_congr i fun j hj => eOf_pre (List.prefix_append _ _) (by omega) V
      simp only [frm, hd, h1, h2, hF V])
    obtain ⟨pe, pr, pm, hei, hri⟩ := cons (F := F) (Mx := []) he hr ho (by rw [List.append_nil]; exact hf)
    have hrel : relOf Rs' i = false := by simp only [relOf, hri]; rfl
    have hFi : ∀ V, frm l (eOf es') V L i = F V := fun V => by rw [hF V]; exact frm_congr i fun j hj => eOf_pre pe (by omega) V
    refine ⟨es', Rs', Ms', pe, pr, pm, hf.le, hf.lr, hf.lm, fun j hij hjl o' ho' => ?_, hf.fin⟩
    rcases Nat.eq_or_lt_of_le hij with rfl | hlt
    · rw [ho] at ho'
      obtain rfl : o = o' := by simpa using ho'
      have hiT : i ∉ T := by simpa using hT
      refine ⟨fun V V' hV _ => by rw [hei]; exact dep V V' hV, fun V V' _ _ _ R hR => (by rw [hri] at hR; cases hR), fun h => (by rw [hrel] at h; cases h), fun h => absurd h hiT, fun h => (by rw [hrel] at h; cases h), fun _ V hV => ?_, fun p hp hpi => ?_⟩
      · rw [hFi V, if_pos (hw V), hei, hrel]
        simp only [Bool.false_eq_true, if_false]
        have hne : Ms.length ≠ 0 := fun h0 => by
          rw [← hM] at h0
          rw [List.length_eq_zero_iff.1 h0] at hea; cases hea
        have hb := getLast_pre pm (hB V)
        rw [if_neg hne] at hb
        refine ⟨B V, .inr ⟨hla, hea, by rw [hM]; exact hb⟩, h V (RD_of pr hr (dlt i o ho) hV)⟩
      · exfalso; apply hiT; rw [← hpi]; simp [hp]
    · exact hf.each j hlt hjl o' ho'
  | @rel i F es Rs Ms o R js ho hT hearly hj hw h dep k ih =>
    intro he hr hi hF
    have hil : i < l.length := (List.getElem?_eq_some_iff.1 ho).1
    have hd : dstOf l i = o.dst := by simp [dstOf, ho]
    obtain ⟨es', Rs', Ms', hf⟩ := ih (by simp [he]) (by simp [hr]) hil (fun V => by
      have h1 : eOf (es ++ [fun V => (V i).1]) i V = (V i).1 := by simp [eOf, ← he]
      have h2 : frm l (eOf (es ++ [fun V => (V i).1])) V L i = frm l (eOf es) V L i := frm_congr i fun j hj => eOf_pre (List.prefix_append _ _) (by omega) V
      simp only [frm, hd, h1, h2, hF V])
    obtain ⟨pe, pr, pm, hei, hri⟩ := cons (F := F) (Mx := []) he hr ho (by rw [List.append_nil]; exact hf)
    have hrel : relOf Rs' i = true := by simp only [relOf, hri]; rfl
    have hFi : ∀ V, frm l (eOf es') V L i = F V := fun V => by rw [hF V]; exact frm_congr i fun j hj => eOf_pre pe (by omega) V
    have hRO : ∀ V, ROf Rs' i V ↔ R V := fun V => ⟨fun h => h R hri, fun h R' hR' => by rw [hri] at hR'; simp only [Option.some.injEq] at hR'; exact hR' ▸ h⟩
    have hall : ∀ t ∈ T, i ∈ Dn D t := fun t ht => by
      have := List.all_eq_true.1 hearly t ht
      simpa using this
    refine ⟨es', Rs', Ms', pe, pr, pm, hf.le, hf.lr, hf.lm, fun j hij hjl o' ho' => ?_, hf.fin⟩
    rcases Nat.eq_or_lt_of_le hij with rfl | hlt
    · rw [ho] at ho'
      obtain rfl : o = o' := by simpa using ho'
      have hiT : i ∉ T := by simpa using hT
      refine ⟨fun V V' _ hV => by rw [hei]; simp only; rw [hV hrel], fun V V' hV hVi hR => (hRO V').2 (dep V V' hV hVi ((hRO V).1 hR)), fun _ V => by rw [hei], fun h => absurd h hiT, fun _ _ => hall, fun _ V hV => ?_, fun p hp hpi => ?_⟩
      · rw [hFi V, if_pos (hw V), hrel]
        simp only [if_true]
        refine ⟨_, .inl rfl, ?_⟩
        unfold memH
        have hea : early D T i = true := by
          cases T with
          | nil => rfl
          | cons t T' => simpa [early] using hall t (by simp)
        rw [if_pos hea]
        exact ((h V (RD_of pr hr (dlt i o ho) hV)).more ((List.Sublist.refl m).append (flat_sub V ((List.isSublist_iff_sublist.1 hj).trans (jsOf_heads pr hr (Nat.le_of_lt hil)))))).weaken fun v mi hh => (hRO _).2 hh
      · exfalso; apply hiT; rw [← hpi]; simp [hp]
    · exact hf.each j hlt hjl o' ho'
  | @tail i F es Rs Ms o R B M ho hT hg hB h dep k ih =>
    intro he hr hi hF
    have hil : i < l.length := (List.getElem?_eq_some_iff.1 ho).1
    have hd : dstOf l i = o.dst := by simp [dstOf, ho]
    obtain ⟨es', Rs', Ms', hf⟩ := ih (by simp [he]) (by simp [hr]) hil (fun V => by
      have h1 : eOf (es ++ [fun V => (V i).1]) i V = (V i).1 := by simp [eOf, ← he]
      have h2 : frm l (eOf (es ++ [fun V => (V i).1])) V L i = frm l (eOf es) V L i := frm_congr i fun j hj => eOf_pre (List.prefix_append _ _) (by omega) V
      simp only [frm, hd, h1, h2, hF V])
    obtain ⟨pe, pr, pm, hei, hri⟩ := cons (F := F) he hr ho hf
    have hrel : relOf Rs' i = true := by simp only [relOf, hri]; rfl
    have hFi : ∀ V, frm l (eOf es') V L i = F V := fun V => by rw [hF V]; exact frm_congr i fun j hj => eOf_pre pe (by omega) V
    have hRO : ∀ V, ROf Rs' i V ↔ R V := fun V => ⟨fun h => h R hri, fun h R' hR' => by rw [hri] at hR'; simp only [Option.some.injEq] at hR'; exact hR' ▸ h⟩
    obtain ⟨hpT, hTi⟩ := List.getElem?_eq_some_iff.1 hT
    have hTi' : T.getD Ms.length 0 = i := by simp [hpT, hTi]
    have hiT : i ∈ T := by rw [← hTi]; exact List.getElem_mem hpT
    refine ⟨es', Rs', Ms', pe, pr, pm, hf.le, hf.lr, hf.lm, fun j hij hjl o' ho' => ?_, hf.fin⟩
    rcases Nat.eq_or_lt_of_le hij with rfl | hlt
    · rw [ho] at ho'
      obtain rfl : o = o' := by simpa using ho'
      refine ⟨fun V V' _ hV => by rw [hei]; simp only; rw [hV hrel], fun V V' hV hVi hR => (hRO V').2 (dep V V' hV hVi ((hRO V).1 hR)), fun _ V => by rw [hei], fun _ => hrel, fun _ hn => absurd hiT hn, fun hn => absurd hiT hn, fun p hp hpi => ⟨hg, fun V hV => ?_⟩⟩
      have hpM : p = Ms.length := by
        have h1 : T[p] = i := by simpa [hp] using hpi
        exact (List.getElem_inj hc.tnodup).1 (h1.trans hTi.symm)
      subst hpM
      have hmem : memT m l.length T (relOf Rs') (MOf Ms') Ms.length V = B V := by
        have hb := getLast_pre pm (hB V)
        rw [hb]
        unfold memT
        by_cases h0 : Ms.length = 0
        · rw [if_pos h0, if_pos h0, heads_all pr hr (Nat.le_of_lt hil) fun j hij' hjn hrj => ?_]
          by_cases hjT : j ∈ T
          · exact hjT
          · exfalso
            have hji : j ≠ i := fun e => hjT (e ▸ hiT)
            have ho'' : l[j]? = some l[j] := List.getElem?_eq_getElem hjn
            have := (hf.each j (by omega) hjn _ ho'').2.2.2.2.1 hrj hjT i hiT
            have := dlt i o ho j this
            omega
        · rw [if_neg h0, if_neg h0]
      rw [hmem, hFi V]
      refine fun w hw => Runs_mono (h V (RD_of pr hr (dlt i o ho) hV) w hw) ?_
      rintro v w' ⟨m', ⟨x, hx, rfl, hsub⟩, hm'⟩
      refine ⟨_, ⟨x, (hRO _).2 hx, ?_, hsub⟩, hm'⟩
      have := snoc_get hf.pm
      simp [MOf, this]
    · exact hf.each j hlt hjl o' ho'
  | @done i F es Rs Ms B hi' hT hB h =>
    intro he hr hi hF
    subst hi'
    refine ⟨es, Rs, Ms, List.prefix_refl _, List.prefix_refl _, List.prefix_refl _, he, hr, hT.symm, fun j h1 h2 => by omega, fun V hV => ?_⟩
    have hb := getLast_pre (List.prefix_refl Ms) (hB V)
    have hk := h V (fun j R hR => by
      by_cases hj : j < l.length
      · exact hV j hj R hR
      · simp [List.getElem?_eq_none (show Rs.length ≤ j by omega)] at hR)
    rw [hF V, hb] at hk
    unfold memT
    rw [hT]
    by_cases h0 : Ms.length = 0
    · rw [if_pos h0] at hk ⊢
      rw [heads_all (List.prefix_refl Rs) hr (Nat.le_refl _) fun j h1 h2 => by omega]
      exact hk
    · rw [if_neg h0] at hk ⊢; exact hk

/-- **A region that draws its order, walked in the order of the text.** -/
theorem WC_draw (D : List (List Nat)) (T : List Nat) (n : Nat) (mk : Mem) (hmk : mk.Sublist m) {id : Nat} (hm : P.follows .mixedOrders = true) (hn : L.length = n) (hc : chk l D T n = true) (h : RW P w0 K mk m l D T 0 (fun _ => L) [] [] []) : WC P w0 (.region id l.toArray true) K E L m := by
  subst hn
  have hC := chk_spec hc
  obtain ⟨es, Rs, Ms, hf⟩ := from_of_RW (L := L) hC hmk h rfl rfl (Nat.zero_le _) (fun V => rfl)
  refine WC_drawn (D := D) (T := T) (rel := relOf Rs) (e := eOf es) (R := ROf Rs) (M := MOf Ms) hm hc ⟨hmk, ?_, ?_, ?_, ?_, ?_, ?_, ?_⟩
  · intro i hi V
    by_cases hil : i < l.length
    · exact (hf.each i (Nat.zero_le _) hil _ (List.getElem?_eq_getElem hil)).2.2.1 hi V
    · have : Rs.getD i none = none := by simp [List.getElem?_eq_none (show Rs.length ≤ i by rw [hf.lr]; omega)]
      simp only [relOf, this] at hi; cases hi
  · intro t ht
    have hil := hC.tlt t ht
    exact (hf.each t (Nat.zero_le _) hil _ (List.getElem?_eq_getElem hil)).2.2.2.1 ht
  · intro i hi hil hiT
    exact (hf.each i (Nat.zero_le _) hil _ (List.getElem?_eq_getElem hil)).2.2.2.2.1 hi hiT
  · intro i j hi hil hjl hd hne V x
    have hj := hf.each j (Nat.zero_le _) hjl _ (List.getElem?_eq_getElem hjl)
    have hag : ∀ k ∈ Dn D j, updV V i x k = V k := fun k hk => updV_ne V x fun e => hd (e ▸ hk)
    have hjj : updV V i x j = V j := updV_ne V x hne
    exact ⟨hj.1 _ _ hag fun _ => hjj, fun _ hR => hj.2.1 V _ (fun k hk => (hag k hk).symm) hjj.symm hR⟩
  · intro i o ho hiT V hV
    have hil : i < l.length := (List.getElem?_eq_some_iff.1 ho).1
    exact (hf.each i (Nat.zero_le _) hil o ho).2.2.2.2.2.1 hiT V fun k hk => by
      by_cases hr : relOf Rs k = true
      · exact hV k hk hr
      · intro R hR
        simp only [relOf, hR] at hr
        simp at hr
  · intro p o hp ho
    have hil : T.getD p 0 < l.length := (List.getElem?_eq_some_iff.1 ho).1
    obtain ⟨h1, h2⟩ := (hf.each _ (Nat.zero_le _) hil o ho).2.2.2.2.2.2 p hp rfl
    refine ⟨h1, fun V hV => h2 V fun k hk => ?_⟩
    by_cases hr : relOf Rs k = true
    · exact hV k hk hr
    · intro R hR
      simp only [relOf, hR] at hr
      simp at hr
  · intro V hV
    exact hf.fin V fun j hj => by
      by_cases hr : relOf Rs j = true
      · exact hV j hj hr
      · intro R hR
        simp only [relOf, hR] at hr
        simp at hr
end
end Go.MW
