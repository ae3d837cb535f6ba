/- A region that draws its order, walked once: every operation is shown from what it must wait for alone. Conditions: none. -/
import Derived.Test.YtpmldkhgdpchjaaM1
import Derived.Orders
namespace Go.MW
open Go.RowKit

/-- What the operations of a region have yielded: a value and new blocks. -/
abbrev Sel := Nat → Value × Mem
def updV (V : Sel) (i : Nat) (x : Value × Mem) : Sel := fun j => if j = i then x else V j
theorem updV_same (V : Sel) (i : Nat) (x : Value × Mem) : updV V i x i = x := by simp [updV]
theorem updV_ne (V : Sel) {i j : Nat} (x : Value × Mem) (h : j ≠ i) : updV V i x j = V j := by simp [updV, h]

def dstOf (l : List Oper) (k : Nat) : Option Tmp := (l[k]?).bind (·.dst)

/-- The frame when the operations of S among the first k have been carried out. -/
def frmS (l : List Oper) (e : Nat → Sel → Value) (V : Sel) (S : Nat → Bool) (L : List Value) : Nat → List Value
  | 0 => L
  | k + 1 => if S k then put (frmS l e V S L k) (dstOf l k) (e k V) else frmS l e V S L k
/-- .. all of the first k. -/
def frm (l : List Oper) (e : Nat → Sel → Value) (V : Sel) (L : List Value) : Nat → List Value
  | 0 => L
  | k + 1 => put (frm l e V L k) (dstOf l k) (e k V)

def flat (js : List Nat) (V : Sel) : Mem := js.flatMap fun j => (V j).2

theorem flat_nil (V : Sel) : flat [] V = [] := rfl
theorem flat_cons (j : Nat) (js : List Nat) (V : Sel) : flat (j :: js) V = (V j).2 ++ flat js V := rfl

theorem length_put (L : List Value) (d : Option Tmp) (v : Value) : (put L d v).length = L.length := by cases d <;> simp [put]
theorem nth_set_self (L : List Value) {t : Nat} (h : t < L.length) (v : Value) : nth (L.set t v) t = v := by
  rw [← nth_eq]; simp [h]
theorem nth_set_ne (L : List Value) {t u : Nat} (h : u ≠ t) (v : Value) : nth (L.set u v) t = nth L t := by
  rw [← nth_eq, ← nth_eq]; simp [h]
theorem nth_put_ne (L : List Value) {t : Nat} {d : Option Tmp} (h : d ≠ some t) (v : Value) : nth (put L d v) t = nth L t := by
  cases d with
  | none => rfl
  | some u => exact nth_set_ne L (fun e => h (by rw [e])) v
theorem nth_put_self (L : List Value) {t : Nat} (h : t < L.length) (v : Value) : nth (put L (some t) v) t = v := nth_set_self L h v
theorem ext_nth {L L' : List Value} (hl : L.length = L'.length) (h : ∀ t, t < L.length → nth L t = nth L' t) : L = L' := by
  apply List.ext_getElem hl
  intro t h1 h2
  have := h t h1
  rw [← nth_eq, ← nth_eq] at this
  simpa [h1, h2] using this

section
variable {l : List Oper} {e e' : Nat → Sel → Value} {V V' : Sel} {S : Nat → Bool} {L : List Value}

theorem length_frmS (k : Nat) : (frmS l e V S L k).length = L.length := by
  induction k with
  | zero => rfl
  | succ k ih => simp only [frmS]; split <;> simp [length_put, ih]
theorem length_frm (k : Nat) : (frm l e V L k).length = L.length := by
  induction k with
  | zero => rfl
  | succ k ih => simp [frm, length_put, ih]
theorem frm_eq_frmS (k : Nat) : frm l e V L k = frmS l e V (fun _ => true) L k := by
  induction k with
  | zero => rfl
  | succ k ih => simp [frm, frmS, ih]

theorem nth_frmS_none {t : Nat} (k : Nat) (h : ∀ j, j < k → S j = true → dstOf l j ≠ some t) : nth (frmS l e V S L k) t = nth L t := by
  induction k with
  | zero => rfl
  | succ k ih =>
    simp only [frmS]
    split
    · rename_i hs
      rw [nth_put_ne _ (h k (by omega) hs)]
      exact ih fun j hj => h j (by omega)
    · exact ih fun j hj => h j (by omega)
theorem nth_frmS_some {t j : Nat} (k : Nat) (hj : j < k) (hs : S j = true) (hd : dstOf l j = some t) (ht : t < L.length) (hu : ∀ i, dstOf l i = some t → i = j) : nth (frmS l e V S L k) t = e j V := by
  induction k with
  | zero => omega
  | succ k ih =>
    simp only [frmS]
    by_cases hk : k = j
    · subst hk
      rw [if_pos hs, hd, nth_put_self _ (by rw [length_frmS]; exact ht)]
    · have := ih (by omega)
      split
      · rw [nth_put_ne _ (fun h => hk (hu k h))]; exact this
      · exact this
end

/-! ### what is looked at of a region, by reckoning -/

def edgesOf (o : Oper) : List Nat := o.after.toList.filterMap fun e => if Region.binds .any e then some e.on else none

/-- Each temporary is written once; every edge goes back; D is what each waits for; what an operation names is written before it or behind it. -/
def chk (l : List Oper) (D : List (List Nat)) (T : List Nat) (len : Nat) : Bool :=
  let n := l.length
  let idx := List.range n
  (idx.all fun i => match dstOf l i with
    | none => true
    | some t => decide (t < len) && idx.all fun j => j == i || dstOf l j != some t) &&
  (l.zipIdx.all fun (o, i) => (edgesOf o).all fun j => decide (j < i)) &&
  (l.zipIdx.all fun (o, i) => (D.getD i []).all fun j => (edgesOf o).any fun k => k == j || (D.getD k []).contains j) &&
  (l.zipIdx.all fun (o, i) => (o.looksAt l.toArray).all fun t => idx.all fun j => j == i || dstOf l j != some t || (if j < i then (D.getD i []).contains j else (D.getD j []).contains i)) &&
  (l.all fun o => match o.op with | .select .. => false | _ => true) &&
  (T.all fun t => decide (t < n)) &&
  ((List.range T.length).all fun p => (List.range p).all fun q => (D.getD (T.getD p 0) []).contains (T.getD q 0)) &&
  decide (T.Nodup)

def Dn (D : List (List Nat)) (i : Nat) : List Nat := D.getD i []
/-- The operation's turn comes before the first of the tail. -/
def early (D : List (List Nat)) (T : List Nat) (i : Nat) : Bool := match T with | [] => true | t :: _ => (Dn D t).contains i
def lateAll (D : List (List Nat)) (T : List Nat) (i : Nat) : Bool := T.all fun t => (Dn D i).contains t
def heads (n : Nat) (rel : Nat → Bool) (T : List Nat) (S : Nat → Bool) : List Nat := (List.range n).filter fun j => S j && rel j && !T.contains j

def memH (mk m : Mem) (n : Nat) (D : List (List Nat)) (T : List Nat) (rel : Nat → Bool) (i : Nat) (V : Sel) : Mem :=
  if early D T i then m ++ flat (heads n rel T fun j => (Dn D i).contains j) V else mk
def memT (m : Mem) (n : Nat) (T : List Nat) (rel : Nat → Bool) (M : Nat → Sel → Mem) (p : Nat) (V : Sel) : Mem :=
  if p = 0 then m ++ flat (heads n rel T fun _ => true) V else M p V

theorem filter_sub {α : Type} {p q : α → Bool} : ∀ (l : List α), (∀ x ∈ l, p x = true → q x = true) → (l.filter p).Sublist (l.filter q)
  | [], _ => by simp
  | x :: l, h => by
    have ih := filter_sub l fun y hy => h y (List.mem_cons_of_mem _ hy)
    by_cases hp : p x = true
    · rw [List.filter_cons_of_pos hp, List.filter_cons_of_pos (h x (by simp) hp)]; exact ih.cons_cons x
    · rw [List.filter_cons_of_neg hp]
      by_cases hq : q x = true
      · rw [List.filter_cons_of_pos hq]; exact ih.cons x
      · rw [List.filter_cons_of_neg hq]; exact ih
theorem flat_sub {js js' : List Nat} (V : Sel) (h : js.Sublist js') : (flat js V).Sublist (flat js' V) := by
  induction h with
  | slnil => simp
  | cons x _ ih => simp only [flat, List.flatMap_cons]; exact ih.trans (List.sublist_append_right _ _)
  | cons_cons x _ ih => simp only [flat, List.flatMap_cons]; exact (List.Sublist.refl _).append ih
theorem flat_congr {js : List Nat} {V V' : Sel} (h : ∀ j ∈ js, V j = V' j) : flat js V = flat js V' := by
  induction js with
  | nil => rfl
  | cons j js ih => simp only [flat, List.flatMap_cons] at ih ⊢; rw [h j (by simp), ih fun x hx => h x (by simp [hx])]
/-- One index more among those that are kept. -/
theorem flat_insert {V : Sel} {p : Nat → Bool} {i : Nat} : ∀ (js : List Nat), js.Nodup → i ∈ js → p i = false → (flat (js.filter fun j => p j || j == i) V).Perm (flat (js.filter p) V ++ (V i).2)
  | [], _, h, _ => by simp at h
  | x :: js, hn, h, hp => by
    obtain ⟨hx, hn'⟩ := List.nodup_cons.1 hn
    by_cases hxi : x = i
    · subst hxi
      have e : (js.filter fun j => p j || j == x) = js.filter p := List.filter_congr fun j hj => by
        have : j ≠ x := fun e => hx (e ▸ hj)
        simp [this]
      rw [List.filter_cons_of_pos (by simp), List.filter_cons_of_neg (by simp [hp]), e]
      simp only [flat, List.flatMap_cons]
      exact List.perm_append_comm
    · have hi : i ∈ js := (List.mem_cons.1 h).resolve_left fun e => hxi e.symm
      have ih := flat_insert (V := V) (p := p) js hn' hi hp
      by_cases hpx : p x = true
      · rw [List.filter_cons_of_pos (by simp [hpx]), List.filter_cons_of_pos hpx]
        simp only [flat, List.flatMap_cons, List.append_assoc] at ih ⊢
        exact ih.append_left _
      · rw [List.filter_cons_of_neg (by simp [hpx, hxi]), List.filter_cons_of_neg hpx]
        exact ih

section
variable {P : Program} {w0 : World} {K : List Value → Mem → Prop} {E : Exit → List Value → Mem → Prop} {L : List Value} {mk m : Mem}
variable {l : List Oper} {D : List (List Nat)} {T : List Nat} {rel : Nat → Bool} {e : Nat → Sel → Value} {R : Nat → Sel → Prop} {M : Nat → Sel → Mem}

structure Chk (l : List Oper) (D : List (List Nat)) (T : List Nat) (len : Nat) : Prop where
  uniq : ∀ i j t, i < l.length → j < l.length → dstOf l i = some t → dstOf l j = some t → i = j
  lt : ∀ i t, i < l.length → dstOf l i = some t → t < len
  back : ∀ i o, l[i]? = some o → ∀ j ∈ edgesOf o, j < i
  deps : ∀ i o, l[i]? = some o → ∀ j ∈ Dn D i, ∃ k ∈ edgesOf o, k = j ∨ j ∈ Dn D k
  looks : ∀ i o, l[i]? = some o → ∀ t ∈ o.looksAt l.toArray, ∀ j, j < l.length → j ≠ i → dstOf l j = some t → if j < i then j ∈ Dn D i else i ∈ Dn D j
  sel : ∀ (i : Nat) (o : Oper), l[i]? = some o → ∀ cs b, o.op ≠ .select cs b
  tlt : ∀ t ∈ T, t < l.length
  tails : ∀ p q, p < T.length → q < p → T.getD q 0 ∈ Dn D (T.getD p 0)
  tnodup : T.Nodup

theorem mem_zip {l : List Oper} {i : Nat} {o : Oper} (h : l[i]? = some o) : (o, i) ∈ l.zipIdx := by
  rw [List.mem_zipIdx_iff_getElem?]; exact h

theorem dst_lt {l : List Oper} {i : Nat} {t : Tmp} (h : dstOf l i = some t) : i < l.length := by
  unfold dstOf at h
  cases hi : l[i]? with
  | none => simp [hi] at h
  | some o => exact (List.getElem?_eq_some_iff.1 hi).1

theorem chk_spec {len : Nat} (h : chk l D T len = true) : Chk l D T len := by
  simp only [chk, Bool.and_eq_true] at h
  obtain ⟨⟨⟨⟨⟨⟨⟨h1, h2⟩, h3⟩, h4⟩, h5⟩, h6⟩, h7⟩, h8⟩ := h
  rw [List.all_eq_true] at h1 h2 h3 h4 h5 h6 h7
  refine ⟨?_, ?_, ?_, ?_, ?_, ?_, ?_, ?_, ?_⟩
  · intro i j t hi hj hdi hdj
    have := h1 i (List.mem_range.2 hi)
    rw [hdi] at this
    simp only [Bool.and_eq_true, List.all_eq_true] at this
    have := this.2 j (List.mem_range.2 hj)
    rw [hdj] at this
    simp at this
    exact this.symm
  · intro i t hi hdi
    have := h1 i (List.mem_range.2 hi)
    rw [hdi] at this
    simp only [Bool.and_eq_true, decide_eq_true_eq] at this
    exact this.1
  · intro i o ho j hj
    have := h2 _ (mem_zip ho)
    simp only [List.all_eq_true, decide_eq_true_eq] at this
    exact this j hj
  · intro i o ho j hj
    have := h3 _ (mem_zip ho)
    simp only [List.all_eq_true, List.any_eq_true] at this
    obtain ⟨k, hk, hh⟩ := this j hj
    refine ⟨k, hk, ?_⟩
    simpa [Dn] using hh
  · intro i o ho t ht j hj hne hd
    have := h4 _ (mem_zip ho)
    simp only [List.all_eq_true] at this
    have := this t ht j (List.mem_range.2 hj)
    simp only [hd, Bool.or_eq_true, beq_iff_eq, hne, false_or, bne_self_eq_false, Bool.false_eq_true] at this
    split at this <;> rename_i hlt
    · rw [if_pos hlt]; simpa [Dn] using this
    · rw [if_neg hlt]; simpa [Dn] using this
  · intro i o ho cs b heq
    have := h5 o (List.mem_of_getElem? ho)
    simp [heq] at this
  · intro t ht
    simpa using h6 t ht
  · intro p q hp hq
    have := h7 p (List.mem_range.2 hp)
    simp only [List.all_eq_true] at this
    simpa [Dn] using this q (List.mem_range.2 hq)
  · simpa using h8

/-- What is asked of a region. -/
structure Walked (P : Program) (w0 : World) (K : List Value → Mem → Prop) (L : List Value) (mk m : Mem) (l : List Oper) (D : List (List Nat)) (T : List Nat) (rel : Nat → Bool) (e : Nat → Sel → Value) (R : Nat → Sel → Prop) (M : Nat → Sel → Mem) : Prop where
  hmk : mk.Sublist m
  hrel : ∀ i, rel i = true → ∀ V, e i V = (V i).1
  htail : ∀ t ∈ T, rel t = true
  hhead : ∀ i, rel i = true → i < l.length → i ∉ T → ∀ t ∈ T, i ∈ Dn D t
  hdep : ∀ i j, rel i = true → i < l.length → j < l.length → i ∉ Dn D j → j ≠ i → ∀ V x, e j (updV V i x) = e j V ∧ (rel j = true → R j V → R j (updV V i x))
  head : ∀ i o, l[i]? = some o → i ∉ T → ∀ V, (∀ j ∈ Dn D i, rel j = true → R j V) →
    if Region.wanted o (yielded l.toArray (frm l e V L i).toArray) then
      ∃ X, (X = memH mk m l.length D T rel i V ∨ (lateAll D T i = true ∧ early D T i = false ∧ X = M T.length V)) ∧
      Rel P w0 X (ev (frm l e V L i)) o (fun v mi => if rel i then R i (updV V i (v, mi)) else v = e i V ∧ mi = [])
    else (if rel i then R i (updV V i (undef, [])) else e i V = undef)
  tail : ∀ p o, p < T.length → l[T.getD p 0]? = some o → o.guard = none ∧ ∀ V, (∀ j ∈ Dn D (T.getD p 0), rel j = true → R j V) →
    Chg P w0 (memT m l.length T rel M p V) (ev (frm l e V L (T.getD p 0))) o
      (fun v m' => ∃ x, R (T.getD p 0) (updV V (T.getD p 0) (v, x)) ∧ m' = M (p + 1) (updV V (T.getD p 0) (v, x)) ∧ mk.Sublist m')
  fin : ∀ V, (∀ i, i < l.length → rel i = true → R i V) → K (frm l e V L l.length) (memT m l.length T rel M T.length V)

def Sof (listed : Array Bool) : Nat → Bool := fun j => listed.getD j false
def cnt (T : List Nat) (S : Nat → Bool) : Nat := (T.filter S).length

structure Inv (w0 : World) (L : List Value) (mk m : Mem) (l : List Oper) (D : List (List Nat)) (T : List Nat) (rel : Nat → Bool) (e : Nat → Sel → Value) (R : Nat → Sel → Prop) (M : Nat → Sel → Mem) (listed : Array Bool) (a : Act) (w : World) (V : Sel) : Prop where
  size : listed.size = l.length
  act : a = fr (frmS l e V (Sof listed) L l.length)
  closed : ∀ k, Sof listed k = true → ∀ j ∈ Dn D k, Sof listed j = true
  rels : ∀ i, Sof listed i = true → rel i = true → R i V
  keep : Has w0 mk w
  mem : Has w0 (if cnt T (Sof listed) = 0 then m ++ flat (heads l.length rel T (Sof listed)) V else M (cnt T (Sof listed)) V) w

theorem Sof_set {listed : Array Bool} {i j : Nat} (hi : i < listed.size) : Sof (listed.setIfInBounds i true) j = (Sof listed j || j == i) := by
  unfold Sof
  by_cases h : i = j
  · subst h; simp [hi]
  · have hb : (j == i) = false := by simp; exact fun e => h e.symm
    simp [h, hb]
theorem Sof_lt {listed : Array Bool} {j : Nat} (h : Sof listed j = true) : j < listed.size := by
  unfold Sof at h
  rcases Nat.lt_or_ge j listed.size with h' | h'
  · exact h'
  · simp [h'] at h

theorem ready_Sof {listed : Array Bool} {i : Nat} (hs : listed.size = l.length) (h : i ∈ Region.ready .any l.toArray listed) :
    Sof listed i = false ∧ ∃ o, l[i]? = some o ∧ ∀ j ∈ edgesOf o, Sof listed j = true := by
  obtain ⟨h0, o, ho, hall⟩ := mem_ready.1 h
  have ho' : l[i]? = some o := by simpa using ho
  have hi : i < listed.size := by rw [hs]; exact (List.getElem?_eq_some_iff.1 ho').1
  refine ⟨?_, o, ho', ?_⟩
  · unfold Sof; simp [hi] at h0 ⊢; exact h0
  · intro j hj
    simp only [edgesOf, List.mem_filterMap, Array.mem_toList_iff] at hj
    obtain ⟨e, he, hb⟩ := hj
    split at hb
    · rename_i hbind
      simp only [Option.some.injEq] at hb
      subst hb
      exact hall e he hbind
    · cases hb

theorem all_of_ready_nil {listed : Array Bool} {len : Nat} (hs : listed.size = l.length) (hc : Chk l D T len) (h : Region.ready .any l.toArray listed = []) : ∀ i, i < l.length → Sof listed i = true := by
  intro i
  induction i using Nat.strongRecOn with
  | _ i ih =>
    intro hi
    cases hS : Sof listed i with
    | true => rfl
    | false =>
      have ho : l[i]? = some l[i] := List.getElem?_eq_getElem hi
      have : i ∈ Region.ready .any l.toArray listed := mem_ready.2 ⟨by
        unfold Sof at hS
        have : i < listed.size := by omega
        simp [this] at hS ⊢; exact hS, l[i], by simp [hi], fun e he hb => by
        have hj : e.on ∈ edgesOf l[i] := by
          simp only [edgesOf, List.mem_filterMap, Array.mem_toList_iff]
          exact ⟨e, he, by simp [hb]⟩
        have hlt := hc.back i _ ho _ hj
        have := ih e.on hlt (by omega)
        unfold Sof at this
        exact this⟩
      rw [h] at this
      cases this

theorem ev_same {len : Nat} (hc : Chk l D T len) (hL : L.length = len) {listed : Array Bool} {V : Sel} (hcl : ∀ k, Sof listed k = true → ∀ j ∈ Dn D k, Sof listed j = true) {i : Nat} {o : Oper} (ho : l[i]? = some o)
    (hi : Sof listed i = false) (hD : ∀ j ∈ Dn D i, Sof listed j = true) {t : Tmp} (ht : t ∈ o.looksAt l.toArray) : nth (frmS l e V (Sof listed) L l.length) t = nth (frm l e V L i) t := by
  have hil : i < l.length := (List.getElem?_eq_some_iff.1 ho).1
  rw [frm_eq_frmS]
  by_cases hex : ∃ j, j < l.length ∧ j ≠ i ∧ dstOf l j = some t
  · obtain ⟨j, hj, hne, hd⟩ := hex
    have hu : ∀ i', dstOf l i' = some t → i' = j := fun i' h => hc.uniq i' j t (dst_lt h) hj h hd
    have htl : t < L.length := by rw [hL]; exact hc.lt j t hj hd
    have hlk := hc.looks i o ho t ht j hj hne hd
    by_cases hlt : j < i
    · rw [if_pos hlt] at hlk
      rw [nth_frmS_some l.length hj (hD j hlk) hd htl hu, nth_frmS_some i hlt rfl hd htl hu]
    · rw [if_neg hlt] at hlk
      have hSj : Sof listed j = false := by
        cases h : Sof listed j with
        | false => rfl
        | true => rw [hcl j h i hlk] at hi; cases hi
      rw [nth_frmS_none l.length (fun k _ hk hd' => by rw [hu k hd', hSj] at hk; cases hk), nth_frmS_none i (fun k hk _ hd' => by have := hu k hd'; omega)]
  · have hno : ∀ k, k < l.length → k ≠ i → dstOf l k ≠ some t := fun k hk hne hd => hex ⟨k, hk, hne, hd⟩
    rw [nth_frmS_none l.length (fun k hk hsk hd => by
      by_cases hki : k = i
      · subst hki; rw [hi] at hsk; cases hsk
      · exact hno k hk hki hd), nth_frmS_none i (fun k hk _ => hno k (by omega) (by omega))]

theorem put_same {len : Nat} (hc : Chk l D T len) {listed : Array Bool} {V V' : Sel} (hs : listed.size = l.length) {i : Nat} (hil : i < l.length) (hi : Sof listed i = false)
    (he : ∀ j, Sof listed j = true → e j V' = e j V) (v : Value) (hv : e i V' = v) :
    put (frmS l e V (Sof listed) L l.length) (dstOf l i) v = frmS l e V' (Sof (listed.setIfInBounds i true)) L l.length := by
  have hset : ∀ j, Sof (listed.setIfInBounds i true) j = (Sof listed j || j == i) := fun j => Sof_set (by omega)
  refine ext_nth (by simp [length_put, length_frmS]) fun t htl => ?_
  simp only [length_put, length_frmS] at htl
  by_cases hd : dstOf l i = some t
  · have hu : ∀ i', dstOf l i' = some t → i' = i := fun i' h => hc.uniq i' i t (dst_lt h) hil h hd
    rw [hd, nth_put_self _ (by rw [length_frmS]; exact htl), nth_frmS_some l.length hil (by rw [hset]; simp) hd htl hu, hv]
  · rw [nth_put_ne _ hd]
    by_cases hex : ∃ j, j < l.length ∧ Sof listed j = true ∧ dstOf l j = some t
    · obtain ⟨j, hj, hS, hdj⟩ := hex
      have hu : ∀ i', dstOf l i' = some t → i' = j := fun i' h => hc.uniq i' j t (dst_lt h) hj h hdj
      rw [nth_frmS_some l.length hj hS hdj htl hu, nth_frmS_some l.length hj (by rw [hset, hS]; rfl) hdj htl hu, he j hS]
    · have hno : ∀ k, k < l.length → Sof listed k = true → dstOf l k ≠ some t := fun k hk hsk hdk => hex ⟨k, hk, hsk, hdk⟩
      rw [nth_frmS_none l.length hno, nth_frmS_none l.length fun k hk hsk => by
        rw [hset] at hsk
        by_cases hki : k = i
        · subst hki; exact hd
        · have hb : (k == i) = false := by simpa using hki
          rw [hb, Bool.or_false] at hsk
          exact hno k hk hsk]

theorem cnt_zero {T : List Nat} {S : Nat → Bool} : cnt T S = 0 ↔ ∀ t ∈ T, S t = false := by
  unfold cnt
  rw [List.length_eq_zero_iff, List.filter_eq_nil_iff]
  exact ⟨fun h t ht => by simpa using h t ht, fun h t ht => by simp [h t ht]⟩


theorem wp_op_of_rel {o : Oper} {i : Nat} {A : Act} {w : World} {Q : Exit → Act → World → Prop} {K' : Act → World → Prop} (ho : l[i]? = some o)
    (h1 : Region.wanted o (yielded l.toArray A.tmps) = true → o.wp P A w K' Q) (h2 : Region.wanted o (yielded l.toArray A.tmps) = false → K' (A.put o.dst undef) w) : wpOp P l.toArray Q i K' A w := by
  unfold wpOp
  have : l.toArray[i]? = some o := by simpa using ho
  rw [this]
  simp only
  by_cases hw : Region.wanted o (yielded l.toArray A.tmps) = true
  · rw [if_pos hw]; exact .inl (h1 hw)
  · rw [if_neg hw]; exact h2 (by simpa using hw)

theorem wanted_same {o : Oper} {L L' : List Value} (h : ∀ t ∈ o.looksAt l.toArray, nth L t = nth L' t) (hlen : L.length = L'.length) :
    Region.wanted o (yielded l.toArray (fr L).tmps) = Region.wanted o (yielded l.toArray L'.toArray) := by
  unfold Region.wanted
  cases hg : o.guard with
  | none => rfl
  | some gw =>
    obtain ⟨g, want⟩ := gw
    have hy : yielded l.toArray (fr L).tmps g = yielded l.toArray L'.toArray g := by
      unfold yielded
      cases ht : (l.toArray[g]?).bind (·.dst) with
      | none => rfl
      | some t =>
        have ht' : ((l[g]?).bind fun x => x.dst) = some t := by simpa using ht
        have := h t (by simp [Oper.looksAt, hg, ht'])
        rw [← nth_eq, ← nth_eq] at this
        by_cases hlt : t < L.length
        · simp [hlt, ← hlen] at this
          simp [fr, hlt, ← hlen, this]
        · simp [fr, hlt, ← hlen]
    simp only [hy]

theorem execOp_same {o : Oper} (hs : ∀ cs b, o.op ≠ .select cs b) {L L' : List Value} (h : ∀ t ∈ o.looksAt l.toArray, nth L t = nth L' t) : execOp (ev L) o = execOp (ev L') o :=
  execOp_congr o hs fun x hx => by
    cases x with
    | tmp t => exact h t (List.mem_append_left _ (List.mem_filterMap.2 ⟨.tmp t, by simpa using hx, rfl⟩))
    | _ => rfl

theorem Runs_mono {o : Oper} {ρ : Operand → Value} {w : World} {A B : Value → World → Prop} (h : Runs P o ρ w A) (hr : ∀ v w', A v w' → B v w') : Runs P o ρ w B := by
  unfold Runs at h ⊢
  generalize (execOp ρ o).run P w = r at *
  cases r with
  | halt x w' => exact h
  | ok n w' =>
    cases n <;> first | exact hr _ _ h | exact h | exact h.mono fun e w'' ⟨v, he, hv⟩ => ⟨v, he, hr _ _ hv⟩

theorem walk_all {len : Nat} (hc : Chk l D T len) (hL : L.length = len) (W : Walked P w0 K L mk m l D T rel e R M) :
    ∀ (fuel : Nat) (listed : Array Bool) (a : Act) (w : World), ((List.range l.length).filter fun j => !Sof listed j).length ≤ fuel → (∃ V, Inv w0 L mk m l D T rel e R M listed a w V) → wpAny P .any l.toArray (LQ w0 K E) fuel listed a w := by
  have fin : ∀ (listed : Array Bool) (a : Act) (w : World) (V : Sel), Inv w0 L mk m l D T rel e R M listed a w V → (∀ i, i < l.length → Sof listed i = true) → LQ w0 K E .normal a w := by
    intro listed a w V I hall
    have hf : frmS l e V (Sof listed) L l.length = frm l e V L l.length := by
      rw [frm_eq_frmS]
      refine ext_nth (by simp [length_frmS]) fun t ht => ?_
      rw [length_frmS] at ht
      by_cases hex : ∃ j, j < l.length ∧ dstOf l j = some t
      · obtain ⟨j, hj, hd⟩ := hex
        have hu : ∀ i', dstOf l i' = some t → i' = j := fun i' h => hc.uniq i' j t (dst_lt h) hj h hd
        rw [nth_frmS_some l.length hj (hall j hj) hd ht hu, nth_frmS_some l.length hj rfl hd ht hu]
      · rw [nth_frmS_none l.length fun j hj _ hd => hex ⟨j, hj, hd⟩, nth_frmS_none l.length fun j hj _ hd => hex ⟨j, hj, hd⟩]
    have hcnt : cnt T (Sof listed) = T.length := by
      unfold cnt
      rw [List.filter_eq_self.2 fun t ht => hall t (hc.tlt t ht)]
    have hheads : heads l.length rel T (Sof listed) = heads l.length rel T fun _ => true := List.filter_congr fun j hj => by rw [hall j (List.mem_range.1 hj)]
    refine ⟨frm l e V L l.length, memT m l.length T rel M T.length V, by rw [I.act, hf], ?_, W.fin V fun i hi hr => I.rels i (hall i hi) hr⟩
    have := I.mem
    rw [hcnt, hheads] at this
    exact this
  have step : ∀ (listed : Array Bool) (a : Act) (w : World) (V : Sel), Inv w0 L mk m l D T rel e R M listed a w V → ∀ i ∈ Region.ready .any l.toArray listed, ∀ (K' : Act → World → Prop),
      (∀ a' w', (∃ V', Inv w0 L mk m l D T rel e R M (listed.setIfInBounds i true) a' w' V') → K' a' w') → wpOp P l.toArray (LQ w0 K E) i K' a w := by
    intro listed a w V I i hi K' hK'
    obtain ⟨hSi, o, ho, hedges⟩ := ready_Sof I.size hi
    have hil : i < l.length := (List.getElem?_eq_some_iff.1 ho).1
    have hDi : ∀ j ∈ Dn D i, Sof listed j = true := fun j hj => by
      obtain ⟨k, hk, h | h⟩ := hc.deps i o ho j hj
      · subst h; exact hedges k hk
      · exact I.closed k (hedges k hk) j h
    have hset : ∀ j, Sof (listed.setIfInBounds i true) j = (Sof listed j || j == i) := fun j => Sof_set (by rw [I.size]; exact hil)
    have hlook : ∀ t ∈ o.looksAt l.toArray, nth (frmS l e V (Sof listed) L l.length) t = nth (frm l e V L i) t := fun t ht => ev_same hc hL I.closed ho hSi hDi ht
    have hwant : Region.wanted o (yielded l.toArray a.tmps) = Region.wanted o (yielded l.toArray (frm l e V L i).toArray) := by
      rw [I.act]; exact wanted_same hlook (by simp [length_frmS, length_frm])
    have hexec : execOp (ev (frmS l e V (Sof listed) L l.length)) o = execOp (ev (frm l e V L i)) o := execOp_same (hc.sel i o ho) hlook
    have hdst : dstOf l i = o.dst := by simp [dstOf, ho]
    have hclosed' : ∀ k, Sof (listed.setIfInBounds i true) k = true → ∀ j ∈ Dn D k, Sof (listed.setIfInBounds i true) j = true := by
      intro k hk j hj
      rw [hset] at hk ⊢
      rcases Bool.or_eq_true _ _ ▸ hk with hk | hk
      · rw [I.closed k hk j hj]; rfl
      · have : k = i := by simpa using hk
        subst this
        rw [hDi j hj]; rfl
    have hRD : ∀ j ∈ Dn D i, rel j = true → R j V := fun j hj hr => I.rels j (hDi j hj) hr
    have hidep : ∀ j, Sof listed j = true → i ∉ Dn D j := fun j hj hd => by rw [I.closed j hj i hd] at hSi; cases hSi
    have hne : ∀ j, Sof listed j = true → j ≠ i := fun j hj h => by subst h; rw [hj] at hSi; cases hSi
    have hjl : ∀ j, Sof listed j = true → j < l.length := fun j hj => by have := Sof_lt hj; rw [I.size] at this; exact this
    have hwp : ∀ (B : Value → World → Prop), Runs P o (ev (frm l e V L i)) w B → (∀ v w', B v w' → K' (fr (put (frmS l e V (Sof listed) L l.length) o.dst v)) w') → o.wp P a w K' (LQ w0 K E) := by
      intro B hB hk
      rw [I.act]
      refine Runs.upon ?_ hk
      unfold Runs at hB ⊢
      rw [hexec]; exact hB
    -- what is known behind, the operation being relational
    have after_rel : rel i = true → ∀ (x : Value × Mem) (w' : World), R i (updV V i x) → Has w0 mk w' →
        Has w0 (if cnt T (Sof (listed.setIfInBounds i true)) = 0 then m ++ flat (heads l.length rel T (Sof (listed.setIfInBounds i true))) (updV V i x) else M (cnt T (Sof (listed.setIfInBounds i true))) (updV V i x)) w' →
        K' (fr (put (frmS l e V (Sof listed) L l.length) o.dst x.1)) w' := by
      intro hr x w' hR hkp hm
      refine hK' _ _ ⟨updV V i x, ?_⟩
      refine ⟨by simp [I.size], ?_, hclosed', ?_, hkp, hm⟩
      · rw [← hdst]
        exact congrArg fr (put_same hc I.size hil hSi (fun j hj => (W.hdep i j hr hil (hjl j hj) (hidep j hj) (hne j hj) V x).1) x.1 (by rw [W.hrel i hr, updV_same]))
      · intro j hj hrj
        rw [hset] at hj
        by_cases hji : j = i
        · subst hji; exact hR
        · have hj' : Sof listed j = true := by
            have hb : (j == i) = false := by simpa using hji
            rw [hb, Bool.or_false] at hj; exact hj
          exact (W.hdep i j hr hil (hjl j hj') (hidep j hj') (hne j hj') V x).2 hrj (I.rels j hj' hrj)
    -- .. being determined
    have after_det : rel i = false → (i ∉ T) → ∀ (w' : World), Has w (([] : Mem)) w' → K' (fr (put (frmS l e V (Sof listed) L l.length) o.dst (e i V))) w' := by
      intro hr hiT w' hm
      refine hK' _ _ ⟨V, ?_⟩
      have hcnt : cnt T (Sof (listed.setIfInBounds i true)) = cnt T (Sof listed) := by
        unfold cnt
        rw [List.filter_congr fun t ht => ?_]
        rw [hset]
        have : (t == i) = false := by simp; exact fun h => hiT (h ▸ ht)
        rw [this, Bool.or_false]
      have hheads : heads l.length rel T (Sof (listed.setIfInBounds i true)) = heads l.length rel T (Sof listed) := List.filter_congr fun j _ => by
        rw [hset]
        by_cases hji : j = i
        · subst hji; simp [hr]
        · have hb : (j == i) = false := by simpa using hji
          rw [hb, Bool.or_false]
      refine ⟨by simp [I.size], ?_, hclosed', ?_, by have := I.keep.trans hm; rwa [List.append_nil] at this, ?_⟩
      · rw [← hdst]
        exact congrArg fr (put_same hc I.size hil hSi (fun j _ => rfl) _ rfl)
      · intro j hj hrj
        rw [hset] at hj
        by_cases hji : j = i
        · subst hji; rw [hr] at hrj; cases hrj
        · have hb : (j == i) = false := by simpa using hji
          rw [hb, Bool.or_false] at hj
          exact I.rels j hj hrj
      · rw [hcnt, hheads]
        have := I.mem.trans hm
        rwa [List.append_nil] at this
    by_cases hiT : i ∈ T
    · -- an operation of the tail
      obtain ⟨p, hp, hpi⟩ := List.getElem_of_mem hiT
      have hpi' : T.getD p 0 = i := by simp [hp, hpi]
      have hr := W.htail i hiT
      have hbefore : ∀ q, q < p → Sof listed (T.getD q 0) = true := fun q hq => by
        have := hc.tails p q hp hq
        rw [hpi'] at this
        exact hDi _ this
      have hafter : ∀ q, p ≤ q → q < T.length → Sof listed (T.getD q 0) = false := fun q hq hqT => by
        cases h : Sof listed (T.getD q 0) with
        | false => rfl
        | true =>
          rcases Nat.lt_or_ge p q with hlt | hge
          · have := hc.tails q p hqT hlt
            rw [hpi'] at this
            exact absurd this (hidep _ h)
          · have : q = p := by omega
            subst this
            rw [hpi', hSi] at h; cases h
      have hcnt0 : ∀ (S : Nat → Bool) (k : Nat), k ≤ T.length → (∀ q, q < k → S (T.getD q 0) = true) → (∀ q, k ≤ q → q < T.length → S (T.getD q 0) = false) → cnt T S = k := by
        intro S k hk h1 h2
        unfold cnt
        have e1 : T = T.take k ++ T.drop k := (List.take_append_drop k T).symm
        rw [e1, List.filter_append]
        have f1 : (T.take k).filter S = T.take k := List.filter_eq_self.2 fun t ht => by
          obtain ⟨q, hq, rfl⟩ := List.getElem_of_mem ht
          have hq' : q < k := by simp at hq; omega
          have := h1 q hq'
          have hqT : q < T.length := by omega
          simp [hqT] at this
          simpa using this
        have f2 : (T.drop k).filter S = [] := List.filter_eq_nil_iff.2 fun t ht => by
          obtain ⟨q, hq, rfl⟩ := List.getElem_of_mem ht
          have hq' : k + q < T.length := by simp at hq; omega
          have := h2 (k + q) (by omega) hq'
          simp [hq'] at this
          simpa using this
        rw [f1, f2]
        simp; omega
      have hcp : cnt T (Sof listed) = p := hcnt0 _ p (by omega) hbefore hafter
      have hcp' : cnt T (Sof (listed.setIfInBounds i true)) = p + 1 := hcnt0 _ (p + 1) (by omega) (fun q hq => by
          rw [hset]
          rcases Nat.lt_or_ge q p with h | h
          · rw [hbefore q h]; rfl
          · have : q = p := by omega
            subst this
            rw [hpi']; simp) (fun q hq hqT => by
          rw [hset, hafter q (by omega) hqT]
          have : T.getD q 0 ≠ i := by
            intro h
            rw [← hpi'] at h
            simp [hqT, hp] at h
            have := (List.getElem_inj hc.tnodup).1 h
            omega
          simpa using this)
      obtain ⟨hg, ht⟩ := W.tail p o hp (by rw [hpi']; exact ho)
      have ht := ht V (by rw [hpi']; exact hRD)
      have hmem : Has w0 (memT m l.length T rel M p V) w := by
        have := I.mem
        rw [hcp] at this
        unfold memT
        by_cases h0 : p = 0
        · rw [if_pos h0] at this ⊢
          have hh : heads l.length rel T (Sof listed) = heads l.length rel T fun _ => true := List.filter_congr fun j hj => by
            by_cases hrj : rel j = true
            · by_cases hjT : j ∈ T
              · simp [hjT]
              · have := W.hhead j hrj (List.mem_range.1 hj) hjT i hiT
                rw [hDi j this]
            · simp [hrj]
          rwa [hh] at this
        · rw [if_neg h0] at this ⊢; exact this
      refine wp_op_of_rel ho (fun _ => ?_) (fun hw => ?_)
      · rw [hpi'] at ht
        refine hwp _ (ht w hmem) ?_
        rintro v w' ⟨m', ⟨x, hRx, rfl, hsub⟩, hm'⟩
        refine after_rel hr (v, x) w' hRx (hm'.sub hsub) ?_
        rw [hcp', if_neg (by omega)]
        exact hm'
      · simp [Region.wanted, hg] at hw
    · -- an operation of the head
      have hh := W.head i o ho hiT V hRD
      have hmemH : Has w0 (memH mk m l.length D T rel i V) w := by
        unfold memH
        by_cases he : early D T i = true
        · rw [if_pos he]
          have hc0 : cnt T (Sof listed) = 0 := cnt_zero.2 fun t ht => by
            cases h : Sof listed t with
            | false => rfl
            | true =>
              exfalso
              obtain ⟨t0, T', hT⟩ : ∃ t0 T', T = t0 :: T' := by
                cases hT : T with
                | nil => rw [hT] at ht; cases ht
                | cons t0 T' => exact ⟨t0, T', rfl⟩
              have he' : i ∈ Dn D t0 := by simp only [early, hT] at he; simpa using he
              have ht0 : Sof listed t0 = true := by
                obtain ⟨q, hq, hqt⟩ := List.getElem_of_mem ht
                rcases Nat.eq_zero_or_pos q with h0 | h0
                · subst h0
                  have : T[0] = t0 := by simp [hT]
                  rw [← this, hqt]; exact h
                · have := hc.tails q 0 hq h0
                  have e1 : T.getD q 0 = t := by simp [hq, hqt]
                  have e2 : T.getD 0 0 = t0 := by simp [hT]
                  rw [e1, e2] at this
                  exact I.closed t h t0 this
              exact hidep t0 ht0 he'
          have := I.mem
          rw [if_pos hc0] at this
          refine this.sub ((List.Sublist.refl m).append (flat_sub V (filter_sub _ fun j _ hj => ?_)))
          simp only [Bool.and_eq_true] at hj ⊢
          refine ⟨⟨hDi j (by simpa using hj.1.1), hj.1.2⟩, hj.2⟩
        · rw [if_neg he]; exact I.keep
      have rel_mem : rel i = true → ∀ (x : Value × Mem) (w' : World), Has w x.2 w' →
          Has w0 (if cnt T (Sof (listed.setIfInBounds i true)) = 0 then m ++ flat (heads l.length rel T (Sof (listed.setIfInBounds i true))) (updV V i x) else M (cnt T (Sof (listed.setIfInBounds i true))) (updV V i x)) w' := by
        intro hr x w' hx
        have hc0 : ∀ t ∈ T, Sof listed t = false := fun t ht => by
          cases h : Sof listed t with
          | false => rfl
          | true => exact absurd (W.hhead i hr hil hiT t ht) (hidep t h)
        have hc0' : cnt T (Sof (listed.setIfInBounds i true)) = 0 := cnt_zero.2 fun t ht => by
          rw [hset, hc0 t ht]
          simp; exact fun h => hiT (h ▸ ht)
        have hm := I.mem
        rw [if_pos (cnt_zero.2 hc0)] at hm
        rw [if_pos hc0']
        refine (hm.trans hx).perm ?_
        rw [List.append_assoc]
        refine List.Perm.append_left m ?_
        have hp : (fun j => Sof (listed.setIfInBounds i true) j && rel j && !T.contains j) = fun j => (Sof listed j && rel j && !T.contains j) || j == i := by
          funext j
          rw [hset]
          by_cases hji : j = i
          · subst hji
            simp [hr]; exact hiT
          · have hb : (j == i) = false := by simpa using hji
            simp [hb]
        have e1 : flat (heads l.length rel T (Sof listed)) V = flat ((List.range l.length).filter fun j => Sof listed j && rel j && !T.contains j) (updV V i x) := flat_congr fun j hj => by
          have : Sof listed j = true := by
            simp only [heads, List.mem_filter, Bool.and_eq_true] at hj
            exact hj.2.1.1
          exact (updV_ne V x (hne j this)).symm
        rw [e1]
        unfold heads
        rw [hp]
        have := flat_insert (V := updV V i x) (p := fun j => Sof listed j && rel j && !T.contains j) (i := i) (List.range l.length) List.nodup_range (List.mem_range.2 hil) (by simp [hSi])
        rw [updV_same] at this
        exact this
      refine wp_op_of_rel ho (fun hw => ?_) (fun hw => ?_)
      · rw [hwant] at hw
        rw [if_pos hw] at hh
        obtain ⟨X, hX, hh⟩ := hh
        have hmemX : Has w0 X w := by
          rcases hX with rfl | ⟨hla, hea, rfl⟩
          · exact hmemH
          · have hc1 : cnt T (Sof listed) = T.length := by
              unfold cnt
              rw [List.filter_eq_self.2 fun t ht => hDi t (by have := List.all_eq_true.1 hla t ht; simpa using this)]
            have hc2 : T.length ≠ 0 := fun h0 => by
              rw [List.length_eq_zero_iff.1 h0] at hea; cases hea
            have hm := I.mem
            rw [hc1, if_neg hc2] at hm
            exact hm
        refine hwp _ (hh w hmemX) ?_
        rintro v w' ⟨mi, hv, hmi⟩
        cases hr : rel i with
        | true =>
          rw [hr, if_pos rfl] at hv
          exact after_rel hr (v, mi) w' hv ((I.keep.trans hmi).sub (List.sublist_append_left _ _)) (rel_mem hr (v, mi) w' hmi)
        | false =>
          rw [hr] at hv
          simp only [Bool.false_eq_true, if_false] at hv
          obtain ⟨rfl, rfl⟩ := hv
          exact after_det hr hiT w' hmi
      · rw [hwant] at hw
        rw [if_neg (by rw [hw]; simp)] at hh
        rw [I.act, put_fr]
        cases hr : rel i with
        | true =>
          rw [hr, if_pos rfl] at hh
          exact after_rel hr (undef, []) w hh I.keep (rel_mem hr (undef, []) w (Has.nil w))
        | false =>
          rw [hr] at hh
          simp only [Bool.false_eq_true, if_false] at hh
          rw [← hh]
          exact after_det hr hiT w (Has.nil w)
  intro fuel
  induction fuel with
  | zero =>
    intro listed a w hn ⟨V, I⟩
    have hall : ∀ i, i < l.length → Sof listed i = true := fun i hi => by
      cases h : Sof listed i with
      | true => rfl
      | false =>
        have : i ∈ (List.range l.length).filter fun j => !Sof listed j := List.mem_filter.2 ⟨List.mem_range.2 hi, by simp [h]⟩
        rw [List.eq_nil_of_length_eq_zero (Nat.le_zero.1 hn)] at this
        cases this
    refine ⟨?_, fin listed a w V I hall⟩
    cases hr : Region.ready .any l.toArray listed with
    | nil => rfl
    | cons i r =>
      have := (ready_Sof I.size (i := i) (by rw [hr]; simp))
      obtain ⟨h0, o, ho, _⟩ := this
      rw [hall i (List.getElem?_eq_some_iff.1 ho).1] at h0
      cases h0
  | succ fuel ih =>
    intro listed a w hn ⟨V, I⟩
    refine ⟨fun hr => fin listed a w V I (all_of_ready_nil I.size hc hr), fun i hi => ?_⟩
    refine step listed a w V I i hi _ fun a' w' hI => ih _ a' w' ?_ hI
    obtain ⟨hSi, o, ho, _⟩ := ready_Sof I.size hi
    have hil : i < l.length := (List.getElem?_eq_some_iff.1 ho).1
    have hset : ∀ j, Sof (listed.setIfInBounds i true) j = (Sof listed j || j == i) := fun j => Sof_set (by rw [I.size]; exact hil)
    have hlt : ((List.range l.length).filter fun j => !Sof (listed.setIfInBounds i true) j).length < ((List.range l.length).filter fun j => !Sof listed j).length := by
      have hsub : ((List.range l.length).filter fun j => !Sof (listed.setIfInBounds i true) j).Sublist ((List.range l.length).filter fun j => !Sof listed j) := filter_sub _ fun j _ hj => by
        rw [hset] at hj
        simp only [Bool.not_eq_true', Bool.or_eq_false_iff] at hj ⊢
        exact hj.1
      refine Nat.lt_of_le_of_ne hsub.length_le fun heq => ?_
      have heq' := hsub.eq_of_length heq
      have hin : i ∈ (List.range l.length).filter fun j => !Sof listed j := List.mem_filter.2 ⟨List.mem_range.2 hil, by simp [hSi]⟩
      rw [← heq', List.mem_filter, hset] at hin
      simp at hin
    omega

/-- **A region that draws its order.** -/
theorem WC_drawn {id : Nat} (hm : P.follows .mixedOrders = true) (hc : chk l D T L.length = true) (W : Walked P w0 K L mk m l D T rel e R M) : WC P w0 (.region id l.toArray true) K E L m := by
  intro w hw
  refine wp_region_any hm ?_
  have hS : ∀ j, Sof (Array.replicate l.toArray.size false) j = false := fun j => by
    unfold Sof
    by_cases h : j < l.length <;> simp [h]
  refine walk_all (chk_spec hc) rfl W _ _ _ _ (by simpa using List.length_filter_le _ (List.range l.length)) ⟨fun _ => (undef, []), ?_⟩
  refine ⟨by simp, ?_, (fun k hk => by rw [hS] at hk; cases hk), (fun i hi => by rw [hS] at hi; cases hi), hw.drew.sub W.hmk, ?_⟩
  · congr 1
    refine ext_nth (by simp [length_frmS]) fun t _ => ?_
    rw [nth_frmS_none l.length fun j _ hj => by rw [hS] at hj; cases hj]
  · have h0 : cnt T (Sof (Array.replicate l.toArray.size false)) = 0 := cnt_zero.2 fun t _ => hS t
    rw [if_pos h0]
    have h1 : heads l.length rel T (Sof (Array.replicate l.toArray.size false)) = [] := List.filter_eq_nil_iff.2 fun j _ => by rw [hS]; simp
    rw [h1]
    simp only [flat, List.flatMap_nil, List.append_nil]
    exact hw.drew

end
end Go.MW
