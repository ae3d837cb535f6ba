/- What the claim of this folder needs of its texts, put together by a program of this claim. Conditions: none. -/
import Derived.WalkKit
import Derived.WalkSpells
import Derived.WalkLawsBesides
import Derived.Orders
import Derived.Laws.IdiomCopy
import Derived.Deep.MidRow
import Derived.Deep.Upon
set_option linter.unusedSectionVars false
set_option linter.unusedSimpArgs false
set_option linter.unusedVariables false
namespace Go.MW
open Go.RowKit

abbrev Mem := List (Option Nat × Obj)

structure Has (w0 : World) (m : Mem) (w : World) : Prop where
  below : Below w0.heap.size w0 w
  blk : ∀ b o, (some b, o) ∈ m → w0.heap.size ≤ b ∧ w.heap[b]? = some o
  nodup : (m.filterMap Prod.fst).Nodup

theorem Has.nil (w : World) : Has w [] w := ⟨Below.refl _ _, by simp, by simp⟩

theorem lt_of_heap {w : World} {b : Nat} {o : Obj} (h : w.heap[b]? = some o) : b < w.heap.size := (Array.getElem?_eq_some_iff.1 h).1

theorem mem_keys {m : Mem} {b : Nat} : b ∈ m.filterMap Prod.fst ↔ ∃ o, (some b, o) ∈ m := by
  rw [List.mem_filterMap]
  constructor
  · rintro ⟨⟨k, o⟩, h, e⟩
    simp only at e
    subst e
    exact ⟨o, h⟩
  · rintro ⟨o, h⟩
    exact ⟨_, h, rfl⟩

theorem Has.trans {w0 w w' : World} {m mi : Mem} (h : Has w0 m w) (k : Has w mi w') : Has w0 (m ++ mi) w' := by
  refine ⟨h.below.trans (k.below.mono h.below.size), ?_, ?_⟩
  · intro b o hb
    rcases List.mem_append.1 hb with hb | hb
    · obtain ⟨h1, h2⟩ := h.blk b o hb
      exact ⟨h1, (k.below.block b (lt_of_heap h2)).trans h2⟩
    · obtain ⟨h1, h2⟩ := k.blk b o hb
      exact ⟨Nat.le_trans h.below.size h1, h2⟩
  · rw [List.filterMap_append]
    refine List.nodup_append.2 ⟨h.nodup, k.nodup, ?_⟩
    intro x hx y hy e
    subst e
    obtain ⟨o, ho⟩ := mem_keys.1 hx
    obtain ⟨o', ho'⟩ := mem_keys.1 hy
    have h1 := lt_of_heap (h.blk x o ho).2
    have h2 := (k.blk x o' ho').1
    omega

theorem Has.sub {w0 w : World} {m m' : Mem} (h : Has w0 m w) (hs : m'.Sublist m) : Has w0 m' w :=
  ⟨h.below, fun b o hb => h.blk b o (hs.subset hb), (hs.filterMap Prod.fst).nodup h.nodup⟩

theorem Has.perm {w0 w : World} {m m' : Mem} (h : Has w0 m w) (hp : m'.Perm m) : Has w0 m' w :=
  ⟨h.below, fun b o hb => h.blk b o (hp.mem_iff.1 hb), (hp.filterMap Prod.fst).nodup_iff.2 h.nodup⟩

theorem Has.drew {w0 w : World} {m : Mem} (h : Has w0 m w) : Has w0 m { w with drawn := w.drawn + 1 } :=
  ⟨h.below.drew, h.blk, h.nodup⟩

theorem Has.alloc (w : World) (o : Obj) : Has w [(some w.heap.size, o)] (w.alloc o) := by
  refine ⟨(Below.refl _ _).alloc (Nat.le_refl _) o, ?_, by simp⟩
  intro b o' hb
  simp only [List.mem_singleton, Prod.mk.injEq, Option.some.injEq] at hb
  obtain ⟨rfl, rfl⟩ := hb
  exact ⟨Nat.le_refl _, heap_alloc_new w _⟩

theorem Has.at {w0 w : World} {m : Mem} (h : Has w0 m w) (i : Nat) {b : Nat} {o : Obj} (hi : m[i]? = some (some b, o)) : w.heap[b]? = some o :=
  (h.blk b o (List.mem_of_getElem? hi)).2

theorem nodup_set_keys {m : Mem} {i b : Nat} {o o' : Obj} (hi : m[i]? = some (some b, o)) : (m.set i (some b, o')).filterMap Prod.fst = m.filterMap Prod.fst := by
  induction m generalizing i with
  | nil => simp at hi
  | cons e m ih =>
    cases i with
    | zero =>
      simp only [List.getElem?_cons_zero, Option.some.injEq] at hi
      subst hi
      simp
    | succ i =>
      simp only [List.getElem?_cons_succ] at hi
      rw [List.set_cons_succ, List.filterMap_cons, List.filterMap_cons, ih hi]

theorem has_key_inj {m : Mem} {i j c : Nat} {o x : Obj} (hn : (m.filterMap Prod.fst).Nodup) (hi : m[i]? = some (some c, o)) (hj : m[j]? = some (some c, x)) : i = j := by
  induction m generalizing i j with
  | nil => simp at hi
  | cons e m ih =>
    rw [List.filterMap_cons] at hn
    cases i with
    | zero =>
      cases j with
      | zero => rfl
      | succ j =>
        simp only [List.getElem?_cons_zero, Option.some.injEq] at hi
        simp only [List.getElem?_cons_succ] at hj
        subst hi
        simp only at hn
        exact absurd (mem_keys.2 ⟨x, List.mem_of_getElem? hj⟩) (List.nodup_cons.1 hn).1
    | succ i =>
      cases j with
      | zero =>
        simp only [List.getElem?_cons_zero, Option.some.injEq] at hj
        simp only [List.getElem?_cons_succ] at hi
        subst hj
        simp only at hn
        exact absurd (mem_keys.2 ⟨o, List.mem_of_getElem? hi⟩) (List.nodup_cons.1 hn).1
      | succ j =>
        simp only [List.getElem?_cons_succ] at hi hj
        have hn' : (m.filterMap Prod.fst).Nodup := by
          cases hf : e.1 with
          | none => rw [hf] at hn; exact hn
          | some k => rw [hf] at hn; exact (List.nodup_cons.1 hn).2
        rw [ih hn' hi hj]

/-- One block of one's own is turned. -/
theorem Has.set {w0 w : World} {m : Mem} (h : Has w0 m w) (i : Nat) {b : Nat} {o : Obj} (hi : m[i]? = some (some b, o)) (o' : Obj) {w' : World}
    (hos : w'.os = w.os) (htape : w'.tape = w.tape) (hout : w'.output = w.output) (hsz : w'.heap.size = w.heap.size)
    (hb : w'.heap[b]? = some o') (hother : ∀ k, k ≠ b → w'.heap[k]? = w.heap[k]?) : Has w0 (m.set i (some b, o')) w' := by
  have hbm := h.blk b o (List.mem_of_getElem? hi)
  refine ⟨h.below.trans ⟨hos, htape, hout, by omega, fun k hk => hother k (by omega)⟩, ?_, ?_⟩
  · intro c x hc
    obtain ⟨j, hj⟩ := List.mem_iff_getElem?.1 hc
    by_cases hij : i = j
    · subst hij
      have hlt : i < m.length := (List.getElem?_eq_some_iff.1 hi).1
      rw [List.getElem?_set_self hlt] at hj
      simp only [Option.some.injEq, Prod.mk.injEq] at hj
      obtain ⟨rfl, rfl⟩ := hj
      exact ⟨hbm.1, hb⟩
    · rw [List.getElem?_set_ne hij] at hj
      have hcm := h.blk c x (List.mem_of_getElem? hj)
      refine ⟨hcm.1, ?_⟩
      rw [hother c ?_]
      · exact hcm.2
      · rintro rfl
        have hn := h.nodup
        exact hij (has_key_inj hn hi hj)
  · rw [nodup_set_keys hi]; exact h.nodup

theorem Has.far {w0 w : World} {m : Mem} (h : Has w0 m w) {a : Addr} {v : Value} (hv : w0.cell? a = some v) : w.cell? a = some v :=
  (h.below.cell (World.block_lt_of_cell? w0 a hv)).trans hv

theorem Has.farBlk {w0 w : World} {m : Mem} (h : Has w0 m w) {b : Nat} {o : Obj} (hv : w0.heap[b]? = some o) : w.heap[b]? = some o :=
  (h.below.block b (lt_of_heap hv)).trans hv

def nth : List Value → Nat → Value
  | [], _ => undef
  | v :: _, 0 => v
  | _ :: l, n + 1 => nth l n

theorem nth_eq (L : List Value) (t : Nat) : L.toArray.getD t undef = nth L t := by
  induction L generalizing t with
  | nil => simp [nth]
  | cons v L ih =>
    cases t with
    | zero => simp [nth]
    | succ t => rw [nth, ← ih]; simp

def ev (L : List Value) : Operand → Value
  | .tmp t => nth L t
  | .const v => v
  | .global g => .pointer (some ⟨g, 0, none⟩)
  | .func f => .func (.func f) #[] #[]

def put (L : List Value) : Option Tmp → Value → List Value
  | some d, v => L.set d v
  | none, _ => L

def fr (L : List Value) : Act := { tmps := L.toArray, defers := [] }

theorem eval_fr (L : List Value) : (fr L).eval = ev L := by
  funext x
  cases x <;> first | rfl | exact nth_eq _ _

theorem put_fr (L : List Value) (d : Option Tmp) (v : Value) : (fr L).put d v = fr (put L d v) := by
  cases d <;> simp [fr, Act.put, put]

def lf (w0 : World) (K : List Value → Mem → Prop) (a : Act) (w : World) : Prop := ∃ L m, a = fr L ∧ Has w0 m w ∧ K L m

def LQ (w0 : World) (K : List Value → Mem → Prop) (E : Exit → List Value → Mem → Prop) : Exit → Act → World → Prop
  | .normal, a, w => lf w0 K a w
  | .outgrown, _, _ => False
  | .panic _, _, _ => False
  | e, a, w => lf w0 (E e) a w

def WC (P : Program) (w0 : World) (c : Code) (K : List Value → Mem → Prop) (E : Exit → List Value → Mem → Prop) (L : List Value) (m : Mem) : Prop :=
  ∀ w, Has w0 m w → c.wp P (LQ w0 K E) (fr L) w

def WL (P : Program) (w0 : World) (ops : Array Oper) (K : List Value → Mem → Prop) (E : Exit → List Value → Mem → Prop) (l : List Oper) (L : List Value) (m : Mem) : Prop :=
  ∀ w, Has w0 m w → wpList P ops (LQ w0 K E) l (fr L) w

section
variable {P : Program} {w0 : World} {K : List Value → Mem → Prop} {E : Exit → List Value → Mem → Prop} {L : List Value} {m : Mem}

theorem WC.forget {c : Code} {m' : Mem} (hs : m'.Sublist m) (h : WC P w0 c K E L m') : WC P w0 c K E L m := fun w hw => h w (hw.sub hs)
theorem WC.perm {c : Code} {m' : Mem} (hs : m'.Perm m) (h : WC P w0 c K E L m') : WC P w0 c K E L m := fun w hw => h w (hw.perm hs)

theorem WC_seq {x y : Code} (h : WC P w0 x (fun L m => WC P w0 y K E L m) E L m) : WC P w0 (.seq x y) K E L m := by
  intro w hw
  refine wp_seq (wp_mono (h w hw) ?_)
  intro e a w' hq
  cases e with
  | normal => obtain ⟨L', m', rfl, hw', hk⟩ := hq; exact hk w' hw'
  | outgrown => exact hq
  | panic c => exact hq
  | exit id => exact hq
  | goto l => exact hq
  | ret => exact hq

theorem WC_skip (h : K L m) : WC P w0 .skip K E L m := fun _ hw => wp_skip ⟨L, m, rfl, hw, h⟩
theorem WC_ret (h : E .ret L m) : WC P w0 .ret K E L m := fun _ hw => wp_ret ⟨L, m, rfl, hw, h⟩
theorem WC_exit {id : Nat} (h : E (.exit id) L m) : WC P w0 (.exit id) K E L m := fun _ hw => wp_exit ⟨L, m, rfl, hw, h⟩

def inB (id : Nat) (K : List Value → Mem → Prop) (E : Exit → List Value → Mem → Prop) : Exit → List Value → Mem → Prop
  | .exit id', L, m => if id' = id then K L m else E (.exit id') L m
  | e, L, m => E e L m

theorem inB_same {id : Nat} (h : K L m) : inB id K E (.exit id) L m := by simpa [inB] using h
theorem inB_ret {id : Nat} (h : E .ret L m) : inB id K E .ret L m := h

theorem WC_block {id : Nat} {c : Code} (h : WC P w0 c K (inB id K E) L m) : WC P w0 (.block id c) K E L m := by
  intro w hw
  refine wp_block (wp_mono (h w hw) ?_)
  intro e a w' hq
  cases e with
  | normal => exact hq
  | outgrown => exact hq
  | panic c => exact hq
  | exit id' =>
    obtain ⟨L', m', rfl, hw', hk⟩ := hq
    simp only [Exit.inBlock]
    by_cases hid : id' = id
    · subst hid; rw [if_pos rfl]; exact ⟨L', m', rfl, hw', by simpa [inB] using hk⟩
    · rw [if_neg hid]; exact ⟨L', m', rfl, hw', by simpa [inB, hid] using hk⟩
  | goto l => exact hq
  | ret => exact hq

theorem WC_cond {c : Operand} {x y : Code} {t : Bool} (hc : ev L c = .bool t) (ht : t = true → WC P w0 x K E L m) (hf : t = false → WC P w0 y K E L m) :
    WC P w0 (.cond c x y) K E L m := by
  intro w hw
  refine wp_cond_split (t := t) (by rw [eval_fr]; exact hc) (fun h => ht h w hw) (fun h => hf h w hw)
theorem WC_cond_true {c : Operand} {x y : Code} (hc : ev L c = .bool true) (ht : WC P w0 x K E L m) : WC P w0 (.cond c x y) K E L m :=
  WC_cond hc (fun _ => ht) (fun h => by cases h)
theorem WC_cond_false {c : Operand} {x y : Code} (hc : ev L c = .bool false) (hf : WC P w0 y K E L m) : WC P w0 (.cond c x y) K E L m :=
  WC_cond hc (fun h => by cases h) (fun _ => hf)

theorem least_ex (p : Nat → Prop) (h : ∃ n, p n) : ∃ n, p n ∧ ∀ k, p k → n ≤ k := by
  obtain ⟨n, hn⟩ := h
  induction n using Nat.strongRecOn with
  | _ n ih =>
    by_cases hk : ∃ k, k < n ∧ p k
    · obtain ⟨k, hlt, hp⟩ := hk; exact ih k hlt hp
    · exact ⟨n, hn, fun k hp => Nat.le_of_not_lt fun hlt => hk ⟨k, hlt, hp⟩⟩
noncomputable def leastOf (p : Nat → Prop) (h : ∃ n, p n) : Nat := Classical.choose (least_ex p h)
theorem leastOf_spec (p : Nat → Prop) (h : ∃ n, p n) : p (leastOf p h) := (Classical.choose_spec (least_ex p h)).1
theorem leastOf_le (p : Nat → Prop) (h : ∃ n, p n) {k : Nat} (hk : p k) : leastOf p h ≤ k := (Classical.choose_spec (least_ex p h)).2 k hk

/-- A loop: what holds at its head is told by a datum x: the frame, the memory, a condition. -/
theorem WC_loop {ι : Type} {c : Code} (F : ι → List Value) (M : ι → Mem) (I : ι → Prop) (μ : ι → Nat) (x0 : ι) (hF : F x0 = L) (hM : M x0 = m) (hI : I x0)
    (round : ∀ x, I x → WC P w0 c (fun L' m' => ∃ x', F x' = L' ∧ M x' = m' ∧ I x' ∧ μ x' < μ x) E (F x) (M x)) : WC P w0 (.loop c) K E L m := by
  subst hF hM
  intro w hw
  have key : ∀ (n : Nat) (a : Act) (w : World), (∃ x, μ x = n ∧ a = fr (F x) ∧ Has w0 (M x) w ∧ I x) → (Code.loop c).wp P (LQ w0 K E) a w := by
    intro n a w hx
    refine wp_loop (fun a w => ∃ x, a = fr (F x) ∧ Has w0 (M x) w ∧ I x) (fun a w => by
      classical
      exact if h : ∃ n x, μ x = n ∧ a = fr (F x) ∧ Has w0 (M x) w ∧ I x then (leastOf (fun n => ∃ x, μ x = n ∧ a = fr (F x) ∧ Has w0 (M x) w ∧ I x) h) else 0) ?_ ?_
    · obtain ⟨x, _, h⟩ := hx; exact ⟨x, h⟩
    · intro a w ⟨x, ha, hw, hi⟩
      have hex : ∃ n x, μ x = n ∧ a = fr (F x) ∧ Has w0 (M x) w ∧ I x := ⟨μ x, x, rfl, ha, hw, hi⟩
      obtain ⟨x, hn, ha, hw, hi⟩ := leastOf_spec _ hex
      subst ha
      refine wp_mono (round x hi w hw) ?_
      intro e a' w' hq
      cases e with
      | normal =>
        obtain ⟨L', m', rfl, hw', x', rfl, rfl, hi', hlt⟩ := hq
        refine ⟨⟨x', rfl, hw', hi'⟩, ?_⟩
        have hex' : ∃ n x, μ x = n ∧ fr (F x') = fr (F x) ∧ Has w0 (M x) w' ∧ I x := ⟨μ x', x', rfl, rfl, hw', hi'⟩
        rw [dif_pos hex', dif_pos hex]
        have := leastOf_le _ hex' ⟨x', rfl, rfl, hw', hi'⟩
        rw [← hn]
        omega
      | outgrown => exact hq
      | panic c => exact hq
      | exit id => exact hq
      | goto l => exact hq
      | ret => exact hq
  exact key _ _ _ ⟨x0, rfl, rfl, hw, hI⟩

def setAll (L : List Value) : List (Nat × Value) → List Value
  | [] => L
  | (i, v) :: r => setAll (L.set i v) r
def setG (L : List Value) : List Nat → (Nat → Value) → List Value
  | [], _ => L
  | i :: r, g => setG (L.set i (g i)) r g
def setM (m : Mem) : List (Nat × (Option Nat × Obj)) → Mem
  | [] => m
  | (i, v) :: r => setM (m.set i v) r
theorem set_nth (L : List Value) (i : Nat) : L.set i (nth L i) = L := by
  induction L generalizing i with
  | nil => rfl
  | cons v L ih => cases i with
    | zero => rfl
    | succ i => simp [nth, ih]
theorem setG_self (L : List Value) (D : List Nat) : setG L D (nth L) = L := by
  induction D with
  | nil => rfl
  | cons d D ih => simp only [setG, set_nth, ih]

/-- The same, the frame told by what it turns: the slots D are whatever they are, the slots of S and the blocks of T are told. -/
theorem WC_loopS {ι : Type} {c : Code} (D : List Nat) (S : ι → List (Nat × Value)) (T : ι → List (Nat × (Option Nat × Obj))) (I : ι → Prop) (μ : ι → Nat) (x0 : ι) (hF : setAll L (S x0) = L) (hM : setM m (T x0) = m) (hI : I x0)
    (round : ∀ (x : ι) (g : Nat → Value), I x → WC P w0 c (fun L' m' => ∃ x', setAll (setG L D (nth L')) (S x') = L' ∧ setM m (T x') = m' ∧ I x' ∧ μ x' < μ x) E (setAll (setG L D g) (S x)) (setM m (T x))) : WC P w0 (.loop c) K E L m := by
  refine WC_loop (ι := ι × (Nat → Value)) (fun x => setAll (setG L D x.2) (S x.1)) (fun x => setM m (T x.1)) (fun x => I x.1) (fun x => μ x.1) (x0, nth L) (by simp only [setG_self]; exact hF) hM hI ?_
  rintro ⟨x, g⟩ hi w hw
  refine wp_mono (round x g hi w hw) ?_
  intro e a w' hq
  cases e with
  | normal =>
    obtain ⟨L', m', rfl, hw', x', h1, h2, h3, h4⟩ := hq
    exact ⟨L', m', rfl, hw', (x', nth L'), h1, h2, h3, h4⟩
  | outgrown => exact hq
  | panic c => exact hq
  | exit id => exact hq
  | goto l => exact hq
  | ret => exact hq

theorem WC_region {id : Nat} {l : List Oper} (h : WL P w0 l.toArray K E l L m) : WC P w0 (.region id l.toArray false) K E L m :=
  fun w hw => wp_region_lit (h w hw)

theorem WL_nil {ops : Array Oper} (h : K L m) : WL P w0 ops K E [] L m := fun _ hw => wpList_nil ⟨L, m, rfl, hw, h⟩

/-- What an operation does: it yields a value in some world. -/
def Runs (P : Program) (o : Oper) (ρ : Operand → Value) (w : World) (R : Value → World → Prop) : Prop :=
  match (execOp ρ o).run P w with
  | .ok (.value v) w' => R v w'
  | .ok .skip w' => R undef w'
  | .ok (.enter f args) w' => Calls P f args w' fun e w'' => ∃ v, e = .returned v ∧ R v w''
  | _ => False

theorem Runs.upon {o : Oper} {L : List Value} {w : World} {R : Value → World → Prop} {Q : Exit → Act → World → Prop} {next : Act → World → Prop}
    (h : Runs P o (ev L) w R) (hn : ∀ v w', R v w' → next (fr (put L o.dst v)) w') : o.wp P (fr L) w next Q := by
  unfold Oper.wp
  rw [eval_fr]
  unfold Runs at h
  cases hr : (execOp (ev L) o).run P w with
  | halt x w' => rw [hr] at h; exact h.elim
  | ok n w' =>
    rw [hr] at h
    cases n with
    | value v => rw [Oper.upon_value, put_fr]; exact hn _ _ h
    | skip => rw [Oper.upon_skip, put_fr]; exact hn _ _ h
    | enter f args =>
      rw [Oper.upon_enter]
      refine h.mono ?_
      rintro e w'' ⟨v, rfl, hv⟩
      simp only [put_fr]
      exact hn _ _ hv
    | _ => exact h.elim

/-- The general form: an operation that turns memory. -/
def Chg (P : Program) (w0 : World) (m : Mem) (ρ : Operand → Value) (o : Oper) (R : Value → Mem → Prop) : Prop :=
  ∀ w, Has w0 m w → Runs P o ρ w fun v w' => ∃ m', R v m' ∧ Has w0 m' w'

/-- An operation that leaves the world alone. -/
def Det (P : Program) (w0 : World) (m : Mem) (ρ : Operand → Value) (o : Oper) (v : Value) : Prop :=
  ∀ w, Has w0 m w → (execOp ρ o).run P w = .ok (.value v) w

/-- An operation that adds to memory. -/
def Rel (P : Program) (w0 : World) (m : Mem) (ρ : Operand → Value) (o : Oper) (R : Value → Mem → Prop) : Prop :=
  ∀ w, Has w0 m w → Runs P o ρ w fun v w' => ∃ mi, R v mi ∧ Has w mi w'

theorem Det.rel {ρ : Operand → Value} {o : Oper} {v : Value} (h : Det P w0 m ρ o v) : Rel P w0 m ρ o (fun v' mi => v' = v ∧ mi = []) := by
  intro w hw
  unfold Runs
  rw [h w hw]
  exact ⟨[], ⟨rfl, rfl⟩, Has.nil w⟩

theorem runs_mono_w {P : Program} {o : Oper} {ρ : Operand → Value} {w : World} {R R' : Value → World → Prop} (h : Runs P o ρ w R) (hr : ∀ v w', R v w' → R' v w') : Runs P o ρ w R' := by
  unfold Runs at h ⊢
  generalize (execOp ρ o).run P w = r at *
  cases r with
  | halt x w' => exact h
  | ok n w' =>
    cases n <;> first | exact hr _ _ h | exact h | exact h.mono fun e w'' ⟨v, he, hv⟩ => ⟨v, he, hr _ _ hv⟩

theorem Rel.chg {ρ : Operand → Value} {o : Oper} {R : Value → Mem → Prop} (h : Rel P w0 m ρ o R) : Chg P w0 m ρ o (fun v m' => ∃ mi, m' = m ++ mi ∧ R v mi) := by
  intro w hw
  refine runs_mono_w (h w hw) ?_
  rintro v w' ⟨mi, hr, hh⟩
  exact ⟨_, ⟨mi, rfl, hr⟩, hw.trans hh⟩

variable {ops : Array Oper} {rest : List Oper} {o : Oper}

theorem WL_chg {R : Value → Mem → Prop} (hg : o.guard = none) (h : Chg P w0 m (ev L) o R) (k : ∀ v m', R v m' → WL P w0 ops K E rest (put L o.dst v) m') :
    WL P w0 ops K E (o :: rest) L m := by
  intro w hw
  refine wpList_plain hg fun _ hK => ?_
  refine Runs.upon (h w hw) ?_
  rintro v w' ⟨m', hr, hh⟩
  exact hK _ _ (k v m' hr w' hh)

theorem WL_rel {R : Value → Mem → Prop} (hg : o.guard = none) (h : Rel P w0 m (ev L) o R) (k : ∀ v mi, R v mi → WL P w0 ops K E rest (put L o.dst v) (m ++ mi)) :
    WL P w0 ops K E (o :: rest) L m :=
  WL_chg hg h.chg fun v _ ⟨mi, hm, hr⟩ => hm ▸ k v mi hr

theorem WL_det {v : Value} (hg : o.guard = none) (h : Det P w0 m (ev L) o v) (k : WL P w0 ops K E rest (put L o.dst v) m) : WL P w0 ops K E (o :: rest) L m := by
  refine WL_rel hg h.rel ?_
  rintro v' mi ⟨rfl, rfl⟩
  rwa [List.append_nil]
end

/-- What a call comes to: a value, and the blocks that it made. -/
def Post (w : World) (R : Value → Mem → Prop) (e : Ending) (w' : World) : Prop := ∃ v mi, e = .returned v ∧ R v mi ∧ Has w mi w'
/-- .. just this value. -/
def PostV (w : World) (v : Value) : Ending → World → Prop := Post w fun v' mi => v' = v ∧ mi = []

theorem Post.mono {w : World} {R R' : Value → Mem → Prop} (h : ∀ v mi, R v mi → R' v mi) {e : Ending} {w' : World} (hh : Post w R e w') : Post w R' e w' :=
  let ⟨v, mi, he, hr, hw⟩ := hh; ⟨v, mi, he, h _ _ hr, hw⟩

/-- How a function's body ends. -/
def Fin (P : Program) (fn : Func) (w0 : World) (R : Value → Mem → Prop) (L : List Value) (m : Mem) : Prop :=
  ∀ w, Has w0 m w → ∃ v mi, (results fn L.toArray).run P w = .ok v w ∧ R v mi ∧ Has w0 mi w

def EFin (P : Program) (fn : Func) (w0 : World) (R : Value → Mem → Prop) : Exit → List Value → Mem → Prop
  | .ret, L, m => Fin P fn w0 R L m
  | _, _, _ => False

theorem calls_of_WC {P : Program} {f : FuncId} {fn : Func} {c : Code} {args : List Value} {w : World} {R : Value → Mem → Prop} (hf : P.funcs[f]? = some fn) (hb : fn.body = some c)
    (h : WC P w c (Fin P fn w R) (EFin P fn w R) (args ++ List.replicate (fn.ntmps - args.length) undef) []) : Calls P f args.toArray w (Post w R) := by
  refine calls_of_wp hf hb ?_
  have hfr : ({ tmps := args.toArray ++ Array.replicate (fn.ntmps - args.toArray.size) undef, defers := [] } : Act) = fr (args ++ List.replicate (fn.ntmps - args.length) undef) := by
    simp [fr]
  rw [hfr]
  refine wp_mono (h w (Has.nil w)) ?_
  intro e a w' hq
  cases e with
  | normal =>
    obtain ⟨L, m, rfl, hw, hk⟩ := hq
    obtain ⟨v, mi, hr, hR, hm⟩ := hk w' hw
    exact ⟨rfl, v, hr, v, mi, rfl, hR, hm⟩
  | ret =>
    obtain ⟨L, m, rfl, hw, hk⟩ := hq
    obtain ⟨v, mi, hr, hR, hm⟩ := hk w' hw
    exact ⟨rfl, v, hr, v, mi, rfl, hR, hm⟩
  | outgrown => exact hq.elim
  | panic c => exact hq.elim
  | exit id => obtain ⟨L, m, rfl, hw, hk⟩ := hq; exact hk.elim
  | goto l => obtain ⟨L, m, rfl, hw, hk⟩ := hq; exact hk.elim

section
variable {P : Program} {w0 : World} {m : Mem} {ρ : Operand → Value}

/-- A call of a function of the program. -/
theorem Rel_call {dst : Option Tmp} {x : Operand} {args : List Operand} {ats : Array TypeId} {ty : TypeId} {pos : String} {after : Array Edge} {gd : Option (Nat × Bool)} {f : FuncId} {R : Value → Mem → Prop}
    (hx : ρ x = .func (.func f) #[] #[]) (hc : ∀ as w, (callFunc f as).run P w = .ok (.enter f as) w)
    (h : ∀ w, Has w0 m w → Calls P f (args.map ρ).toArray w (Post w R)) :
    Rel P w0 m ρ ⟨dst, .call { callee := .value x, args := args.toArray, argTypes := ats }, ty, pos, after, gd⟩ R := by
  intro w hw
  have he : (execOp ρ ⟨dst, .call { callee := .value x, args := args.toArray, argTypes := ats }, ty, pos, after, gd⟩).run P w = .ok (.enter f (args.map ρ).toArray) w := by
    simp only [execOp, resolve, hx, Deferred.ofValue, Sem.run_bind, Sem.run_pure, Result.andThen_ok, invoke, List.map_toArray]
    rw [hc]
    simp
  unfold Runs
  rw [he]
  refine (h w hw).mono ?_
  rintro e w' ⟨v, mi, rfl, hr, hh⟩
  exact ⟨v, rfl, mi, hr, hh⟩
end

end Go.MW

namespace Go.MW

end Go.MW

namespace Go.MW
open Go.RowKit

/-- A natural number as an integer value. -/
abbrev vn (k : IntKind) (p : Nat) : Value := .int k (p : Int)

/-- The cells of an array of integers. -/
def arr (k : IntKind) (n : Nat) (f : Nat → Nat) : Array Value := ((List.range n).map fun i => vn k (f i)).toArray

theorem arr_size (k : IntKind) (n : Nat) (f : Nat → Nat) : (arr k n f).size = n := by simp [arr]
theorem arr_get (k : IntKind) (n : Nat) (f : Nat → Nat) {i : Nat} (h : i < n) : (arr k n f)[i]? = some (vn k (f i)) := by simp [arr, h]
theorem arr_get_none (k : IntKind) (n : Nat) (f : Nat → Nat) {i : Nat} (h : n ≤ i) : (arr k n f)[i]? = none := by simp [arr, h]
theorem arr_ext {a : Array Value} {k : IntKind} {n : Nat} {f : Nat → Nat} (hs : a.size = n) (h : ∀ i, i < n → a[i]? = some (vn k (f i))) : a = arr k n f := by
  apply Array.ext_getElem?
  intro i
  by_cases hi : i < n
  · rw [h i hi, arr_get k n f hi]
  · rw [arr_get_none k n f (by omega)]; simp; omega
/-- How many values an unsigned kind has. -/
def md : IntKind → Nat
  | .u8 => 256 | .u16 => 65536 | .u32 => 4294967296 | .u64 => 18446744073709551616 | _ => 0

theorem wrap_i {n : Nat} (h : n < 9223372036854775808) : IntKind.i64.wrap (n : Int) = (n : Int) := IntWalk.i64_in _ (by omega)

section
variable {P : Program} {w0 : World} {m : Mem} {ρ : Operand → Value} {dst : Option Tmp} {ty : TypeId} {pos : String} {after : Array Edge} {gd : Option (Nat × Bool)}
variable {x y : Operand} {k : IntKind} {p q : Nat} {T T' : TypeId}

theorem det_move : Det P w0 m ρ ⟨dst, .move x, ty, pos, after, gd⟩ (ρ x) := fun w _ => by simp [execOp]
theorem det_assign : Det P w0 m ρ ⟨dst, .assign x, ty, pos, after, gd⟩ (ρ x) := fun w _ => by simp [execOp]
theorem det_pick_true {a b : Operand} (h : ρ x = .bool true) : Det P w0 m ρ ⟨dst, .pick x a b, ty, pos, after, gd⟩ (ρ a) := fun w _ => by simp [execOp, h, asBool]
theorem det_pick_false {a b : Operand} (h : ρ x = .bool false) : Det P w0 m ρ ⟨dst, .pick x a b, ty, pos, after, gd⟩ (ρ b) := fun w _ => by simp [execOp, h, asBool]
theorem det_bin {op : BinOp} {a b : Int} {v : Value} (hx : ρ x = .int k a) (hy : ρ y = .int k b) (h : ∀ w, (binOp op T (.int k a) (.int k b)).run P w = .ok v w) :
    Det P w0 m ρ ⟨dst, .binOp op T x y T', ty, pos, after, gd⟩ v := fun w _ => by
  simp [execOp, hx, hy, eqGuard_at_int, h]

theorem det_addi (hx : ρ x = vn .i64 p) (hy : ρ y = vn .i64 q) (h : p + q < 9223372036854775808) : Det P w0 m ρ ⟨dst, .binOp .add T x y T', ty, pos, after, gd⟩ (vn .i64 (p + q)) :=
  det_bin hx hy fun w => by
    have e : ((p : Int) + (q : Int)) = ((p + q : Nat) : Int) := by omega
    rw [binOp_add]; simp only [Op.intArith]; rw [e, wrap_i h]; rfl
theorem det_subi (hx : ρ x = vn .i64 p) (hy : ρ y = vn .i64 q) (hq : q ≤ p) (h : p < 9223372036854775808) : Det P w0 m ρ ⟨dst, .binOp .sub T x y T', ty, pos, after, gd⟩ (vn .i64 (p - q)) :=
  det_bin hx hy fun w => by
    have e : ((p : Int) - (q : Int)) = ((p - q : Nat) : Int) := by omega
    rw [binOp_sub]; simp only [Op.intArith]; rw [e, wrap_i (by omega)]; rfl
theorem det_addz {a b r : Int} (hx : ρ x = .int .i64 a) (hy : ρ y = .int .i64 b) (hr : a + b = r) (h1 : -9223372036854775808 ≤ r) (h2 : r ≤ 9223372036854775807) :
    Det P w0 m ρ ⟨dst, .binOp .add T x y T', ty, pos, after, gd⟩ (.int .i64 r) :=
  det_bin hx hy fun w => by rw [binOp_add]; simp only [Op.intArith]; rw [hr, IntWalk.i64_in _ ⟨h1, h2⟩]; rfl
theorem det_subz {a b r : Int} (hx : ρ x = .int .i64 a) (hy : ρ y = .int .i64 b) (hr : a - b = r) (h1 : -9223372036854775808 ≤ r) (h2 : r ≤ 9223372036854775807) :
    Det P w0 m ρ ⟨dst, .binOp .sub T x y T', ty, pos, after, gd⟩ (.int .i64 r) :=
  det_bin hx hy fun w => by rw [binOp_sub]; simp only [Op.intArith]; rw [hr, IntWalk.i64_in _ ⟨h1, h2⟩]; rfl
theorem det_lss (hx : ρ x = vn k p) (hy : ρ y = vn k q) : Det P w0 m ρ ⟨dst, .binOp .lss T x y T', ty, pos, after, gd⟩ (.bool (decide (p < q))) :=
  det_bin hx hy fun w => by rw [binOp_lss]; simp
theorem det_gtr (hx : ρ x = vn k p) (hy : ρ y = vn k q) : Det P w0 m ρ ⟨dst, .binOp .gtr T x y T', ty, pos, after, gd⟩ (.bool (decide (q < p))) :=
  det_bin hx hy fun w => by rw [binOp_gtr]; simp
theorem det_geq (hx : ρ x = vn k p) (hy : ρ y = vn k q) : Det P w0 m ρ ⟨dst, .binOp .geq T x y T', ty, pos, after, gd⟩ (.bool (decide (q ≤ p))) :=
  det_bin hx hy fun w => by rw [binOp_geq]; simp
theorem det_eql (hx : ρ x = vn k p) (hy : ρ y = vn k q) : Det P w0 m ρ ⟨dst, .binOp .eql T x y T', ty, pos, after, gd⟩ (.bool (decide (p = q))) :=
  det_bin hx hy fun w => by
    rw [binOp_eql]
    have e : ((p : Int) == (q : Int)) = decide (p = q) := by
      by_cases h : p = q
      · subst h; simp
      · rw [decide_eq_false h]; simp; omega
    rw [e]; rfl
theorem det_neq (hx : ρ x = vn k p) (hy : ρ y = vn k q) : Det P w0 m ρ ⟨dst, .binOp .neq T x y T', ty, pos, after, gd⟩ (.bool (!decide (p = q))) :=
  det_bin hx hy fun w => by
    rw [binOp_neq]
    have e : ((p : Int) != (q : Int)) = !decide (p = q) := by
      by_cases h : p = q
      · subst h; simp
      · rw [decide_eq_false h]; simp; omega
    rw [e]; rfl
theorem det_lssz {a b : Int} (hx : ρ x = .int k a) (hy : ρ y = .int k b) : Det P w0 m ρ ⟨dst, .binOp .lss T x y T', ty, pos, after, gd⟩ (.bool (decide (a < b))) :=
  det_bin hx hy fun w => by rw [binOp_lss]; simp
theorem det_geqz {a b : Int} (hx : ρ x = .int k a) (hy : ρ y = .int k b) : Det P w0 m ρ ⟨dst, .binOp .geq T x y T', ty, pos, after, gd⟩ (.bool (decide (b ≤ a))) :=
  det_bin hx hy fun w => by rw [binOp_geq]; simp
theorem det_eqlz {a b : Int} (hx : ρ x = .int k a) (hy : ρ y = .int k b) : Det P w0 m ρ ⟨dst, .binOp .eql T x y T', ty, pos, after, gd⟩ (.bool (a == b)) :=
  det_bin hx hy fun w => by rw [binOp_eql]; rfl
theorem det_neqz {a b : Int} (hx : ρ x = .int k a) (hy : ρ y = .int k b) : Det P w0 m ρ ⟨dst, .binOp .neq T x y T', ty, pos, after, gd⟩ (.bool (a != b)) :=
  det_bin hx hy fun w => by rw [binOp_neq]; rfl

theorem det_not {b : Bool} (hx : ρ x = .bool b) : Det P w0 m ρ ⟨dst, .unOp .not T x, ty, pos, after, gd⟩ (.bool (!b)) := fun w _ => by simp [execOp, hx, Op.unary]

theorem det_extract {vs : Array Value} {v : Value} {i : Nat} (hx : ρ x = .tuple vs) (hi : vs[i]? = some v) : Det P w0 m ρ ⟨dst, .extract x i, ty, pos, after, gd⟩ v := fun w _ => by
  simp [execOp, hx, Instr.extract, hi]

theorem det_idxA {b n j e : Nat} {a : Int} {k : IntKind} (hu : P.underlying T = some (.array n e)) (hz : ∀ w, (sizeOf e).run P w = .ok 1 w) (hx : ρ x = .pointer (some ⟨b, 0, none⟩)) (hy : ρ y = .int k a) (hj : a = (j : Int)) (h : j < n) :
    Det P w0 m ρ ⟨dst, .indexAddr T x y, ty, pos, after, gd⟩ (.pointer (some ⟨b, j, none⟩)) := fun w _ => by
  subst hj
  have h0 : (0 : Int) ≤ (j : Int) ∧ (j : Int) < (n : Int) := by omega
  have e1 : (⟨b, 0, none⟩ : Addr).add j = ⟨b, j, none⟩ := by simp [Addr.add_lit]
  simp [execOp, hx, hy, Instr.indexAt, run_underlying hu, asIntOf, Instr.sureAddr, hz, h, e1]
theorem det_idxS {b o n c j e : Nat} {a : Int} {k : IntKind} {ad : Option Addr} (hu : P.underlying T = some (.slice e)) (hz : ∀ w, (sizeOf e).run P w = .ok 1 w) (hx : ρ x = .slice ad n c) (hy : ρ y = .int k a) (hj : a = (j : Int)) (h : j < n) (ha : ad = some ⟨b, o, none⟩) :
    Det P w0 m ρ ⟨dst, .indexAddr T x y, ty, pos, after, gd⟩ (.pointer (some ⟨b, o + j, none⟩)) := fun w _ => by
  subst hj ha
  have h0 : (0 : Int) ≤ (j : Int) ∧ (j : Int) < (n : Int) := by omega
  simp [execOp, hx, hy, Instr.indexAt, run_underlying hu, asIntOf, hz, h, Addr.add_lit]
theorem det_loadAt {a : Addr} {v : Value} (hg : ∀ w, (isAgg T).run P w = .ok false w) (hx : ρ x = .pointer (some a)) (h : ∀ w, Has w0 m w → w.cell? a = some v) : Det P w0 m ρ ⟨dst, .load T x, ty, pos, after, gd⟩ v := fun w hw => by
  simp [execOp, hx, Instr.loadAt, Instr.sureAddr, loadVar, hg, h w hw]
/-- out of a block of one's own -/
theorem det_load (i : Nat) {b off : Nat} {c : Array Value} {t : TypeId} {fz : Nat × Nat} {v : Value} (hg : ∀ w, (isAgg T).run P w = .ok false w) (hx : ρ x = .pointer (some ⟨b, off, none⟩)) (hm : m[i]? = some (some b, .cells c t fz)) (hc : c[off]? = some v) :
    Det P w0 m ρ ⟨dst, .load T x, ty, pos, after, gd⟩ v :=
  det_loadAt hg hx fun w hw => by simp [World.cell?, hw.at i hm, hc]
/-- out of memory that was there when the call began -/
theorem det_loadF {a : Addr} {v : Value} (hg : ∀ w, (isAgg T).run P w = .ok false w) (hx : ρ x = .pointer (some a)) (h : w0.cell? a = some v) : Det P w0 m ρ ⟨dst, .load T x, ty, pos, after, gd⟩ v :=
  det_loadAt hg hx fun _ hw => hw.far h
theorem det_len {n c : Nat} {ad : Option Addr} {e : TypeId} {x : Operand} (hu : P.underlying T = some (.slice e)) (hx : ρ x = .slice ad n c) :
    Det P w0 m ρ ⟨dst, .call { callee := .builtin .len, args := #[x], argTypes := #[T] }, ty, pos, after, gd⟩ (vn .i64 n) := fun w _ => by
  simp [execOp, resolve, invoke, builtin, hx, Builtin.len_, run_underlying hu, goInt]

theorem det_neqB {a b : Bool} (hx : ρ x = .bool a) (hy : ρ y = .bool b) (hu : P.underlying T = some .bool) : Det P w0 m ρ ⟨dst, .binOp .neq T x y T', ty, pos, after, gd⟩ (.bool (!(a == b))) := fun w _ => by
  simp [execOp, hx, hy, eqGuard_at_bool, binOp, Op.equal, Op.maxDepth, run_equalIn_bool w 9999 T a b hu]

theorem Has.cellA {w : World} (hw : Has w0 m w) (i : Nat) {b n : Nat} {f : Nat → Nat} {k : IntKind} {t : TypeId} {fz : Nat × Nat} (hm : m[i]? = some (some b, .cells (arr k n f) t fz)) : ∀ j, j < n → w.cell? ⟨b, 0 + j, none⟩ = some (vn k (f j)) := fun j hj => by
  simp [World.cell?, hw.at i hm, arr_get k n f hj]

theorem rel_alloc {z : Value} {c : Array Value} (hz : ∀ w, (zeroValue T).run P w = .ok z w) (hc : z.cells = c) :
    Rel P w0 m ρ ⟨dst, .alloc T, ty, pos, after, gd⟩ (fun v mi => ∃ b, v = .pointer (some ⟨b, 0, none⟩) ∧ mi = [(some b, .cells c T (0, 0))]) := by
  intro w _
  subst hc
  have h : (execOp ρ ⟨dst, .alloc T, ty, pos, after, gd⟩).run P w = .ok (.value (.pointer (some ⟨w.heap.size, 0, none⟩))) (w.alloc (.cells z.cells T (0, 0))) := by
    simp [execOp, Instr.alloc, hz, newVar, newRow]
  unfold Runs
  rw [h]
  exact ⟨_, ⟨_, rfl, rfl⟩, Has.alloc w _⟩
theorem rel_box {v : Value} {c : Array Value} (hx : ρ x = v) (hc : v.cells = c) :
    Rel P w0 m ρ ⟨dst, .box T x, ty, pos, after, gd⟩ (fun v mi => ∃ b, v = .pointer (some ⟨b, 0, none⟩) ∧ mi = [(some b, .cells c T (0, 0))]) := by
  intro w _
  subst hc hx
  have h : (execOp ρ ⟨dst, .box T x, ty, pos, after, gd⟩).run P w = .ok (.value (.pointer (some ⟨w.heap.size, 0, none⟩))) (w.alloc (.cells (ρ x).cells T (0, 0))) := by
    simp [execOp, Instr.box, newVar, newRow]
  unfold Runs
  rw [h]
  exact ⟨_, ⟨_, rfl, rfl⟩, Has.alloc w _⟩

theorem Has.setCell {w : World} (hw : Has w0 m w) (i : Nat) {b off : Nat} {c : Array Value} {t : TypeId} (hm : m[i]? = some (some b, .cells c t (0, 0))) (v : Value) :
    Has w0 (m.set i (some b, .cells (c.setIfInBounds off v) t (0, 0))) (w.setCell ⟨b, off, none⟩ v) := by
  have hb := hw.at i hm
  refine hw.set i hm _ rfl rfl rfl (by simp) ?_ ?_
  · exact heap_setCell_same w b off c t v hb
  · intro k hk; exact heap_setCell_other w ⟨b, off, none⟩ k v hk

theorem chg_store (i : Nat) {b off : Nat} {c : Array Value} {t : TypeId} {v : Value} (hz : ∀ w, (sizeOf T).run P w = .ok 1 w) (hx : ρ x = .pointer (some ⟨b, off, none⟩)) (hm : m[i]? = some (some b, .cells c t (0, 0))) (h : off < c.size) (hy : ρ y = v) (hv : v.oneCell' = true) :
    Chg P w0 m ρ ⟨dst, .store T x y, ty, pos, after, gd⟩ (fun _ m' => m' = m.set i (some b, .cells (c.setIfInBounds off v) t (0, 0))) := by
  intro w hw
  have hb := hw.at i hm
  have hcell : w.cell? ⟨b, off, none⟩ = some c[off] := by simp [World.cell?, hb, h]
  have hfz : w.frozen? ⟨b, off, none⟩ = false := by simp [World.frozen?, hb]
  have hc1 : v.cells = #[v] := by cases v <;> first | rfl | simp [Value.oneCell'] at hv
  have he : (execOp ρ ⟨dst, .store T x y, ty, pos, after, gd⟩).run P w = .ok .skip (w.setCell ⟨b, off, none⟩ v) := by
    simp [execOp, hx, hy, Instr.storeAt, Instr.sureAddr, storeVar, hc1, hz, storeCells, run_store P w _ v _ hv, hcell, hfz, Addr.add]
  unfold Runs
  rw [he]
  exact ⟨_, rfl, hw.setCell i hm v⟩
theorem Has.setRow {w : World} (hw : Has w0 m w) (i : Nat) {b : Nat} {c : Array Value} {t : TypeId} (hm : m[i]? = some (some b, .cells c t (0, 0))) (c' : Array Value) :
    Has w0 (m.set i (some b, .cells c' t (0, 0))) (w.setRow b c') :=
  hw.set i hm _ rfl rfl rfl (by simp) (setRow_heap w b c c' t _ (hw.at i hm)) fun k hk => setRow_other w b k c' hk

/-- a whole array -/
theorem chg_storeW (i : Nat) {b : Nat} {c c' : Array Value} {t : TypeId} {v : Value} (hz : ∀ w, (sizeOf T).run P w = .ok c.size w) (hx : ρ x = .pointer (some ⟨b, 0, none⟩)) (hm : m[i]? = some (some b, .cells c t (0, 0))) (hy : ρ y = v) (hc : v.cells = c') (hs : c'.size = c.size) (hv : ∀ u ∈ c'.toList, u.oneCell' = true) :
    Chg P w0 m ρ ⟨dst, .store T x y, ty, pos, after, gd⟩ (fun _ m' => m' = m.set i (some b, .cells c' t (0, 0))) := by
  intro w hw
  subst hc
  have hb := hw.at i hm
  have hst := run_storeCells_at P b 0 t v.cells.toList 0 c w hb (by simp [hs]) hv
  have he : (execOp ρ ⟨dst, .store T x y, ty, pos, after, gd⟩).run P w = .ok .skip (w.setRow b v.cells) := by
    have e0 : (v.cells.toList ++ List.drop v.cells.toList.length c.toList).toArray = v.cells := by
      have : List.drop v.cells.toList.length c.toList = [] := List.drop_eq_nil_of_le (by simp [hs])
      rw [this]; simp
    simp only [Nat.add_zero, Nat.zero_add, List.take_zero, List.nil_append, e0] at hst
    simp [execOp, hx, hy, Instr.storeAt, Instr.sureAddr, storeVar, hs, hz, hst]
  unfold Runs
  rw [he]
  exact ⟨_, rfl, hw.setRow i hm _⟩
theorem fin_tmp {fn : Func} {L : List Value} {R : Value → Mem → Prop} {t : Nat} {v : Value} (h : fn.results = #[.tmp t]) (hL : nth L t = v) (mi : Mem) (hs : mi.Sublist m) (hR : R v mi) : Fin P fn w0 R L m := by
  intro w hw
  exact ⟨v, mi, by rw [results_tmp h, nth_eq, hL], hR, hw.sub hs⟩
theorem fin_tmp2 {fn : Func} {L : List Value} {R : Value → Mem → Prop} {t u : Nat} {v v' : Value} (h : fn.results = #[.tmp t, .tmp u]) (hL : nth L t = v) (hL' : nth L u = v') (mi : Mem) (hs : mi.Sublist m) (hR : R (.tuple #[v, v']) mi) : Fin P fn w0 R L m := by
  intro w hw
  exact ⟨_, mi, by rw [results_tmp2 h, nth_eq, nth_eq, hL, hL'], hR, hw.sub hs⟩
theorem fin_none {fn : Func} {L : List Value} {R : Value → Mem → Prop} (h : fn.results = #[]) (mi : Mem) (hs : mi.Sublist m) (hR : R (.tuple #[]) mi) : Fin P fn w0 R L m := by
  intro w hw
  exact ⟨_, mi, results_none h _ _ _, hR, hw.sub hs⟩
end
end Go.MW

namespace Go.MW
open Go.RowKit

/-- What the operations of a region have yielded: a value and new blocks. -/
abbrev Sel := Nat → Value × Mem
def updV (V : Sel) (i : Nat) (x : Value × Mem) : Sel := fun j => if j = i then x else V j
theorem updV_same (V : Sel) (i : Nat) (x : Value × Mem) : updV V i x i = x := by simp [updV]
theorem updV_ne (V : Sel) {i j : Nat} (x : Value × Mem) (h : j ≠ i) : updV V i x j = V j := by simp [updV, h]

def dstOf (l : List Oper) (k : Nat) : Option Tmp := (l[k]?).bind (·.dst)

/-- The frame when the operations of S among the first k have been carried out. -/
def frmS (l : List Oper) (e : Nat → Sel → Value) (V : Sel) (S : Nat → Bool) (L : List Value) : Nat → List Value
  | 0 => L
  | k + 1 => if S k then put (frmS l e V S L k) (dstOf l k) (e k V) else frmS l e V S L k
/-- .. all of the first k. -/
def frm (l : List Oper) (e : Nat → Sel → Value) (V : Sel) (L : List Value) : Nat → List Value
  | 0 => L
  | k + 1 => put (frm l e V L k) (dstOf l k) (e k V)

def flat (js : List Nat) (V : Sel) : Mem := js.flatMap fun j => (V j).2

theorem flat_nil (V : Sel) : flat [] V = [] := rfl
theorem flat_cons (j : Nat) (js : List Nat) (V : Sel) : flat (j :: js) V = (V j).2 ++ flat js V := rfl

theorem length_put (L : List Value) (d : Option Tmp) (v : Value) : (put L d v).length = L.length := by cases d <;> simp [put]
theorem nth_set_self (L : List Value) {t : Nat} (h : t < L.length) (v : Value) : nth (L.set t v) t = v := by
  rw [← nth_eq]; simp [h]
theorem nth_set_ne (L : List Value) {t u : Nat} (h : u ≠ t) (v : Value) : nth (L.set u v) t = nth L t := by
  rw [← nth_eq, ← nth_eq]; simp [h]
theorem nth_put_ne (L : List Value) {t : Nat} {d : Option Tmp} (h : d ≠ some t) (v : Value) : nth (put L d v) t = nth L t := by
  cases d with
  | none => rfl
  | some u => exact nth_set_ne L (fun e => h (by rw [e])) v
theorem nth_put_self (L : List Value) {t : Nat} (h : t < L.length) (v : Value) : nth (put L (some t) v) t = v := nth_set_self L h v
theorem ext_nth {L L' : List Value} (hl : L.length = L'.length) (h : ∀ t, t < L.length → nth L t = nth L' t) : L = L' := by
  apply List.ext_getElem hl
  intro t h1 h2
  have := h t h1
  rw [← nth_eq, ← nth_eq] at this
  simpa [h1, h2] using this

section
variable {l : List Oper} {e e' : Nat → Sel → Value} {V V' : Sel} {S : Nat → Bool} {L : List Value}

theorem length_frmS (k : Nat) : (frmS l e V S L k).length = L.length := by
  induction k with
  | zero => rfl
  | succ k ih => simp only [frmS]; split <;> simp [length_put, ih]
theorem length_frm (k : Nat) : (frm l e V L k).length = L.length := by
  induction k with
  | zero => rfl
  | succ k ih => simp [frm, length_put, ih]
theorem frm_eq_frmS (k : Nat) : frm l e V L k = frmS l e V (fun _ => true) L k := by
  induction k with
  | zero => rfl
  | succ k ih => simp [frm, frmS, ih]

theorem nth_frmS_none {t : Nat} (k : Nat) (h : ∀ j, j < k → S j = true → dstOf l j ≠ some t) : nth (frmS l e V S L k) t = nth L t := by
  induction k with
  | zero => rfl
  | succ k ih =>
    simp only [frmS]
    split
    · rename_i hs
      rw [nth_put_ne _ (h k (by omega) hs)]
      exact ih fun j hj => h j (by omega)
    · exact ih fun j hj => h j (by omega)
theorem nth_frmS_some {t j : Nat} (k : Nat) (hj : j < k) (hs : S j = true) (hd : dstOf l j = some t) (ht : t < L.length) (hu : ∀ i, dstOf l i = some t → i = j) : nth (frmS l e V S L k) t = e j V := by
  induction k with
  | zero => omega
  | succ k ih =>
    simp only [frmS]
    by_cases hk : k = j
    · subst hk
      rw [if_pos hs, hd, nth_put_self _ (by rw [length_frmS]; exact ht)]
    · have := ih (by omega)
      split
      · rw [nth_put_ne _ (fun h => hk (hu k h))]; exact this
      · exact this
end

def edgesOf (o : Oper) : List Nat := o.after.toList.filterMap fun e => if Region.binds .any e then some e.on else none

/-- Each temporary is written once; every edge goes back; D is what each waits for; what an operation names is written before it or behind it. -/
def chk (l : List Oper) (D : List (List Nat)) (T : List Nat) (len : Nat) : Bool :=
  let n := l.length
  let idx := List.range n
  (idx.all fun i => match dstOf l i with
    | none => true
    | some t => decide (t < len) && idx.all fun j => j == i || dstOf l j != some t) &&
  (l.zipIdx.all fun (o, i) => (edgesOf o).all fun j => decide (j < i)) &&
  (l.zipIdx.all fun (o, i) => (D.getD i []).all fun j => (edgesOf o).any fun k => k == j || (D.getD k []).contains j) &&
  (l.zipIdx.all fun (o, i) => (o.looksAt l.toArray).all fun t => idx.all fun j => j == i || dstOf l j != some t || (if j < i then (D.getD i []).contains j else (D.getD j []).contains i)) &&
  (l.all fun o => match o.op with | .select .. => false | _ => true) &&
  (T.all fun t => decide (t < n)) &&
  ((List.range T.length).all fun p => (List.range p).all fun q => (D.getD (T.getD p 0) []).contains (T.getD q 0)) &&
  decide (T.Nodup)

def Dn (D : List (List Nat)) (i : Nat) : List Nat := D.getD i []
/-- The operation's turn comes before the first of the tail. -/
def early (D : List (List Nat)) (T : List Nat) (i : Nat) : Bool := match T with | [] => true | t :: _ => (Dn D t).contains i
def lateAll (D : List (List Nat)) (T : List Nat) (i : Nat) : Bool := T.all fun t => (Dn D i).contains t
def heads (n : Nat) (rel : Nat → Bool) (T : List Nat) (S : Nat → Bool) : List Nat := (List.range n).filter fun j => S j && rel j && !T.contains j

def memH (mk m : Mem) (n : Nat) (D : List (List Nat)) (T : List Nat) (rel : Nat → Bool) (i : Nat) (V : Sel) : Mem :=
  if early D T i then m ++ flat (heads n rel T fun j => (Dn D i).contains j) V else mk
def memT (m : Mem) (n : Nat) (T : List Nat) (rel : Nat → Bool) (M : Nat → Sel → Mem) (p : Nat) (V : Sel) : Mem :=
  if p = 0 then m ++ flat (heads n rel T fun _ => true) V else M p V

theorem filter_sub {α : Type} {p q : α → Bool} : ∀ (l : List α), (∀ x ∈ l, p x = true → q x = true) → (l.filter p).Sublist (l.filter q)
  | [], _ => by simp
  | x :: l, h => by
    have ih := filter_sub l fun y hy => h y (List.mem_cons_of_mem _ hy)
    by_cases hp : p x = true
    · rw [List.filter_cons_of_pos hp, List.filter_cons_of_pos (h x (by simp) hp)]; exact ih.cons_cons x
    · rw [List.filter_cons_of_neg hp]
      by_cases hq : q x = true
      · rw [List.filter_cons_of_pos hq]; exact ih.cons x
      · rw [List.filter_cons_of_neg hq]; exact ih
theorem flat_sub {js js' : List Nat} (V : Sel) (h : js.Sublist js') : (flat js V).Sublist (flat js' V) := by
  induction h with
  | slnil => simp
  | cons x _ ih => simp only [flat, List.flatMap_cons]; exact ih.trans (List.sublist_append_right _ _)
  | cons_cons x _ ih => simp only [flat, List.flatMap_cons]; exact (List.Sublist.refl _).append ih
theorem flat_congr {js : List Nat} {V V' : Sel} (h : ∀ j ∈ js, V j = V' j) : flat js V = flat js V' := by
  induction js with
  | nil => rfl
  | cons j js ih => simp only [flat, List.flatMap_cons] at ih ⊢; rw [h j (by simp), ih fun x hx => h x (by simp [hx])]
/-- One index more among those that are kept. -/
theorem flat_insert {V : Sel} {p : Nat → Bool} {i : Nat} : ∀ (js : List Nat), js.Nodup → i ∈ js → p i = false → (flat (js.filter fun j => p j || j == i) V).Perm (flat (js.filter p) V ++ (V i).2)
  | [], _, h, _ => by simp at h
  | x :: js, hn, h, hp => by
    obtain ⟨hx, hn'⟩ := List.nodup_cons.1 hn
    by_cases hxi : x = i
    · subst hxi
      have e : (js.filter fun j => p j || j == x) = js.filter p := List.filter_congr fun j hj => by
        have : j ≠ x := fun e => hx (e ▸ hj)
        simp [this]
      rw [List.filter_cons_of_pos (by simp), List.filter_cons_of_neg (by simp [hp]), e]
      simp only [flat, List.flatMap_cons]
      exact List.perm_append_comm
    · have hi : i ∈ js := (List.mem_cons.1 h).resolve_left fun e => hxi e.symm
      have ih := flat_insert (V := V) (p := p) js hn' hi hp
      by_cases hpx : p x = true
      · rw [List.filter_cons_of_pos (by simp [hpx]), List.filter_cons_of_pos hpx]
        simp only [flat, List.flatMap_cons, List.append_assoc] at ih ⊢
        exact ih.append_left _
      · rw [List.filter_cons_of_neg (by simp [hpx, hxi]), List.filter_cons_of_neg hpx]
        exact ih

section
variable {P : Program} {w0 : World} {K : List Value → Mem → Prop} {E : Exit → List Value → Mem → Prop} {L : List Value} {mk m : Mem}
variable {l : List Oper} {D : List (List Nat)} {T : List Nat} {rel : Nat → Bool} {e : Nat → Sel → Value} {R : Nat → Sel → Prop} {M : Nat → Sel → Mem}

structure Chk (l : List Oper) (D : List (List Nat)) (T : List Nat) (len : Nat) : Prop where
  uniq : ∀ i j t, i < l.length → j < l.length → dstOf l i = some t → dstOf l j = some t → i = j
  lt : ∀ i t, i < l.length → dstOf l i = some t → t < len
  back : ∀ i o, l[i]? = some o → ∀ j ∈ edgesOf o, j < i
  deps : ∀ i o, l[i]? = some o → ∀ j ∈ Dn D i, ∃ k ∈ edgesOf o, k = j ∨ j ∈ Dn D k
  looks : ∀ i o, l[i]? = some o → ∀ t ∈ o.looksAt l.toArray, ∀ j, j < l.length → j ≠ i → dstOf l j = some t → if j < i then j ∈ Dn D i else i ∈ Dn D j
  sel : ∀ (i : Nat) (o : Oper), l[i]? = some o → ∀ cs b, o.op ≠ .select cs b
  tlt : ∀ t ∈ T, t < l.length
  tails : ∀ p q, p < T.length → q < p → T.getD q 0 ∈ Dn D (T.getD p 0)
  tnodup : T.Nodup

theorem mem_zip {l : List Oper} {i : Nat} {o : Oper} (h : l[i]? = some o) : (o, i) ∈ l.zipIdx := by
  rw [List.mem_zipIdx_iff_getElem?]; exact h

theorem dst_lt {l : List Oper} {i : Nat} {t : Tmp} (h : dstOf l i = some t) : i < l.length := by
  unfold dstOf at h
  cases hi : l[i]? with
  | none => simp [hi] at h
  | some o => exact (List.getElem?_eq_some_iff.1 hi).1

theorem chk_spec {len : Nat} (h : chk l D T len = true) : Chk l D T len := by
  simp only [chk, Bool.and_eq_true] at h
  obtain ⟨⟨⟨⟨⟨⟨⟨h1, h2⟩, h3⟩, h4⟩, h5⟩, h6⟩, h7⟩, h8⟩ := h
  rw [List.all_eq_true] at h1 h2 h3 h4 h5 h6 h7
  refine ⟨?_, ?_, ?_, ?_, ?_, ?_, ?_, ?_, ?_⟩
  · intro i j t hi hj hdi hdj
    have := h1 i (List.mem_range.2 hi)
    rw [hdi] at this
    simp only [Bool.and_eq_true, List.all_eq_true] at this
    have := this.2 j (List.mem_range.2 hj)
    rw [hdj] at this
    simp at this
    exact this.symm
  · intro i t hi hdi
    have := h1 i (List.mem_range.2 hi)
    rw [hdi] at this
    simp only [Bool.and_eq_true, decide_eq_true_eq] at this
    exact this.1
  · intro i o ho j hj
    have := h2 _ (mem_zip ho)
    simp only [List.all_eq_true, decide_eq_true_eq] at this
    exact this j hj
  · intro i o ho j hj
    have := h3 _ (mem_zip ho)
    simp only [List.all_eq_true, List.any_eq_true] at this
    obtain ⟨k, hk, hh⟩ := this j hj
    refine ⟨k, hk, ?_⟩
    simpa [Dn] using hh
  · intro i o ho t ht j hj hne hd
    have := h4 _ (mem_zip ho)
    simp only [List.all_eq_true] at this
    have := this t ht j (List.mem_range.2 hj)
    simp only [hd, Bool.or_eq_true, beq_iff_eq, hne, false_or, bne_self_eq_false, Bool.false_eq_true] at this
    split at this <;> rename_i hlt
    · rw [if_pos hlt]; simpa [Dn] using this
    · rw [if_neg hlt]; simpa [Dn] using this
  · intro i o ho cs b heq
    have := h5 o (List.mem_of_getElem? ho)
    simp [heq] at this
  · intro t ht
    simpa using h6 t ht
  · intro p q hp hq
    have := h7 p (List.mem_range.2 hp)
    simp only [List.all_eq_true] at this
    simpa [Dn] using this q (List.mem_range.2 hq)
  · simpa using h8

/-- What is asked of a region. -/
structure Walked (P : Program) (w0 : World) (K : List Value → Mem → Prop) (L : List Value) (mk m : Mem) (l : List Oper) (D : List (List Nat)) (T : List Nat) (rel : Nat → Bool) (e : Nat → Sel → Value) (R : Nat → Sel → Prop) (M : Nat → Sel → Mem) : Prop where
  hmk : mk.Sublist m
  hrel : ∀ i, rel i = true → ∀ V, e i V = (V i).1
  htail : ∀ t ∈ T, rel t = true
  hhead : ∀ i, rel i = true → i < l.length → i ∉ T → ∀ t ∈ T, i ∈ Dn D t
  hdep : ∀ i j, rel i = true → i < l.length → j < l.length → i ∉ Dn D j → j ≠ i → ∀ V x, e j (updV V i x) = e j V ∧ (rel j = true → R j V → R j (updV V i x))
  head : ∀ i o, l[i]? = some o → i ∉ T → ∀ V, (∀ j ∈ Dn D i, rel j = true → R j V) →
    if Region.wanted o (yielded l.toArray (frm l e V L i).toArray) then
      ∃ X, (X = memH mk m l.length D T rel i V ∨ (lateAll D T i = true ∧ early D T i = false ∧ X = M T.length V)) ∧
      Rel P w0 X (ev (frm l e V L i)) o (fun v mi => if rel i then R i (updV V i (v, mi)) else v = e i V ∧ mi = [])
    else (if rel i then R i (updV V i (undef, [])) else e i V = undef)
  tail : ∀ p o, p < T.length → l[T.getD p 0]? = some o → ∀ V, (∀ j ∈ Dn D (T.getD p 0), rel j = true → R j V) → Region.wanted o (yielded l.toArray (frm l e V L (T.getD p 0)).toArray) = true ∧
    Chg P w0 (memT m l.length T rel M p V) (ev (frm l e V L (T.getD p 0))) o
      (fun v m' => ∃ x, R (T.getD p 0) (updV V (T.getD p 0) (v, x)) ∧ m' = M (p + 1) (updV V (T.getD p 0) (v, x)) ∧ mk.Sublist m')
  fin : ∀ V, (∀ i, i < l.length → rel i = true → R i V) → K (frm l e V L l.length) (memT m l.length T rel M T.length V)

def Sof (listed : Array Bool) : Nat → Bool := fun j => listed.getD j false
def cnt (T : List Nat) (S : Nat → Bool) : Nat := (T.filter S).length

structure Inv (w0 : World) (L : List Value) (mk m : Mem) (l : List Oper) (D : List (List Nat)) (T : List Nat) (rel : Nat → Bool) (e : Nat → Sel → Value) (R : Nat → Sel → Prop) (M : Nat → Sel → Mem) (listed : Array Bool) (a : Act) (w : World) (V : Sel) : Prop where
  size : listed.size = l.length
  act : a = fr (frmS l e V (Sof listed) L l.length)
  closed : ∀ k, Sof listed k = true → ∀ j ∈ Dn D k, Sof listed j = true
  rels : ∀ i, Sof listed i = true → rel i = true → R i V
  keep : Has w0 mk w
  mem : Has w0 (if cnt T (Sof listed) = 0 then m ++ flat (heads l.length rel T (Sof listed)) V else M (cnt T (Sof listed)) V) w

theorem Sof_set {listed : Array Bool} {i j : Nat} (hi : i < listed.size) : Sof (listed.setIfInBounds i true) j = (Sof listed j || j == i) := by
  unfold Sof
  by_cases h : i = j
  · subst h; simp [hi]
  · have hb : (j == i) = false := by simp; exact fun e => h e.symm
    simp [h, hb]
theorem Sof_lt {listed : Array Bool} {j : Nat} (h : Sof listed j = true) : j < listed.size := by
  unfold Sof at h
  rcases Nat.lt_or_ge j listed.size with h' | h'
  · exact h'
  · simp [h'] at h

theorem ready_Sof {listed : Array Bool} {i : Nat} (hs : listed.size = l.length) (h : i ∈ Region.ready .any l.toArray listed) :
    Sof listed i = false ∧ ∃ o, l[i]? = some o ∧ ∀ j ∈ edgesOf o, Sof listed j = true := by
  obtain ⟨h0, o, ho, hall⟩ := mem_ready.1 h
  have ho' : l[i]? = some o := by simpa using ho
  have hi : i < listed.size := by rw [hs]; exact (List.getElem?_eq_some_iff.1 ho').1
  refine ⟨?_, o, ho', ?_⟩
  · unfold Sof; simp [hi] at h0 ⊢; exact h0
  · intro j hj
    simp only [edgesOf, List.mem_filterMap, Array.mem_toList_iff] at hj
    obtain ⟨e, he, hb⟩ := hj
    split at hb
    · rename_i hbind
      simp only [Option.some.injEq] at hb
      subst hb
      exact hall e he hbind
    · cases hb

theorem all_of_ready_nil {listed : Array Bool} {len : Nat} (hs : listed.size = l.length) (hc : Chk l D T len) (h : Region.ready .any l.toArray listed = []) : ∀ i, i < l.length → Sof listed i = true := by
  intro i
  induction i using Nat.strongRecOn with
  | _ i ih =>
    intro hi
    cases hS : Sof listed i with
    | true => rfl
    | false =>
      have ho : l[i]? = some l[i] := List.getElem?_eq_getElem hi
      have : i ∈ Region.ready .any l.toArray listed := mem_ready.2 ⟨by
        unfold Sof at hS
        have : i < listed.size := by omega
        simp [this] at hS ⊢; exact hS, l[i], by simp [hi], fun e he hb => by
        have hj : e.on ∈ edgesOf l[i] := by
          simp only [edgesOf, List.mem_filterMap, Array.mem_toList_iff]
          exact ⟨e, he, by simp [hb]⟩
        have hlt := hc.back i _ ho _ hj
        have := ih e.on hlt (by omega)
        unfold Sof at this
        exact this⟩
      rw [h] at this
      cases this

theorem ev_same {len : Nat} (hc : Chk l D T len) (hL : L.length = len) {listed : Array Bool} {V : Sel} (hcl : ∀ k, Sof listed k = true → ∀ j ∈ Dn D k, Sof listed j = true) {i : Nat} {o : Oper} (ho : l[i]? = some o)
    (hi : Sof listed i = false) (hD : ∀ j ∈ Dn D i, Sof listed j = true) {t : Tmp} (ht : t ∈ o.looksAt l.toArray) : nth (frmS l e V (Sof listed) L l.length) t = nth (frm l e V L i) t := by
  have hil : i < l.length := (List.getElem?_eq_some_iff.1 ho).1
  rw [frm_eq_frmS]
  by_cases hex : ∃ j, j < l.length ∧ j ≠ i ∧ dstOf l j = some t
  · obtain ⟨j, hj, hne, hd⟩ := hex
    have hu : ∀ i', dstOf l i' = some t → i' = j := fun i' h => hc.uniq i' j t (dst_lt h) hj h hd
    have htl : t < L.length := by rw [hL]; exact hc.lt j t hj hd
    have hlk := hc.looks i o ho t ht j hj hne hd
    by_cases hlt : j < i
    · rw [if_pos hlt] at hlk
      rw [nth_frmS_some l.length hj (hD j hlk) hd htl hu, nth_frmS_some i hlt rfl hd htl hu]
    · rw [if_neg hlt] at hlk
      have hSj : Sof listed j = false := by
        cases h : Sof listed j with
        | false => rfl
        | true => rw [hcl j h i hlk] at hi; cases hi
      rw [nth_frmS_none l.length (fun k _ hk hd' => by rw [hu k hd', hSj] at hk; cases hk), nth_frmS_none i (fun k hk _ hd' => by have := hu k hd'; omega)]
  · have hno : ∀ k, k < l.length → k ≠ i → dstOf l k ≠ some t := fun k hk hne hd => hex ⟨k, hk, hne, hd⟩
    rw [nth_frmS_none l.length (fun k hk hsk hd => by
      by_cases hki : k = i
      · subst hki; rw [hi] at hsk; cases hsk
      · exact hno k hk hki hd), nth_frmS_none i (fun k hk _ => hno k (by omega) (by omega))]

theorem put_same {len : Nat} (hc : Chk l D T len) {listed : Array Bool} {V V' : Sel} (hs : listed.size = l.length) {i : Nat} (hil : i < l.length) (hi : Sof listed i = false)
    (he : ∀ j, Sof listed j = true → e j V' = e j V) (v : Value) (hv : e i V' = v) :
    put (frmS l e V (Sof listed) L l.length) (dstOf l i) v = frmS l e V' (Sof (listed.setIfInBounds i true)) L l.length := by
  have hset : ∀ j, Sof (listed.setIfInBounds i true) j = (Sof listed j || j == i) := fun j => Sof_set (by omega)
  refine ext_nth (by simp [length_put, length_frmS]) fun t htl => ?_
  simp only [length_put, length_frmS] at htl
  by_cases hd : dstOf l i = some t
  · have hu : ∀ i', dstOf l i' = some t → i' = i := fun i' h => hc.uniq i' i t (dst_lt h) hil h hd
    rw [hd, nth_put_self _ (by rw [length_frmS]; exact htl), nth_frmS_some l.length hil (by rw [hset]; simp) hd htl hu, hv]
  · rw [nth_put_ne _ hd]
    by_cases hex : ∃ j, j < l.length ∧ Sof listed j = true ∧ dstOf l j = some t
    · obtain ⟨j, hj, hS, hdj⟩ := hex
      have hu : ∀ i', dstOf l i' = some t → i' = j := fun i' h => hc.uniq i' j t (dst_lt h) hj h hdj
      rw [nth_frmS_some l.length hj hS hdj htl hu, nth_frmS_some l.length hj (by rw [hset, hS]; rfl) hdj htl hu, he j hS]
    · have hno : ∀ k, k < l.length → Sof listed k = true → dstOf l k ≠ some t := fun k hk hsk hdk => hex ⟨k, hk, hsk, hdk⟩
      rw [nth_frmS_none l.length hno, nth_frmS_none l.length fun k hk hsk => by
        rw [hset] at hsk
        by_cases hki : k = i
        · subst hki; exact hd
        · have hb : (k == i) = false := by simpa using hki
          rw [hb, Bool.or_false] at hsk
          exact hno k hk hsk]

theorem cnt_zero {T : List Nat} {S : Nat → Bool} : cnt T S = 0 ↔ ∀ t ∈ T, S t = false := by
  unfold cnt
  rw [List.length_eq_zero_iff, List.filter_eq_nil_iff]
  exact ⟨fun h t ht => by simpa using h t ht, fun h t ht => by simp [h t ht]⟩


theorem wp_op_of_rel {o : Oper} {i : Nat} {A : Act} {w : World} {Q : Exit → Act → World → Prop} {K' : Act → World → Prop} (ho : l[i]? = some o)
    (h1 : Region.wanted o (yielded l.toArray A.tmps) = true → o.wp P A w K' Q) (h2 : Region.wanted o (yielded l.toArray A.tmps) = false → K' (A.put o.dst undef) w) : wpOp P l.toArray Q i K' A w := by
  unfold wpOp
  have : l.toArray[i]? = some o := by simpa using ho
  rw [this]
  simp only
  by_cases hw : Region.wanted o (yielded l.toArray A.tmps) = true
  · rw [if_pos hw]; exact .inl (h1 hw)
  · rw [if_neg hw]; exact h2 (by simpa using hw)

theorem wanted_same {o : Oper} {L L' : List Value} (h : ∀ t ∈ o.looksAt l.toArray, nth L t = nth L' t) (hlen : L.length = L'.length) :
    Region.wanted o (yielded l.toArray (fr L).tmps) = Region.wanted o (yielded l.toArray L'.toArray) := by
  unfold Region.wanted
  cases hg : o.guard with
  | none => rfl
  | some gw =>
    obtain ⟨g, want⟩ := gw
    have hy : yielded l.toArray (fr L).tmps g = yielded l.toArray L'.toArray g := by
      unfold yielded
      cases ht : (l.toArray[g]?).bind (·.dst) with
      | none => rfl
      | some t =>
        have ht' : ((l[g]?).bind fun x => x.dst) = some t := by simpa using ht
        have := h t (by simp [Oper.looksAt, hg, ht'])
        rw [← nth_eq, ← nth_eq] at this
        by_cases hlt : t < L.length
        · simp [hlt, ← hlen] at this
          simp [fr, hlt, ← hlen, this]
        · simp [fr, hlt, ← hlen]
    simp only [hy]

theorem execOp_same {o : Oper} (hs : ∀ cs b, o.op ≠ .select cs b) {L L' : List Value} (h : ∀ t ∈ o.looksAt l.toArray, nth L t = nth L' t) : execOp (ev L) o = execOp (ev L') o :=
  execOp_congr o hs fun x hx => by
    cases x with
    | tmp t => exact h t (List.mem_append_left _ (List.mem_filterMap.2 ⟨.tmp t, by simpa using hx, rfl⟩))
    | _ => rfl

theorem Runs_mono {o : Oper} {ρ : Operand → Value} {w : World} {A B : Value → World → Prop} (h : Runs P o ρ w A) (hr : ∀ v w', A v w' → B v w') : Runs P o ρ w B := by
  unfold Runs at h ⊢
  generalize (execOp ρ o).run P w = r at *
  cases r with
  | halt x w' => exact h
  | ok n w' =>
    cases n <;> first | exact hr _ _ h | exact h | exact h.mono fun e w'' ⟨v, he, hv⟩ => ⟨v, he, hr _ _ hv⟩

theorem walk_all {len : Nat} (hc : Chk l D T len) (hL : L.length = len) (W : Walked P w0 K L mk m l D T rel e R M) :
    ∀ (fuel : Nat) (listed : Array Bool) (a : Act) (w : World), ((List.range l.length).filter fun j => !Sof listed j).length ≤ fuel → (∃ V, Inv w0 L mk m l D T rel e R M listed a w V) → wpAny P .any l.toArray (LQ w0 K E) fuel listed a w := by
  have fin : ∀ (listed : Array Bool) (a : Act) (w : World) (V : Sel), Inv w0 L mk m l D T rel e R M listed a w V → (∀ i, i < l.length → Sof listed i = true) → LQ w0 K E .normal a w := by
    intro listed a w V I hall
    have hf : frmS l e V (Sof listed) L l.length = frm l e V L l.length := by
      rw [frm_eq_frmS]
      refine ext_nth (by simp [length_frmS]) fun t ht => ?_
      rw [length_frmS] at ht
      by_cases hex : ∃ j, j < l.length ∧ dstOf l j = some t
      · obtain ⟨j, hj, hd⟩ := hex
        have hu : ∀ i', dstOf l i' = some t → i' = j := fun i' h => hc.uniq i' j t (dst_lt h) hj h hd
        rw [nth_frmS_some l.length hj (hall j hj) hd ht hu, nth_frmS_some l.length hj rfl hd ht hu]
      · rw [nth_frmS_none l.length fun j hj _ hd => hex ⟨j, hj, hd⟩, nth_frmS_none l.length fun j hj _ hd => hex ⟨j, hj, hd⟩]
    have hcnt : cnt T (Sof listed) = T.length := by
      unfold cnt
      rw [List.filter_eq_self.2 fun t ht => hall t (hc.tlt t ht)]
    have hheads : heads l.length rel T (Sof listed) = heads l.length rel T fun _ => true := List.filter_congr fun j hj => by rw [hall j (List.mem_range.1 hj)]
    refine ⟨frm l e V L l.length, memT m l.length T rel M T.length V, by rw [I.act, hf], ?_, W.fin V fun i hi hr => I.rels i (hall i hi) hr⟩
    have := I.mem
    rw [hcnt, hheads] at this
    exact this
  have step : ∀ (listed : Array Bool) (a : Act) (w : World) (V : Sel), Inv w0 L mk m l D T rel e R M listed a w V → ∀ i ∈ Region.ready .any l.toArray listed, ∀ (K' : Act → World → Prop),
      (∀ a' w', (∃ V', Inv w0 L mk m l D T rel e R M (listed.setIfInBounds i true) a' w' V') → K' a' w') → wpOp P l.toArray (LQ w0 K E) i K' a w := by
    intro listed a w V I i hi K' hK'
    obtain ⟨hSi, o, ho, hedges⟩ := ready_Sof I.size hi
    have hil : i < l.length := (List.getElem?_eq_some_iff.1 ho).1
    have hDi : ∀ j ∈ Dn D i, Sof listed j = true := fun j hj => by
      obtain ⟨k, hk, h | h⟩ := hc.deps i o ho j hj
      · subst h; exact hedges k hk
      · exact I.closed k (hedges k hk) j h
    have hset : ∀ j, Sof (listed.setIfInBounds i true) j = (Sof listed j || j == i) := fun j => Sof_set (by rw [I.size]; exact hil)
    have hlook : ∀ t ∈ o.looksAt l.toArray, nth (frmS l e V (Sof listed) L l.length) t = nth (frm l e V L i) t := fun t ht => ev_same hc hL I.closed ho hSi hDi ht
    have hwant : Region.wanted o (yielded l.toArray a.tmps) = Region.wanted o (yielded l.toArray (frm l e V L i).toArray) := by
      rw [I.act]; exact wanted_same hlook (by simp [length_frmS, length_frm])
    have hexec : execOp (ev (frmS l e V (Sof listed) L l.length)) o = execOp (ev (frm l e V L i)) o := execOp_same (hc.sel i o ho) hlook
    have hdst : dstOf l i = o.dst := by simp [dstOf, ho]
    have hclosed' : ∀ k, Sof (listed.setIfInBounds i true) k = true → ∀ j ∈ Dn D k, Sof (listed.setIfInBounds i true) j = true := by
      intro k hk j hj
      rw [hset] at hk ⊢
      rcases Bool.or_eq_true _ _ ▸ hk with hk | hk
      · rw [I.closed k hk j hj]; rfl
      · have : k = i := by simpa using hk
        subst this
        rw [hDi j hj]; rfl
    have hRD : ∀ j ∈ Dn D i, rel j = true → R j V := fun j hj hr => I.rels j (hDi j hj) hr
    have hidep : ∀ j, Sof listed j = true → i ∉ Dn D j := fun j hj hd => by rw [I.closed j hj i hd] at hSi; cases hSi
    have hne : ∀ j, Sof listed j = true → j ≠ i := fun j hj h => by subst h; rw [hj] at hSi; cases hSi
    have hjl : ∀ j, Sof listed j = true → j < l.length := fun j hj => by have := Sof_lt hj; rw [I.size] at this; exact this
    have hwp : ∀ (B : Value → World → Prop), Runs P o (ev (frm l e V L i)) w B → (∀ v w', B v w' → K' (fr (put (frmS l e V (Sof listed) L l.length) o.dst v)) w') → o.wp P a w K' (LQ w0 K E) := by
      intro B hB hk
      rw [I.act]
      refine Runs.upon ?_ hk
      unfold Runs at hB ⊢
      rw [hexec]; exact hB
    -- what is known behind, the operation being relational
    have after_rel : rel i = true → ∀ (x : Value × Mem) (w' : World), R i (updV V i x) → Has w0 mk w' →
        Has w0 (if cnt T (Sof (listed.setIfInBounds i true)) = 0 then m ++ flat (heads l.length rel T (Sof (listed.setIfInBounds i true))) (updV V i x) else M (cnt T (Sof (listed.setIfInBounds i true))) (updV V i x)) w' →
        K' (fr (put (frmS l e V (Sof listed) L l.length) o.dst x.1)) w' := by
      intro hr x w' hR hkp hm
      refine hK' _ _ ⟨updV V i x, ?_⟩
      refine ⟨by simp [I.size], ?_, hclosed', ?_, hkp, hm⟩
      · rw [← hdst]
        exact congrArg fr (put_same hc I.size hil hSi (fun j hj => (W.hdep i j hr hil (hjl j hj) (hidep j hj) (hne j hj) V x).1) x.1 (by rw [W.hrel i hr, updV_same]))
      · intro j hj hrj
        rw [hset] at hj
        by_cases hji : j = i
        · subst hji; exact hR
        · have hj' : Sof listed j = true := by
            have hb : (j == i) = false := by simpa using hji
            rw [hb, Bool.or_false] at hj; exact hj
          exact (W.hdep i j hr hil (hjl j hj') (hidep j hj') (hne j hj') V x).2 hrj (I.rels j hj' hrj)
    -- .. being determined
    have after_det : rel i = false → (i ∉ T) → ∀ (w' : World), Has w (([] : Mem)) w' → K' (fr (put (frmS l e V (Sof listed) L l.length) o.dst (e i V))) w' := by
      intro hr hiT w' hm
      refine hK' _ _ ⟨V, ?_⟩
      have hcnt : cnt T (Sof (listed.setIfInBounds i true)) = cnt T (Sof listed) := by
        unfold cnt
        rw [List.filter_congr fun t ht => ?_]
        rw [hset]
        have : (t == i) = false := by simp; exact fun h => hiT (h ▸ ht)
        rw [this, Bool.or_false]
      have hheads : heads l.length rel T (Sof (listed.setIfInBounds i true)) = heads l.length rel T (Sof listed) := List.filter_congr fun j _ => by
        rw [hset]
        by_cases hji : j = i
        · subst hji; simp [hr]
        · have hb : (j == i) = false := by simpa using hji
          rw [hb, Bool.or_false]
      refine ⟨by simp [I.size], ?_, hclosed', ?_, by have := I.keep.trans hm; rwa [List.append_nil] at this, ?_⟩
      · rw [← hdst]
        exact congrArg fr (put_same hc I.size hil hSi (fun j _ => rfl) _ rfl)
      · intro j hj hrj
        rw [hset] at hj
        by_cases hji : j = i
        · subst hji; rw [hr] at hrj; cases hrj
        · have hb : (j == i) = false := by simpa using hji
          rw [hb, Bool.or_false] at hj
          exact I.rels j hj hrj
      · rw [hcnt, hheads]
        have := I.mem.trans hm
        rwa [List.append_nil] at this
    by_cases hiT : i ∈ T
    · -- an operation of the tail
      obtain ⟨p, hp, hpi⟩ := List.getElem_of_mem hiT
      have hpi' : T.getD p 0 = i := by simp [hp, hpi]
      have hr := W.htail i hiT
      have hbefore : ∀ q, q < p → Sof listed (T.getD q 0) = true := fun q hq => by
        have := hc.tails p q hp hq
        rw [hpi'] at this
        exact hDi _ this
      have hafter : ∀ q, p ≤ q → q < T.length → Sof listed (T.getD q 0) = false := fun q hq hqT => by
        cases h : Sof listed (T.getD q 0) with
        | false => rfl
        | true =>
          rcases Nat.lt_or_ge p q with hlt | hge
          · have := hc.tails q p hqT hlt
            rw [hpi'] at this
            exact absurd this (hidep _ h)
          · have : q = p := by omega
            subst this
            rw [hpi', hSi] at h; cases h
      have hcnt0 : ∀ (S : Nat → Bool) (k : Nat), k ≤ T.length → (∀ q, q < k → S (T.getD q 0) = true) → (∀ q, k ≤ q → q < T.length → S (T.getD q 0) = false) → cnt T S = k := by
        intro S k hk h1 h2
        unfold cnt
        have e1 : T = T.take k ++ T.drop k := (List.take_append_drop k T).symm
        rw [e1, List.filter_append]
        have f1 : (T.take k).filter S = T.take k := List.filter_eq_self.2 fun t ht => by
          obtain ⟨q, hq, rfl⟩ := List.getElem_of_mem ht
          have hq' : q < k := by simp at hq; omega
          have := h1 q hq'
          have hqT : q < T.length := by omega
          simp [hqT] at this
          simpa using this
        have f2 : (T.drop k).filter S = [] := List.filter_eq_nil_iff.2 fun t ht => by
          obtain ⟨q, hq, rfl⟩ := List.getElem_of_mem ht
          have hq' : k + q < T.length := by simp at hq; omega
          have := h2 (k + q) (by omega) hq'
          simp [hq'] at this
          simpa using this
        rw [f1, f2]
        simp; omega
      have hcp : cnt T (Sof listed) = p := hcnt0 _ p (by omega) hbefore hafter
      have hcp' : cnt T (Sof (listed.setIfInBounds i true)) = p + 1 := hcnt0 _ (p + 1) (by omega) (fun q hq => by
          rw [hset]
          rcases Nat.lt_or_ge q p with h | h
          · rw [hbefore q h]; rfl
          · have : q = p := by omega
            subst this
            rw [hpi']; simp) (fun q hq hqT => by
          rw [hset, hafter q (by omega) hqT]
          have : T.getD q 0 ≠ i := by
            intro h
            rw [← hpi'] at h
            simp [hqT, hp] at h
            have := (List.getElem_inj hc.tnodup).1 h
            omega
          simpa using this)
      obtain ⟨hg, ht⟩ := W.tail p o hp (by rw [hpi']; exact ho) V (by rw [hpi']; exact hRD)
      have hmem : Has w0 (memT m l.length T rel M p V) w := by
        have := I.mem
        rw [hcp] at this
        unfold memT
        by_cases h0 : p = 0
        · rw [if_pos h0] at this ⊢
          have hh : heads l.length rel T (Sof listed) = heads l.length rel T fun _ => true := List.filter_congr fun j hj => by
            by_cases hrj : rel j = true
            · by_cases hjT : j ∈ T
              · simp [hjT]
              · have := W.hhead j hrj (List.mem_range.1 hj) hjT i hiT
                rw [hDi j this]
            · simp [hrj]
          rwa [hh] at this
        · rw [if_neg h0] at this ⊢; exact this
      refine wp_op_of_rel ho (fun _ => ?_) (fun hw => ?_)
      · rw [hpi'] at ht
        refine hwp _ (ht w hmem) ?_
        rintro v w' ⟨m', ⟨x, hRx, rfl, hsub⟩, hm'⟩
        refine after_rel hr (v, x) w' hRx (hm'.sub hsub) ?_
        rw [hcp', if_neg (by omega)]
        exact hm'
      · rw [hpi'] at hg; rw [hwant, hg] at hw; cases hw
    · -- an operation of the head
      have hh := W.head i o ho hiT V hRD
      have hmemH : Has w0 (memH mk m l.length D T rel i V) w := by
        unfold memH
        by_cases he : early D T i = true
        · rw [if_pos he]
          have hc0 : cnt T (Sof listed) = 0 := cnt_zero.2 fun t ht => by
            cases h : Sof listed t with
            | false => rfl
            | true =>
              exfalso
              obtain ⟨t0, T', hT⟩ : ∃ t0 T', T = t0 :: T' := by
                cases hT : T with
                | nil => rw [hT] at ht; cases ht
                | cons t0 T' => exact ⟨t0, T', rfl⟩
              have he' : i ∈ Dn D t0 := by simp only [early, hT] at he; simpa using he
              have ht0 : Sof listed t0 = true := by
                obtain ⟨q, hq, hqt⟩ := List.getElem_of_mem ht
                rcases Nat.eq_zero_or_pos q with h0 | h0
                · subst h0
                  have : T[0] = t0 := by simp [hT]
                  rw [← this, hqt]; exact h
                · have := hc.tails q 0 hq h0
                  have e1 : T.getD q 0 = t := by simp [hq, hqt]
                  have e2 : T.getD 0 0 = t0 := by simp [hT]
                  rw [e1, e2] at this
                  exact I.closed t h t0 this
              exact hidep t0 ht0 he'
          have := I.mem
          rw [if_pos hc0] at this
          refine this.sub ((List.Sublist.refl m).append (flat_sub V (filter_sub _ fun j _ hj => ?_)))
          simp only [Bool.and_eq_true] at hj ⊢
          refine ⟨⟨hDi j (by simpa using hj.1.1), hj.1.2⟩, hj.2⟩
        · rw [if_neg he]; exact I.keep
      have rel_mem : rel i = true → ∀ (x : Value × Mem) (w' : World), Has w x.2 w' →
          Has w0 (if cnt T (Sof (listed.setIfInBounds i true)) = 0 then m ++ flat (heads l.length rel T (Sof (listed.setIfInBounds i true))) (updV V i x) else M (cnt T (Sof (listed.setIfInBounds i true))) (updV V i x)) w' := by
        intro hr x w' hx
        have hc0 : ∀ t ∈ T, Sof listed t = false := fun t ht => by
          cases h : Sof listed t with
          | false => rfl
          | true => exact absurd (W.hhead i hr hil hiT t ht) (hidep t h)
        have hc0' : cnt T (Sof (listed.setIfInBounds i true)) = 0 := cnt_zero.2 fun t ht => by
          rw [hset, hc0 t ht]
          simp; exact fun h => hiT (h ▸ ht)
        have hm := I.mem
        rw [if_pos (cnt_zero.2 hc0)] at hm
        rw [if_pos hc0']
        refine (hm.trans hx).perm ?_
        rw [List.append_assoc]
        refine List.Perm.append_left m ?_
        have hp : (fun j => Sof (listed.setIfInBounds i true) j && rel j && !T.contains j) = fun j => (Sof listed j && rel j && !T.contains j) || j == i := by
          funext j
          rw [hset]
          by_cases hji : j = i
          · subst hji
            simp [hr]; exact hiT
          · have hb : (j == i) = false := by simpa using hji
            simp [hb]
        have e1 : flat (heads l.length rel T (Sof listed)) V = flat ((List.range l.length).filter fun j => Sof listed j && rel j && !T.contains j) (updV V i x) := flat_congr fun j hj => by
          have : Sof listed j = true := by
            simp only [heads, List.mem_filter, Bool.and_eq_true] at hj
            exact hj.2.1.1
          exact (updV_ne V x (hne j this)).symm
        rw [e1]
        unfold heads
        rw [hp]
        have := flat_insert (V := updV V i x) (p := fun j => Sof listed j && rel j && !T.contains j) (i := i) (List.range l.length) List.nodup_range (List.mem_range.2 hil) (by simp [hSi])
        rw [updV_same] at this
        exact this
      refine wp_op_of_rel ho (fun hw => ?_) (fun hw => ?_)
      · rw [hwant] at hw
        rw [if_pos hw] at hh
        obtain ⟨X, hX, hh⟩ := hh
        have hmemX : Has w0 X w := by
          rcases hX with rfl | ⟨hla, hea, rfl⟩
          · exact hmemH
          · have hc1 : cnt T (Sof listed) = T.length := by
              unfold cnt
              rw [List.filter_eq_self.2 fun t ht => hDi t (by have := List.all_eq_true.1 hla t ht; simpa using this)]
            have hc2 : T.length ≠ 0 := fun h0 => by
              rw [List.length_eq_zero_iff.1 h0] at hea; cases hea
            have hm := I.mem
            rw [hc1, if_neg hc2] at hm
            exact hm
        refine hwp _ (hh w hmemX) ?_
        rintro v w' ⟨mi, hv, hmi⟩
        cases hr : rel i with
        | true =>
          rw [hr, if_pos rfl] at hv
          exact after_rel hr (v, mi) w' hv ((I.keep.trans hmi).sub (List.sublist_append_left _ _)) (rel_mem hr (v, mi) w' hmi)
        | false =>
          rw [hr] at hv
          simp only [Bool.false_eq_true, if_false] at hv
          obtain ⟨rfl, rfl⟩ := hv
          exact after_det hr hiT w' hmi
      · rw [hwant] at hw
        rw [if_neg (by rw [hw]; simp)] at hh
        rw [I.act, put_fr]
        cases hr : rel i with
        | true =>
          rw [hr, if_pos rfl] at hh
          exact after_rel hr (undef, []) w hh I.keep (rel_mem hr (undef, []) w (Has.nil w))
        | false =>
          rw [hr] at hh
          simp only [Bool.false_eq_true, if_false] at hh
          rw [← hh]
          exact after_det hr hiT w (Has.nil w)
  intro fuel
  induction fuel with
  | zero =>
    intro listed a w hn ⟨V, I⟩
    have hall : ∀ i, i < l.length → Sof listed i = true := fun i hi => by
      cases h : Sof listed i with
      | true => rfl
      | false =>
        have : i ∈ (List.range l.length).filter fun j => !Sof listed j := List.mem_filter.2 ⟨List.mem_range.2 hi, by simp [h]⟩
        rw [List.eq_nil_of_length_eq_zero (Nat.le_zero.1 hn)] at this
        cases this
    refine ⟨?_, fin listed a w V I hall⟩
    cases hr : Region.ready .any l.toArray listed with
    | nil => rfl
    | cons i r =>
      have := (ready_Sof I.size (i := i) (by rw [hr]; simp))
      obtain ⟨h0, o, ho, _⟩ := this
      rw [hall i (List.getElem?_eq_some_iff.1 ho).1] at h0
      cases h0
  | succ fuel ih =>
    intro listed a w hn ⟨V, I⟩
    refine ⟨fun hr => fin listed a w V I (all_of_ready_nil I.size hc hr), fun i hi => ?_⟩
    refine step listed a w V I i hi _ fun a' w' hI => ih _ a' w' ?_ hI
    obtain ⟨hSi, o, ho, _⟩ := ready_Sof I.size hi
    have hil : i < l.length := (List.getElem?_eq_some_iff.1 ho).1
    have hset : ∀ j, Sof (listed.setIfInBounds i true) j = (Sof listed j || j == i) := fun j => Sof_set (by rw [I.size]; exact hil)
    have hlt : ((List.range l.length).filter fun j => !Sof (listed.setIfInBounds i true) j).length < ((List.range l.length).filter fun j => !Sof listed j).length := by
      have hsub : ((List.range l.length).filter fun j => !Sof (listed.setIfInBounds i true) j).Sublist ((List.range l.length).filter fun j => !Sof listed j) := filter_sub _ fun j _ hj => by
        rw [hset] at hj
        simp only [Bool.not_eq_true', Bool.or_eq_false_iff] at hj ⊢
        exact hj.1
      refine Nat.lt_of_le_of_ne hsub.length_le fun heq => ?_
      have heq' := hsub.eq_of_length heq
      have hin : i ∈ (List.range l.length).filter fun j => !Sof listed j := List.mem_filter.2 ⟨List.mem_range.2 hil, by simp [hSi]⟩
      rw [← heq', List.mem_filter, hset] at hin
      simp at hin
    omega

/-- **A region that draws its order.** -/
theorem WC_drawn {id : Nat} (hm : P.follows .mixedOrders = true) (hc : chk l D T L.length = true) (W : Walked P w0 K L mk m l D T rel e R M) : WC P w0 (.region id l.toArray true) K E L m := by
  intro w hw
  refine wp_region_any hm ?_
  have hS : ∀ j, Sof (Array.replicate l.toArray.size false) j = false := fun j => by
    unfold Sof
    by_cases h : j < l.length <;> simp [h]
  refine walk_all (chk_spec hc) rfl W _ _ _ _ (by simpa using List.length_filter_le _ (List.range l.length)) ⟨fun _ => (undef, []), ?_⟩
  refine ⟨by simp, ?_, (fun k hk => by rw [hS] at hk; cases hk), (fun i hi => by rw [hS] at hi; cases hi), hw.drew.sub W.hmk, ?_⟩
  · congr 1
    refine ext_nth (by simp [length_frmS]) fun t _ => ?_
    rw [nth_frmS_none l.length fun j _ hj => by rw [hS] at hj; cases hj]
  · have h0 : cnt T (Sof (Array.replicate l.toArray.size false)) = 0 := cnt_zero.2 fun t _ => hS t
    rw [if_pos h0]
    have h1 : heads l.length rel T (Sof (Array.replicate l.toArray.size false)) = [] := List.filter_eq_nil_iff.2 fun j _ => by rw [hS]; simp
    rw [h1]
    simp only [flat, List.flatMap_nil, List.append_nil]
    exact hw.drew

end
end Go.MW

namespace Go.MW
open Go.RowKit

abbrev RList := List (Option (Sel → Prop))
def relOf (Rs : RList) (j : Nat) : Bool := (Rs.getD j none).isSome
def jsOf (D : List (List Nat)) (T : List Nat) (Rs : RList) (i : Nat) : List Nat := (List.range i).filter fun j => (Dn D i).contains j && relOf Rs j && !T.contains j
def jsAll (T : List Nat) (Rs : RList) (i : Nat) : List Nat := (List.range i).filter fun j => relOf Rs j && !T.contains j
/-- What is known of what an operation waits for. -/
def RD (D : List (List Nat)) (Rs : RList) (i : Nat) (V : Sel) : Prop := ∀ j ∈ Dn D i, ∀ R, Rs.getD j none = some R → R V
def RAll (Rs : RList) (V : Sel) : Prop := ∀ j, ∀ R, Rs.getD j none = some R → R V
inductive RW (P : Program) (w0 : World) (K : List Value → Mem → Prop) (mk m : Mem) (l : List Oper) (D : List (List Nat)) (T : List Nat) :
    Nat → (Sel → List Value) → List (Sel → Value) → RList → List (Sel → Mem) → Prop
  | pure {i : Nat} {F : Sel → List Value} {es : List (Sel → Value)} {Rs : RList} {Ms : List (Sel → Mem)} {o : Oper} {e : Sel → Value}
      (ho : l[i]? = some o) (hT : T.contains i = false) (hw : ∀ V, Region.wanted o (yielded l.toArray (F V).toArray) = true)
      (h : ∀ V, RD D Rs i V → Det P w0 mk (ev (F V)) o (e V)) (dep : ∀ V V' : Sel, (∀ j ∈ Dn D i, V j = V' j) → e V = e V')
      (k : RW P w0 K mk m l D T (i + 1) (fun V => put (F V) o.dst (e V)) (es ++ [e]) (Rs ++ [none]) Ms) : RW P w0 K mk m l D T i F es Rs Ms
  | skip {i : Nat} {F : Sel → List Value} {es : List (Sel → Value)} {Rs : RList} {Ms : List (Sel → Mem)} {o : Oper}
      (ho : l[i]? = some o) (hT : T.contains i = false) (hw : ∀ V, Region.wanted o (yielded l.toArray (F V).toArray) = false)
      (k : RW P w0 K mk m l D T (i + 1) (fun V => put (F V) o.dst undef) (es ++ [fun _ => undef]) (Rs ++ [none]) Ms) : RW P w0 K mk m l D T i F es Rs Ms
  | det {i : Nat} {F : Sel → List Value} {es : List (Sel → Value)} {Rs : RList} {Ms : List (Sel → Mem)} {o : Oper} {e : Sel → Value} (js : List Nat)
      (ho : l[i]? = some o) (hT : T.contains i = false) (he : early D T i = true) (hj : js.isSublist (jsOf D T Rs i) = true) (hw : ∀ V, Region.wanted o (yielded l.toArray (F V).toArray) = true)
      (h : ∀ V, RD D Rs i V → Rel P w0 (m ++ flat js V) (ev (F V)) o (fun v mi => v = e V ∧ mi = [])) (dep : ∀ V V' : Sel, (∀ j ∈ Dn D i, V j = V' j) → e V = e V')
      (k : RW P w0 K mk m l D T (i + 1) (fun V => put (F V) o.dst (e V)) (es ++ [e]) (Rs ++ [none]) Ms) : RW P w0 K mk m l D T i F es Rs Ms
  | rel {i : Nat} {F : Sel → List Value} {es : List (Sel → Value)} {Rs : RList} {Ms : List (Sel → Mem)} {o : Oper} {R : Sel → Prop} (js : List Nat)
      (ho : l[i]? = some o) (hT : T.contains i = false) (he : (T.all fun t => (Dn D t).contains i) = true) (hj : js.isSublist (jsOf D T Rs i) = true) (hw : ∀ V, Region.wanted o (yielded l.toArray (F V).toArray) = true)
      (h : ∀ V, RD D Rs i V → Rel P w0 (m ++ flat js V) (ev (F V)) o (fun v mi => R (updV V i (v, mi)))) (dep : ∀ V V' : Sel, (∀ j ∈ Dn D i, V j = V' j) → V i = V' i → R V → R V')
      (k : RW P w0 K mk m l D T (i + 1) (fun V => put (F V) o.dst (V i).1) (es ++ [fun V => (V i).1]) (Rs ++ [some R]) Ms) : RW P w0 K mk m l D T i F es Rs Ms
  | tail {i : Nat} {F : Sel → List Value} {es : List (Sel → Value)} {Rs : RList} {Ms : List (Sel → Mem)} {o : Oper} {R : Sel → Prop} (B : Sel → Mem) (M : Sel → Mem)
      (ho : l[i]? = some o) (hT : T[Ms.length]? = some i) (hg : ∀ V, Region.wanted o (yielded l.toArray (F V).toArray) = true) (hB : ∀ V, B V = match Ms.getLast? with | none => m ++ flat (jsAll T Rs i) V | some M0 => M0 V)
      (h : ∀ V, RD D Rs i V → Chg P w0 (B V) (ev (F V)) o (fun v m' => ∃ x, R (updV V i (v, x)) ∧ m' = M (updV V i (v, x)) ∧ mk.Sublist m')) (dep : ∀ V V' : Sel, (∀ j ∈ Dn D i, V j = V' j) → V i = V' i → R V → R V')
      (k : RW P w0 K mk m l D T (i + 1) (fun V => put (F V) o.dst (V i).1) (es ++ [fun V => (V i).1]) (Rs ++ [some R]) (Ms ++ [M])) : RW P w0 K mk m l D T i F es Rs Ms
  | late {i : Nat} {F : Sel → List Value} {es : List (Sel → Value)} {Rs : RList} {Ms : List (Sel → Mem)} {o : Oper} {e : Sel → Value} (B : Sel → Mem)
      (ho : l[i]? = some o) (hT : T.contains i = false) (hl : lateAll D T i = true) (he : early D T i = false) (hM : T.length = Ms.length) (hB : ∀ V, B V = match Ms.getLast? with | none => m ++ flat (jsAll T Rs i) V | some M0 => M0 V)
      (hw : ∀ V, Region.wanted o (yielded l.toArray (F V).toArray) = true)
      (h : ∀ V, RD D Rs i V → Rel P w0 (B V) (ev (F V)) o (fun v mi => v = e V ∧ mi = [])) (dep : ∀ V V' : Sel, (∀ j ∈ Dn D i, V j = V' j) → e V = e V')
      (k : RW P w0 K mk m l D T (i + 1) (fun V => put (F V) o.dst (e V)) (es ++ [e]) (Rs ++ [none]) Ms) : RW P w0 K mk m l D T i F es Rs Ms
  | done {i : Nat} {F : Sel → List Value} {es : List (Sel → Value)} {Rs : RList} {Ms : List (Sel → Mem)} (B : Sel → Mem) (hi : l.length = i) (hT : T.length = Ms.length)
      (hB : ∀ V, B V = match Ms.getLast? with | none => m ++ flat (jsAll T Rs i) V | some M0 => M0 V)
      (h : ∀ V, RAll Rs V → K (F V) (B V)) : RW P w0 K mk m l D T i F es Rs Ms

def eOf (es : List (Sel → Value)) (j : Nat) (V : Sel) : Value := match es[j]? with | some f => f V | none => undef
def ROf (Rs : RList) (j : Nat) (V : Sel) : Prop := ∀ R, Rs.getD j none = some R → R V
def MOf (Ms : List (Sel → Mem)) (p : Nat) (V : Sel) : Mem := match Ms[p - 1]? with | some f => f V | none => []

section
variable {P : Program} {w0 : World} {K : List Value → Mem → Prop} {E : Exit → List Value → Mem → Prop} {L : List Value} {mk m : Mem} {l : List Oper} {D : List (List Nat)} {T : List Nat}

theorem not_self {i : Nat} (h : (Dn D i).contains i = false) {j : Nat} (hj : j ∈ Dn D i) : j ≠ i := fun e => by
  subst e
  have : (Dn D j).contains j = true := by simpa using hj
  rw [h] at this; cases this

/-- The same, what comes of the operation said of its value and its blocks. -/
theorem RW.rel' {i : Nat} {F : Sel → List Value} {es : List (Sel → Value)} {Rs : RList} {Ms : List (Sel → Mem)} {o : Oper} {R0 : Sel → Value → Mem → Prop} (js : List Nat)
    (ho : l[i]? = some o) (hT : T.contains i = false) (he : (T.all fun t => (Dn D t).contains i) = true) (hj : js.isSublist (jsOf D T Rs i) = true) (hw : ∀ V, Region.wanted o (yielded l.toArray (F V).toArray) = true) (hi : (Dn D i).contains i = false)
    (h : ∀ V, RD D Rs i V → Rel P w0 (m ++ flat js V) (ev (F V)) o (R0 V)) (dep : ∀ V V' : Sel, (∀ j ∈ Dn D i, V j = V' j) → ∀ v mi, R0 V v mi → R0 V' v mi)
    (k : RW P w0 K mk m l D T (i + 1) (fun V => put (F V) o.dst (V i).1) (es ++ [fun V => (V i).1]) (Rs ++ [some fun V => R0 V (V i).1 (V i).2]) Ms) : RW P w0 K mk m l D T i F es Rs Ms := by
  refine RW.rel js ho hT he hj hw (fun V hV w hw' => Runs_mono (h V hV w hw') ?_) (fun V V' hV hi' hR => ?_) k
  · rintro v w' ⟨mi, hr, hm⟩
    refine ⟨mi, ?_, hm⟩
    simp only [updV_same]
    exact dep V _ (fun j hj => (updV_ne V _ (not_self hi hj)).symm) _ _ hr
  · rw [← hi']
    exact dep V V' hV _ _ hR
theorem RW.tailG' {i : Nat} {F : Sel → List Value} {es : List (Sel → Value)} {Rs : RList} {Ms : List (Sel → Mem)} {o : Oper} {R0 : Sel → Value → Mem → Prop} {B : Sel → Mem}
    (ho : l[i]? = some o) (hT : T[Ms.length]? = some i) (hg : ∀ V, Region.wanted o (yielded l.toArray (F V).toArray) = true) (hi : (Dn D i).contains i = false) (hB : ∀ V, B V = match Ms.getLast? with | none => m ++ flat (jsAll T Rs i) V | some M0 => M0 V)
    (h : ∀ V, RD D Rs i V → Chg P w0 (B V) (ev (F V)) o (R0 V)) (dep : ∀ V V' : Sel, (∀ j ∈ Dn D i, V j = V' j) → ∀ v m', R0 V v m' → R0 V' v m') (keep : ∀ V, RD D Rs i V → ∀ v m', R0 V v m' → mk.Sublist m')
    (k : RW P w0 K mk m l D T (i + 1) (fun V => put (F V) o.dst (V i).1) (es ++ [fun V => (V i).1]) (Rs ++ [some fun V => R0 V (V i).1 (V i).2]) (Ms ++ [fun V => (V i).2])) : RW P w0 K mk m l D T i F es Rs Ms := by
  refine RW.tail B (fun V => (V i).2) ho hT hg hB (fun V hV w hw' => Runs_mono (h V hV w hw') ?_) (fun V V' hV hi' hR => ?_) k
  · rintro v w' ⟨m', hr, hm⟩
    refine ⟨m', ⟨m', ?_, by simp only [updV_same], keep V hV v m' hr⟩, hm⟩
    simp only [updV_same]
    exact dep V _ (fun j hj => (updV_ne V _ (not_self hi hj)).symm) _ _ hr
  · rw [← hi']
    exact dep V V' hV _ _ hR
theorem RW.tail' {i : Nat} {F : Sel → List Value} {es : List (Sel → Value)} {Rs : RList} {Ms : List (Sel → Mem)} {o : Oper} {R0 : Sel → Value → Mem → Prop} {B : Sel → Mem}
    (ho : l[i]? = some o) (hT : T[Ms.length]? = some i) (hg : o.guard = none) (hi : (Dn D i).contains i = false) (hB : ∀ V, B V = match Ms.getLast? with | none => m ++ flat (jsAll T Rs i) V | some M0 => M0 V)
    (h : ∀ V, RD D Rs i V → Chg P w0 (B V) (ev (F V)) o (R0 V)) (dep : ∀ V V' : Sel, (∀ j ∈ Dn D i, V j = V' j) → ∀ v m', R0 V v m' → R0 V' v m') (keep : ∀ V, RD D Rs i V → ∀ v m', R0 V v m' → mk.Sublist m')
    (k : RW P w0 K mk m l D T (i + 1) (fun V => put (F V) o.dst (V i).1) (es ++ [fun V => (V i).1]) (Rs ++ [some fun V => R0 V (V i).1 (V i).2]) (Ms ++ [fun V => (V i).2])) : RW P w0 K mk m l D T i F es Rs Ms :=
  RW.tailG' ho hT (fun V => by simp [Region.wanted, hg]) hi hB h dep keep k

def blk : Value → Nat
  | .pointer (some a) => a.block
  | _ => 0
/-- What a new variable is. -/
def IsNew (c : Array Value) (t : TypeId) (v : Value) (mi : Mem) : Prop := ∃ b, v = .pointer (some ⟨b, 0, none⟩) ∧ mi = [(some b, .cells c t (0, 0))]
theorem IsNew.ptr {c : Array Value} {t : TypeId} {v : Value} {mi : Mem} (h : IsNew c t v mi) : v = .pointer (some ⟨blk v, 0, none⟩) := by obtain ⟨b, rfl, _⟩ := h; rfl
theorem IsNew.mem {c : Array Value} {t : TypeId} {v : Value} {mi : Mem} (h : IsNew c t v mi) : mi = [(some (blk v), .cells c t (0, 0))] := by obtain ⟨b, rfl, rfl⟩ := h; rfl
theorem frm_congr {e e' : Nat → Sel → Value} {V : Sel} : ∀ (k : Nat), (∀ j, j < k → e j V = e' j V) → frm l e V L k = frm l e' V L k
  | 0, _ => rfl
  | k + 1, h => by simp only [frm]; rw [frm_congr k fun j hj => h j (by omega), h k (by omega)]

theorem eOf_pre {es es' : List (Sel → Value)} (h : es <+: es') {j : Nat} (hj : j < es.length) (V : Sel) : eOf es' j V = eOf es j V := by
  obtain ⟨r, rfl⟩ := h
  simp [eOf, List.getElem?_append_left hj]
theorem getD_pre {α : Type} {d : α} {a b : List α} (h : a <+: b) {j : Nat} (hj : j < a.length) : b.getD j d = a.getD j d := by
  obtain ⟨r, rfl⟩ := h
  simp [List.getElem?_append_left hj]

/-- What a walk has shown of the operations from number i on. -/
structure From (P : Program) (w0 : World) (K : List Value → Mem → Prop) (L : List Value) (mk m : Mem) (l : List Oper) (D : List (List Nat)) (T : List Nat) (i : Nat) (es : List (Sel → Value)) (Rs : RList) (Ms : List (Sel → Mem))
    (es' : List (Sel → Value)) (Rs' : RList) (Ms' : List (Sel → Mem)) : Prop where
  pe : es <+: es'
  pr : Rs <+: Rs'
  pm : Ms <+: Ms'
  le : es'.length = l.length
  lr : Rs'.length = l.length
  lm : Ms'.length = T.length
  each : ∀ j, i ≤ j → j < l.length → ∀ o, l[j]? = some o →
    (∀ V V' : Sel, (∀ k ∈ Dn D j, V k = V' k) → (relOf Rs' j = true → V j = V' j) → eOf es' j V = eOf es' j V') ∧
    (∀ V V' : Sel, (∀ k ∈ Dn D j, V k = V' k) → V j = V' j → ROf Rs' j V → ROf Rs' j V') ∧
    (relOf Rs' j = true → ∀ V, eOf es' j V = (V j).1) ∧
    (j ∈ T → relOf Rs' j = true) ∧
    (relOf Rs' j = true → j ∉ T → ∀ t ∈ T, j ∈ Dn D t) ∧
    (j ∉ T → ∀ V, (∀ k ∈ Dn D j, ROf Rs' k V) →
      if Region.wanted o (yielded l.toArray (frm l (eOf es') V L j).toArray) then
        ∃ X, (X = memH mk m l.length D T (relOf Rs') j V ∨ (lateAll D T j = true ∧ early D T j = false ∧ X = MOf Ms' T.length V)) ∧
        Rel P w0 X (ev (frm l (eOf es') V L j)) o (fun v mi => if relOf Rs' j then ROf Rs' j (updV V j (v, mi)) else v = eOf es' j V ∧ mi = [])
      else (if relOf Rs' j then ROf Rs' j (updV V j (undef, [])) else eOf es' j V = undef)) ∧
    (∀ p, p < T.length → T.getD p 0 = j → ∀ V, (∀ k ∈ Dn D j, ROf Rs' k V) → Region.wanted o (yielded l.toArray (frm l (eOf es') V L j).toArray) = true ∧
      Chg P w0 (memT m l.length T (relOf Rs') (MOf Ms') p V) (ev (frm l (eOf es') V L j)) o (fun v m' => ∃ x, ROf Rs' j (updV V j (v, x)) ∧ m' = MOf Ms' (p + 1) (updV V j (v, x)) ∧ mk.Sublist m'))
  fin : ∀ V, (∀ j, j < l.length → ROf Rs' j V) → K (frm l (eOf es') V L l.length) (memT m l.length T (relOf Rs') (MOf Ms') T.length V)

theorem RD_of {Rs Rs' : RList} (hp : Rs <+: Rs') {i : Nat} (hl : Rs.length = i) (hlt : ∀ k ∈ Dn D i, k < i) {V : Sel} (h : ∀ k ∈ Dn D i, ROf Rs' k V) : RD D Rs i V := fun k hk R hR => h k hk R (by rw [getD_pre hp (by rw [hl]; exact hlt k hk)]; exact hR)

theorem relOf_pre {Rs Rs' : RList} (hp : Rs <+: Rs') {j : Nat} (hj : j < Rs.length) : relOf Rs' j = relOf Rs j := by
  unfold relOf; rw [getD_pre hp hj]

theorem jsOf_heads {Rs Rs' : RList} (hp : Rs <+: Rs') {i n : Nat} (hl : Rs.length = i) (hin : i ≤ n) : (jsOf D T Rs i).Sublist (heads n (relOf Rs') T fun j => (Dn D i).contains j) := by
  have h1 : jsOf D T Rs i = (List.range i).filter fun j => (Dn D i).contains j && relOf Rs' j && !T.contains j := List.filter_congr fun j hj => by
    rw [relOf_pre hp (by rw [hl]; exact List.mem_range.1 hj)]
  rw [h1]
  unfold heads
  have h2 : (List.range i).Sublist (List.range n) := by
    obtain ⟨d, rfl⟩ := Nat.exists_eq_add_of_le hin
    rw [List.range_add]
    exact List.sublist_append_left _ _
  exact h2.filter _

theorem Rel.more {m' : Mem} {ρ : Operand → Value} {o : Oper} {R : Value → Mem → Prop} (h : Rel P w0 m ρ o R) (hs : m.Sublist m') : Rel P w0 m' ρ o R := fun w hw => h w (hw.sub hs)
theorem Rel.weaken {ρ : Operand → Value} {o : Oper} {R R' : Value → Mem → Prop} (h : Rel P w0 m ρ o R) (hr : ∀ v mi, R v mi → R' v mi) : Rel P w0 m ρ o R' :=
  fun w hw => Runs_mono (h w hw) fun v _ ⟨mi, a, b⟩ => ⟨mi, hr v mi a, b⟩

theorem snoc_pre {α : Type} {a b : List α} {x : α} (h : a ++ [x] <+: b) : a <+: b := (List.prefix_append a [x]).trans h
theorem snoc_get {α : Type} {a b : List α} {x : α} (h : a ++ [x] <+: b) : b[a.length]? = some x := by
  obtain ⟨r, rfl⟩ := h
  simp

theorem heads_all {Rs : RList} {i n : Nat} {Rs' : RList} (hp : Rs <+: Rs') (hl : Rs.length = i) (hin : i ≤ n) (hno : ∀ j, i ≤ j → j < n → relOf Rs' j = true → j ∈ T) :
    heads n (relOf Rs') T (fun _ => true) = jsAll T Rs i := by
  obtain ⟨d, rfl⟩ := Nat.exists_eq_add_of_le hin
  unfold heads jsAll
  rw [List.range_add, List.filter_append]
  have h1 : ((List.range d).map fun x => i + x).filter (fun j => true && relOf Rs' j && !T.contains j) = [] := List.filter_eq_nil_iff.2 fun j hj => by
    obtain ⟨x, hx, rfl⟩ := List.mem_map.1 hj
    have hxd := List.mem_range.1 hx
    cases hr : relOf Rs' (i + x) with
    | false => simp
    | true => simp [hno (i + x) (by omega) (by omega) hr]
  rw [h1, List.append_nil]
  exact List.filter_congr fun j hj => by rw [relOf_pre hp (by rw [hl]; exact List.mem_range.1 hj)]; simp

theorem getLast_pre {Ms Ms' : List (Sel → Mem)} (hp : Ms <+: Ms') {B : Mem} {V : Sel} {h0 : Mem} (hB : B = match Ms.getLast? with | none => h0 | some M0 => M0 V) : B = if Ms.length = 0 then h0 else MOf Ms' Ms.length V := by
  rcases List.eq_nil_or_concat Ms with rfl | ⟨a, x, rfl⟩
  · simpa using hB
  · rw [List.concat_eq_append] at hp hB ⊢
    rw [hB]
    have hl : (a ++ [x]).length ≠ 0 := by simp
    rw [if_neg hl]
    unfold MOf
    have : Ms'[(a ++ [x]).length - 1]? = some x := by
      obtain ⟨r, rfl⟩ := hp
      simp
    rw [this]
    simp

theorem from_of_RW {len : Nat} (hc : Chk l D T len) (hmk : mk.Sublist m) {i : Nat} {F : Sel → List Value} {es : List (Sel → Value)} {Rs : RList} {Ms : List (Sel → Mem)} (h : RW P w0 K mk m l D T i F es Rs Ms) :
    es.length = i → Rs.length = i → i ≤ l.length → (∀ V, F V = frm l (eOf es) V L i) → ∃ es' Rs' Ms', From P w0 K L mk m l D T i es Rs Ms es' Rs' Ms' := by
  have dlt : ∀ j o, l[j]? = some o → ∀ k ∈ Dn D j, k < j := by
    intro j
    induction j using Nat.strongRecOn with
    | _ j ih =>
      intro o ho k hk
      obtain ⟨q, hq, h | h⟩ := hc.deps j o ho k hk
      · subst h; exact hc.back j o ho q hq
      · have hqj := hc.back j o ho q hq
        have hql : q < l.length := by have := (List.getElem?_eq_some_iff.1 ho).1; omega
        have := ih q hqj l[q] (List.getElem?_eq_getElem hql) k h
        omega
  -- the step: one operation more at the front
  have cons : ∀ {i : Nat} {F : Sel → List Value} {es : List (Sel → Value)} {Rs : RList} {Ms : List (Sel → Mem)} {o : Oper} {e : Sel → Value} {r : Option (Sel → Prop)} {Mx : List (Sel → Mem)} {es' : List (Sel → Value)} {Rs' : RList} {Ms' : List (Sel → Mem)},
      es.length = i → Rs.length = i → l[i]? = some o → From P w0 K L mk m l D T (i + 1) (es ++ [e]) (Rs ++ [r]) (Ms ++ Mx) es' Rs' Ms' →
      ((es <+: es') ∧ (Rs <+: Rs') ∧ (Ms <+: Ms') ∧ eOf es' i = e ∧ Rs'.getD i none = r) := by
    intro i F es Rs Ms o e r Mx es' Rs' Ms' he hr ho hf
    refine ⟨snoc_pre hf.pe, snoc_pre hf.pr, (List.prefix_append _ _).trans hf.pm, ?_, ?_⟩
    · have := snoc_get hf.pe
      rw [he] at this
      funext V
      simp [eOf, this]
    · have := snoc_get hf.pr
      rw [hr] at this
      simp [this]
  induction h with
  | @pure i F es Rs Ms o e ho hT hw h dep k ih =>
    intro he hr hi hF
    have hil : i < l.length := (List.getElem?_eq_some_iff.1 ho).1
    have hd : dstOf l i = o.dst := by simp [dstOf, ho]
    obtain ⟨es', Rs', Ms', hf⟩ := ih (by simp [he]) (by simp [hr]) hil (fun V => by
      have h1 : eOf (es ++ [e]) i V = e V := by simp [eOf, ← he]
      have h2 : frm l (eOf (es ++ [e])) V L i = frm l (eOf es) V L i := frm_congr i fun j hj => eOf_pre (List.prefix_append _ _) (by omega) V
      simp only [frm, hd, h1, h2, hF V])
    obtain ⟨pe, pr, pm, hei, hri⟩ := cons (F := F) (Mx := []) he hr ho (by rw [List.append_nil]; exact hf)
    have hrel : relOf Rs' i = false := by simp only [relOf, hri]; rfl
    have hFi : ∀ V, frm l (eOf es') V L i = F V := fun V => by rw [hF V]; exact frm_congr i fun j hj => eOf_pre pe (by omega) V
    refine ⟨es', Rs', Ms', pe, pr, pm, hf.le, hf.lr, hf.lm, fun j hij hj o' ho' => ?_, hf.fin⟩
    rcases Nat.eq_or_lt_of_le hij with rfl | hlt
    · rw [ho] at ho'
      obtain rfl : o = o' := by simpa using ho'
      have hiT : i ∉ T := by simpa using hT
      refine ⟨fun V V' hV _ => by rw [hei]; exact dep V V' hV, fun V V' _ _ _ R hR => (by rw [hri] at hR; cases hR), fun h => (by rw [hrel] at h; cases h), fun h => absurd h hiT, fun h => (by rw [hrel] at h; cases h), fun _ V hV => ?_, fun p hp hpi => ?_⟩
      · rw [hFi V, if_pos (hw V), hei, hrel]
        simp only [Bool.false_eq_true, if_false]
        have hm0 := (h V (RD_of pr hr (dlt i o ho) hV)).rel
        refine ⟨_, .inl rfl, ?_⟩
        unfold memH
        split
        · exact hm0.more (hmk.trans (List.sublist_append_left _ _))
        · exact hm0
      · exfalso; apply hiT; rw [← hpi]; simp [hp]
    · exact hf.each j hlt hj o' ho'
  | @skip i F es Rs Ms o ho hT hw k ih =>
    intro he hr hi hF
    have hil : i < l.length := (List.getElem?_eq_some_iff.1 ho).1
    have hd : dstOf l i = o.dst := by simp [dstOf, ho]
    obtain ⟨es', Rs', Ms', hf⟩ := ih (by simp [he]) (by simp [hr]) hil (fun V => by
      have h1 : eOf (es ++ [fun _ => undef]) i V = undef := by simp [eOf, ← he]
      have h2 : frm l (eOf (es ++ [fun _ => undef])) V L i = frm l (eOf es) V L i := frm_congr i fun j hj => eOf_pre (List.prefix_append _ _) (by omega) V
      simp only [frm, hd, h1, h2, hF V])
    obtain ⟨pe, pr, pm, hei, hri⟩ := cons (F := F) (Mx := []) he hr ho (by rw [List.append_nil]; exact hf)
    have hrel : relOf Rs' i = false := by simp only [relOf, hri]; rfl
    have hFi : ∀ V, frm l (eOf es') V L i = F V := fun V => by rw [hF V]; exact frm_congr i fun j hj => eOf_pre pe (by omega) V
    refine ⟨es', Rs', Ms', pe, pr, pm, hf.le, hf.lr, hf.lm, fun j hij hj o' ho' => ?_, hf.fin⟩
    rcases Nat.eq_or_lt_of_le hij with rfl | hlt
    · rw [ho] at ho'
      obtain rfl : o = o' := by simpa using ho'
      have hiT : i ∉ T := by simpa using hT
      refine ⟨fun V V' _ _ => by rw [hei], fun V V' _ _ _ R hR => (by rw [hri] at hR; cases hR), fun h => (by rw [hrel] at h; cases h), fun h => absurd h hiT, fun h => (by rw [hrel] at h; cases h), fun _ V hV => ?_, fun p hp hpi => ?_⟩
      · rw [hFi V, if_neg (by rw [hw V]; simp), hei, hrel]
        simp
      · exfalso; apply hiT; rw [← hpi]; simp [hp]
    · exact hf.each j hlt hj o' ho'
  | @det i F es Rs Ms o e js ho hT hearly hj hw h dep k ih =>
    intro he hr hi hF
    have hil : i < l.length := (List.getElem?_eq_some_iff.1 ho).1
    have hd : dstOf l i = o.dst := by simp [dstOf, ho]
    obtain ⟨es', Rs', Ms', hf⟩ := ih (by simp [he]) (by simp [hr]) hil (fun V => by
      have h1 : eOf (es ++ [e]) i V = e V := by simp [eOf, ← he]
      have h2 : frm l (eOf (es ++ [e])) V L i = frm l (eOf es) V L i := frm_congr i fun j hj => eOf_pre (List.prefix_append _ _) (by omega) V
      simp only [frm, hd, h1, h2, hF V])
    obtain ⟨pe, pr, pm, hei, hri⟩ := cons (F := F) (Mx := []) he hr ho (by rw [List.append_nil]; exact hf)
    have hrel : relOf Rs' i = false := by simp only [relOf, hri]; rfl
    have hFi : ∀ V, frm l (eOf es') V L i = F V := fun V => by rw [hF V]; exact frm_congr i fun j hj => eOf_pre pe (by omega) V
    refine ⟨es', Rs', Ms', pe, pr, pm, hf.le, hf.lr, hf.lm, fun j hij hjl o' ho' => ?_, hf.fin⟩
    rcases Nat.eq_or_lt_of_le hij with rfl | hlt
    · rw [ho] at ho'
      obtain rfl : o = o' := by simpa using ho'
      have hiT : i ∉ T := by simpa using hT
      refine ⟨fun V V' hV _ => by rw [hei]; exact dep V V' hV, fun V V' _ _ _ R hR => (by rw [hri] at hR; cases hR), fun h => (by rw [hrel] at h; cases h), fun h => absurd h hiT, fun h => (by rw [hrel] at h; cases h), fun _ V hV => ?_, fun p hp hpi => ?_⟩
      · rw [hFi V, if_pos (hw V), hei, hrel]
        simp only [Bool.false_eq_true, if_false]
        refine ⟨_, .inl rfl, ?_⟩
        unfold memH
        rw [if_pos hearly]
        exact (h V (RD_of pr hr (dlt i o ho) hV)).more ((List.Sublist.refl m).append (flat_sub V ((List.isSublist_iff_sublist.1 hj).trans (jsOf_heads pr hr (Nat.le_of_lt hil)))))
      · exfalso; apply hiT; rw [← hpi]; simp [hp]
    · exact hf.each j hlt hjl o' ho'
  | @late i F es Rs Ms o e B ho hT hla hea hM hB hw h dep k ih =>
    intro he hr hi hF
    have hil : i < l.length := (List.getElem?_eq_some_iff.1 ho).1
    have hd : dstOf l i = o.dst := by simp [dstOf, ho]
    obtain ⟨es', Rs', Ms', hf⟩ := ih (by simp [he]) (by simp [hr]) hil (fun V => by
      have h1 : eOf (es ++ [e]) i V = e V := by simp [eOf, ← he]
      have h2 : frm l (eOf (es ++ [e])) V L i = frm l (eOf es) V L i := frm_congr i fun j hj => eOf_pre (List.prefix_append _ _) (by omega) V
      simp only [frm, hd, h1, h2, hF V])
    obtain ⟨pe, pr, pm, hei, hri⟩ := cons (F := F) (Mx := []) he hr ho (by rw [List.append_nil]; exact hf)
    have hrel : relOf Rs' i = false := by simp only [relOf, hri]; rfl
    have hFi : ∀ V, frm l (eOf es') V L i = F V := fun V => by rw [hF V]; exact frm_congr i fun j hj => eOf_pre pe (by omega) V
    refine ⟨es', Rs', Ms', pe, pr, pm, hf.le, hf.lr, hf.lm, fun j hij hjl o' ho' => ?_, hf.fin⟩
    rcases Nat.eq_or_lt_of_le hij with rfl | hlt
    · rw [ho] at ho'
      obtain rfl : o = o' := by simpa using ho'
      have hiT : i ∉ T := by simpa using hT
      refine ⟨fun V V' hV _ => by rw [hei]; exact dep V V' hV, fun V V' _ _ _ R hR => (by rw [hri] at hR; cases hR), fun h => (by rw [hrel] at h; cases h), fun h => absurd h hiT, fun h => (by rw [hrel] at h; cases h), fun _ V hV => ?_, fun p hp hpi => ?_⟩
      · rw [hFi V, if_pos (hw V), hei, hrel]
        simp only [Bool.false_eq_true, if_false]
        have hne : Ms.length ≠ 0 := fun h0 => by
          rw [← hM] at h0
          rw [List.length_eq_zero_iff.1 h0] at hea; cases hea
        have hb := getLast_pre pm (hB V)
        rw [if_neg hne] at hb
        refine ⟨B V, .inr ⟨hla, hea, by rw [hM]; exact hb⟩, h V (RD_of pr hr (dlt i o ho) hV)⟩
      · exfalso; apply hiT; rw [← hpi]; simp [hp]
    · exact hf.each j hlt hjl o' ho'
  | @rel i F es Rs Ms o R js ho hT hearly hj hw h dep k ih =>
    intro he hr hi hF
    have hil : i < l.length := (List.getElem?_eq_some_iff.1 ho).1
    have hd : dstOf l i = o.dst := by simp [dstOf, ho]
    obtain ⟨es', Rs', Ms', hf⟩ := ih (by simp [he]) (by simp [hr]) hil (fun V => by
      have h1 : eOf (es ++ [fun V => (V i).1]) i V = (V i).1 := by simp [eOf, ← he]
      have h2 : frm l (eOf (es ++ [fun V => (V i).1])) V L i = frm l (eOf es) V L i := frm_congr i fun j hj => eOf_pre (List.prefix_append _ _) (by omega) V
      simp only [frm, hd, h1, h2, hF V])
    obtain ⟨pe, pr, pm, hei, hri⟩ := cons (F := F) (Mx := []) he hr ho (by rw [List.append_nil]; exact hf)
    have hrel : relOf Rs' i = true := by simp only [relOf, hri]; rfl
    have hFi : ∀ V, frm l (eOf es') V L i = F V := fun V => by rw [hF V]; exact frm_congr i fun j hj => eOf_pre pe (by omega) V
    have hRO : ∀ V, ROf Rs' i V ↔ R V := fun V => ⟨fun h => h R hri, fun h R' hR' => by rw [hri] at hR'; simp only [Option.some.injEq] at hR'; exact hR' ▸ h⟩
    have hall : ∀ t ∈ T, i ∈ Dn D t := fun t ht => by
      have := List.all_eq_true.1 hearly t ht
      simpa using this
    refine ⟨es', Rs', Ms', pe, pr, pm, hf.le, hf.lr, hf.lm, fun j hij hjl o' ho' => ?_, hf.fin⟩
    rcases Nat.eq_or_lt_of_le hij with rfl | hlt
    · rw [ho] at ho'
      obtain rfl : o = o' := by simpa using ho'
      have hiT : i ∉ T := by simpa using hT
      refine ⟨fun V V' _ hV => by rw [hei]; simp only; rw [hV hrel], fun V V' hV hVi hR => (hRO V').2 (dep V V' hV hVi ((hRO V).1 hR)), fun _ V => by rw [hei], fun h => absurd h hiT, fun _ _ => hall, fun _ V hV => ?_, fun p hp hpi => ?_⟩
      · rw [hFi V, if_pos (hw V), hrel]
        simp only [if_true]
        refine ⟨_, .inl rfl, ?_⟩
        unfold memH
        have hea : early D T i = true := by
          cases T with
          | nil => rfl
          | cons t T' => simpa [early] using hall t (by simp)
        rw [if_pos hea]
        exact ((h V (RD_of pr hr (dlt i o ho) hV)).more ((List.Sublist.refl m).append (flat_sub V ((List.isSublist_iff_sublist.1 hj).trans (jsOf_heads pr hr (Nat.le_of_lt hil)))))).weaken fun v mi hh => (hRO _).2 hh
      · exfalso; apply hiT; rw [← hpi]; simp [hp]
    · exact hf.each j hlt hjl o' ho'
  | @tail i F es Rs Ms o R B M ho hT hg hB h dep k ih =>
    intro he hr hi hF
    have hil : i < l.length := (List.getElem?_eq_some_iff.1 ho).1
    have hd : dstOf l i = o.dst := by simp [dstOf, ho]
    obtain ⟨es', Rs', Ms', hf⟩ := ih (by simp [he]) (by simp [hr]) hil (fun V => by
      have h1 : eOf (es ++ [fun V => (V i).1]) i V = (V i).1 := by simp [eOf, ← he]
      have h2 : frm l (eOf (es ++ [fun V => (V i).1])) V L i = frm l (eOf es) V L i := frm_congr i fun j hj => eOf_pre (List.prefix_append _ _) (by omega) V
      simp only [frm, hd, h1, h2, hF V])
    obtain ⟨pe, pr, pm, hei, hri⟩ := cons (F := F) he hr ho hf
    have hrel : relOf Rs' i = true := by simp only [relOf, hri]; rfl
    have hFi : ∀ V, frm l (eOf es') V L i = F V := fun V => by rw [hF V]; exact frm_congr i fun j hj => eOf_pre pe (by omega) V
    have hRO : ∀ V, ROf Rs' i V ↔ R V := fun V => ⟨fun h => h R hri, fun h R' hR' => by rw [hri] at hR'; simp only [Option.some.injEq] at hR'; exact hR' ▸ h⟩
    obtain ⟨hpT, hTi⟩ := List.getElem?_eq_some_iff.1 hT
    have hTi' : T.getD Ms.length 0 = i := by simp [hpT, hTi]
    have hiT : i ∈ T := by rw [← hTi]; exact List.getElem_mem hpT
    refine ⟨es', Rs', Ms', pe, pr, pm, hf.le, hf.lr, hf.lm, fun j hij hjl o' ho' => ?_, hf.fin⟩
    rcases Nat.eq_or_lt_of_le hij with rfl | hlt
    · rw [ho] at ho'
      obtain rfl : o = o' := by simpa using ho'
      refine ⟨fun V V' _ hV => by rw [hei]; simp only; rw [hV hrel], fun V V' hV hVi hR => (hRO V').2 (dep V V' hV hVi ((hRO V).1 hR)), fun _ V => by rw [hei], fun _ => hrel, fun _ hn => absurd hiT hn, fun hn => absurd hiT hn, fun p hp hpi V hV => ⟨by rw [hFi V]; exact hg V, ?_⟩⟩
      have hpM : p = Ms.length := by
        have h1 : T[p] = i := by simpa [hp] using hpi
        exact (List.getElem_inj hc.tnodup).1 (h1.trans hTi.symm)
      subst hpM
      have hmem : memT m l.length T (relOf Rs') (MOf Ms') Ms.length V = B V := by
        have hb := getLast_pre pm (hB V)
        rw [hb]
        unfold memT
        by_cases h0 : Ms.length = 0
        · rw [if_pos h0, if_pos h0, heads_all pr hr (Nat.le_of_lt hil) fun j hij' hjn hrj => ?_]
          by_cases hjT : j ∈ T
          · exact hjT
          · exfalso
            have hji : j ≠ i := fun e => hjT (e ▸ hiT)
            have ho'' : l[j]? = some l[j] := List.getElem?_eq_getElem hjn
            have := (hf.each j (by omega) hjn _ ho'').2.2.2.2.1 hrj hjT i hiT
            have := dlt i o ho j this
            omega
        · rw [if_neg h0, if_neg h0]
      rw [hmem, hFi V]
      refine fun w hw => Runs_mono (h V (RD_of pr hr (dlt i o ho) hV) w hw) ?_
      rintro v w' ⟨m', ⟨x, hx, rfl, hsub⟩, hm'⟩
      refine ⟨_, ⟨x, (hRO _).2 hx, ?_, hsub⟩, hm'⟩
      have := snoc_get hf.pm
      simp [MOf, this]
    · exact hf.each j hlt hjl o' ho'
  | @done i F es Rs Ms B hi' hT hB h =>
    intro he hr hi hF
    subst hi'
    refine ⟨es, Rs, Ms, List.prefix_refl _, List.prefix_refl _, List.prefix_refl _, he, hr, hT.symm, fun j h1 h2 => by omega, fun V hV => ?_⟩
    have hb := getLast_pre (List.prefix_refl Ms) (hB V)
    have hk := h V (fun j R hR => by
      by_cases hj : j < l.length
      · exact hV j hj R hR
      · simp [List.getElem?_eq_none (show Rs.length ≤ j by omega)] at hR)
    rw [hF V, hb] at hk
    unfold memT
    rw [hT]
    by_cases h0 : Ms.length = 0
    · rw [if_pos h0] at hk ⊢
      rw [heads_all (List.prefix_refl Rs) hr (Nat.le_refl _) fun j h1 h2 => by omega]
      exact hk
    · rw [if_neg h0] at hk ⊢; exact hk

/-- **A region that draws its order, walked in the order of the text.** -/
theorem WC_draw (D : List (List Nat)) (T : List Nat) (n : Nat) (mk : Mem) (hmk : mk.Sublist m) {id : Nat} (hm : P.follows .mixedOrders = true) (hn : L.length = n) (hc : chk l D T n = true) (h : RW P w0 K mk m l D T 0 (fun _ => L) [] [] []) : WC P w0 (.region id l.toArray true) K E L m := by
  subst hn
  have hC := chk_spec hc
  obtain ⟨es, Rs, Ms, hf⟩ := from_of_RW (L := L) hC hmk h rfl rfl (Nat.zero_le _) (fun V => rfl)
  refine WC_drawn (D := D) (T := T) (rel := relOf Rs) (e := eOf es) (R := ROf Rs) (M := MOf Ms) hm hc ⟨hmk, ?_, ?_, ?_, ?_, ?_, ?_, ?_⟩
  · intro i hi V
    by_cases hil : i < l.length
    · exact (hf.each i (Nat.zero_le _) hil _ (List.getElem?_eq_getElem hil)).2.2.1 hi V
    · have : Rs.getD i none = none := by simp [List.getElem?_eq_none (show Rs.length ≤ i by rw [hf.lr]; omega)]
      simp only [relOf, this] at hi; cases hi
  · intro t ht
    have hil := hC.tlt t ht
    exact (hf.each t (Nat.zero_le _) hil _ (List.getElem?_eq_getElem hil)).2.2.2.1 ht
  · intro i hi hil hiT
    exact (hf.each i (Nat.zero_le _) hil _ (List.getElem?_eq_getElem hil)).2.2.2.2.1 hi hiT
  · intro i j hi hil hjl hd hne V x
    have hj := hf.each j (Nat.zero_le _) hjl _ (List.getElem?_eq_getElem hjl)
    have hag : ∀ k ∈ Dn D j, updV V i x k = V k := fun k hk => updV_ne V x fun e => hd (e ▸ hk)
    have hjj : updV V i x j = V j := updV_ne V x hne
    exact ⟨hj.1 _ _ hag fun _ => hjj, fun _ hR => hj.2.1 V _ (fun k hk => (hag k hk).symm) hjj.symm hR⟩
  · intro i o ho hiT V hV
    have hil : i < l.length := (List.getElem?_eq_some_iff.1 ho).1
    exact (hf.each i (Nat.zero_le _) hil o ho).2.2.2.2.2.1 hiT V fun k hk => by
      by_cases hr : relOf Rs k = true
      · exact hV k hk hr
      · intro R hR
        simp only [relOf, hR] at hr
        simp at hr
  · intro p o hp ho
    have hil : T.getD p 0 < l.length := (List.getElem?_eq_some_iff.1 ho).1
    refine fun V hV => (hf.each _ (Nat.zero_le _) hil o ho).2.2.2.2.2.2 p hp rfl V fun k hk => ?_
    by_cases hr : relOf Rs k = true
    · exact hV k hk hr
    · intro R hR
      simp only [relOf, hR] at hr
      simp at hr
  · intro V hV
    exact hf.fin V fun j hj => by
      by_cases hr : relOf Rs j = true
      · exact hV j hj hr
      · intro R hR
        simp only [relOf, hR] at hr
        simp at hr
end
end Go.MW

namespace Go.MW
open Go.RowKit

/-- A slice value with n elements at the head of a block of one's own; or nil. -/
def RowV (t : TypeId) (n : Nat) (g : Nat → Value) (v : Value) (e : Option Nat × Obj) : Prop :=
  (v = .slice none 0 0 ∧ n = 0 ∧ e.1 = none) ∨
  ∃ b c cur, v = .slice (some ⟨b, 0, none⟩) n c ∧ e = (some b, .cells cur t (0, 0)) ∧ n ≤ c ∧ c ≤ maxLen ∧ cur.size = c ∧ ∀ i, i < n → cur[i]? = some (g i)
abbrev RowN (k : IntKind) (t : TypeId) (n : Nat) (f : Nat → Nat) (v : Value) (e : Option Nat × Obj) : Prop := RowV t n (fun i => vn k (f i)) v e

def catV {α : Type} (f : Nat → α) (n : Nat) (g : Nat → α) : Nat → α := fun i => if i < n then f i else g (i - n)

theorem RowV.nil (t : TypeId) (g : Nat → Value) (o : Obj) : RowV t 0 g (.slice none 0 0) (none, o) := .inl ⟨rfl, rfl, rfl⟩
theorem RowV.pos {t : TypeId} {n : Nat} {g : Nat → Value} {v : Value} {e : Option Nat × Obj} (h : RowV t n g v e) (hn : 0 < n) :
    ∃ b c cur, v = .slice (some ⟨b, 0, none⟩) n c ∧ e = (some b, .cells cur t (0, 0)) ∧ n ≤ c ∧ c ≤ maxLen ∧ cur.size = c ∧ ∀ i, i < n → cur[i]? = some (g i) := by
  rcases h with ⟨_, h0, _⟩ | h
  · omega
  · exact h
theorem RowV.congr {t : TypeId} {n : Nat} {g g' : Nat → Value} {v : Value} {e : Option Nat × Obj} (h : RowV t n g v e) (hg : ∀ i, i < n → g i = g' i) : RowV t n g' v e := by
  rcases h with h | ⟨b, c, cur, h1, h2, h3, h4, h5, h6⟩
  · exact .inl h
  · exact .inr ⟨b, c, cur, h1, h2, h3, h4, h5, fun i hi => by rw [h6 i hi, hg i hi]⟩
theorem RowN.congr {k : IntKind} {t : TypeId} {n : Nat} {f f' : Nat → Nat} {v : Value} {e : Option Nat × Obj} (h : RowN k t n f v e) (hf : ∀ i, i < n → f i = f' i) : RowN k t n f' v e :=
  RowV.congr h fun i hi => by rw [hf i hi]
/-- A slice value reads as n integers. -/
def Rd (w : World) (k : IntKind) (n : Nat) (f : Nat → Nat) (v : Value) : Prop := ∃ p c b o, v = .slice p n c ∧ (0 < n → p = some ⟨b, o, none⟩) ∧ ∀ i, i < n → w.cell? ⟨b, o + i, none⟩ = some (vn k (f i))
theorem Rd.far {w0 w : World} {m : Mem} (hw : Has w0 m w) {k : IntKind} {n : Nat} {f : Nat → Nat} {v : Value} (h : Rd w0 k n f v) : Rd w k n f v := by
  obtain ⟨p, c, b, o, h1, h2, h3⟩ := h
  exact ⟨p, c, b, o, h1, h2, fun i hi => hw.far (h3 i hi)⟩
theorem Rd.row {w0 w : World} {m : Mem} (hw : Has w0 m w) (i : Nat) {e : Option Nat × Obj} (hm : m[i]? = some e) {k : IntKind} {t : TypeId} {n : Nat} {f : Nat → Nat} {v : Value} (h : RowN k t n f v e) : Rd w k n f v := by
  rcases h with ⟨rfl, rfl, _⟩ | ⟨b, c, cur, rfl, rfl, _, _, _, h6⟩
  · exact ⟨none, 0, 0, 0, rfl, fun h => by omega, fun j hj => by omega⟩
  · exact ⟨_, c, b, 0, rfl, fun _ => rfl, fun j hj => by rw [Nat.zero_add]; simp [World.cell?, hw.at i hm, h6 j hj]⟩
theorem Rd.arr {w0 w : World} {m : Mem} (hw : Has w0 m w) (i : Nat) {b : Nat} {k : IntKind} {n n' : Nat} {f : Nat → Nat} {t : TypeId} {fz : Nat × Nat} {c : Nat} (hm : m[i]? = some (some b, .cells (arr k n f) t fz)) (hn : n' ≤ n) : Rd w k n' f (.slice (some ⟨b, 0, none⟩) n' c) :=
  ⟨_, c, b, 0, rfl, fun _ => rfl, fun j hj => hw.cellA i hm j (by omega)⟩
theorem Rd.cells {w0 w : World} {m : Mem} (hw : Has w0 m w) (i : Nat) {b : Nat} {k : IntKind} {n o : Nat} {f : Nat → Nat} {cur : Array Value} {t : TypeId} {fz : Nat × Nat} {c : Nat} (hm : m[i]? = some (some b, .cells cur t fz)) (hc : ∀ j, j < n → cur[o + j]? = some (vn k (f j))) : Rd w k n f (.slice (some ⟨b, o, none⟩) n c) :=
  ⟨_, c, b, o, rfl, fun _ => rfl, fun j hj => by simp [World.cell?, hw.at i hm, hc j hj]⟩
theorem Rd.nil (w : World) (k : IntKind) (f : Nat → Nat) : Rd w k 0 f (.slice none 0 0) := ⟨none, 0, 0, 0, rfl, fun h => by omega, fun j hj => by omega⟩
theorem Rd.zero (w : World) (k : IntKind) (f : Nat → Nat) (p : Option Addr) (c : Nat) : Rd w k 0 f (.slice p 0 c) := ⟨p, c, 0, 0, rfl, fun h => by omega, fun j hj => by omega⟩
theorem Rd.take {w : World} {k : IntKind} {n c l : Nat} {f : Nat → Nat} {p : Option Addr} (h : Rd w k n f (.slice p n c)) (hl : l ≤ n) : Rd w k l f (.slice p l c) := by
  obtain ⟨p', c', b, o, h1, h2, h3⟩ := h
  simp only [Value.slice.injEq] at h1
  obtain ⟨rfl, _, rfl⟩ := h1
  exact ⟨_, _, b, o, rfl, fun hn => h2 (by omega), fun i hi => h3 i (by omega)⟩
theorem Rd.drop {w : World} {k : IntKind} {n c l : Nat} {f : Nat → Nat} {p : Option Addr} (h : Rd w k n f (.slice p n c)) (hl : l ≤ n) (hc : n ≤ c) : Rd w k (n - l) (fun i => f (l + i)) (.slice (if c = l then p else p.map (·.add l)) (n - l) (c - l)) := by
  obtain ⟨p', c', b, o, h1, h2, h3⟩ := h
  simp only [Value.slice.injEq] at h1
  obtain ⟨rfl, _, rfl⟩ := h1
  refine ⟨_, _, b, o + l, rfl, fun hn => ?_, fun i hi => by rw [Nat.add_assoc]; exact h3 (l + i) (by omega)⟩
  rw [if_neg (by omega), h2 (by omega)]
  simp [Addr.add_lit]
theorem Rd.congr {w : World} {k : IntKind} {n : Nat} {f f' : Nat → Nat} {v : Value} (h : Rd w k n f v) (hf : ∀ i, i < n → f i = f' i) : Rd w k n f' v := by
  obtain ⟨p, c, b, o, h1, h2, h3⟩ := h
  exact ⟨p, c, b, o, h1, h2, fun i hi => by rw [h3 i hi, hf i hi]⟩

section
variable {P : Program} {w0 : World} {K : List Value → Mem → Prop} {E : Exit → List Value → Mem → Prop} {L : List Value} {m : Mem}

theorem WL.forget {ops : Array Oper} {l : List Oper} {m' : Mem} (hs : m'.Sublist m) (h : WL P w0 ops K E l L m') : WL P w0 ops K E l L m := fun w hw => h w (hw.sub hs)
/-- A place for a block to come. -/
theorem Has.addNone {w : World} (hw : Has w0 m w) (o : Obj) : Has w0 (m ++ [(none, o)]) w :=
  ⟨hw.below, fun b o' h => by
    rcases List.mem_append.1 h with h | h
    · exact hw.blk b o' h
    · simp at h, by rw [List.filterMap_append]; simpa using hw.nodup⟩
theorem WC.addNone {c : Code} (o : Obj) (h : WC P w0 c K E L (m ++ [(none, o)])) : WC P w0 c K E L m := fun w hw => h w (hw.addNone o)
theorem WL.addNone {ops : Array Oper} {l : List Oper} (o : Obj) (h : WL P w0 ops K E l L (m ++ [(none, o)])) : WL P w0 ops K E l L m := fun w hw => h w (hw.addNone o)

variable {ρ : Operand → Value} {dst : Option Tmp} {ty : TypeId} {pos : String} {after : Array Edge} {gd : Option (Nat × Bool)} {x y s : Operand} {T : TypeId}

/-- What a slice in a new block is. -/
def IsSl (n : Nat) (c : Array Value) (t : TypeId) (v : Value) (mi : Mem) : Prop := ∃ b, v = .slice (some ⟨b, 0, none⟩) n n ∧ mi = [(some b, .cells c t (0, 0))]
def blkS : Value → Nat
  | .slice (some a) _ _ => a.block
  | _ => 0
theorem IsSl.ptr {n : Nat} {c : Array Value} {t : TypeId} {v : Value} {mi : Mem} (h : IsSl n c t v mi) : v = .slice (some ⟨blkS v, 0, none⟩) n n := by obtain ⟨b, rfl, _⟩ := h; rfl
theorem IsSl.mem {n : Nat} {c : Array Value} {t : TypeId} {v : Value} {mi : Mem} (h : IsSl n c t v mi) : mi = [(some (blkS v), .cells c t (0, 0))] := by obtain ⟨b, rfl, rfl⟩ := h; rfl

theorem madeCells_one (k : IntKind) (z : Array Value) (hz : z = #[vn k 0]) (n : Nat) : madeCells z n = arr k n fun _ => 0 := by
  subst hz
  exact arr_ext (size_madeCells _ _) fun i hi => by simp [madeCells, hi, Nat.mod_one]
theorem rel_make {k : IntKind} {e : TypeId} {bytes : Nat} {n : Nat} (hu : P.underlying T = some (.slice e)) (hi : (P.info? e).map (fun i => (i.zero, i.size, i.bytes)) = some (some (vn k 0), 1, bytes)) (hx : ρ x = vn .i64 n) (hy : ρ y = vn .i64 n) (hb : bytes * n ≤ 281474976710656) (hn : n ≤ maxLen) :
    Rel P w0 m ρ ⟨dst, .makeSlice T x y, ty, pos, after, gd⟩ (IsSl n (arr k n fun _ => 0) e) := by
  intro w _
  obtain ⟨i, hi, hz0, hz1, hz2⟩ := info_parts hi
  have hr := run_make (P := P) w T e i _ hu hi hz0 .i64 .i64 (n : Int) (n : Int) (by omega) (Int.le_refl _) (by rw [hz2, ← Int.natCast_mul]; omega) (by simp only [maxLen] at hn; omega)
  have h : (execOp ρ ⟨dst, .makeSlice T x y, ty, pos, after, gd⟩).run P w = .ok (.value (.slice (some ⟨w.heap.size, 0, none⟩) n n)) (w.alloc (.cells (arr k n fun _ => 0) e (0, 0))) := by
    rw [hz1] at hr
    simp only [Int.toNat_natCast, Nat.mul_one] at hr
    rw [madeCells_one k (vn k 0).cells rfl] at hr
    simp [execOp, hx, hy, hr]
  unfold Runs
  rw [h]
  exact ⟨_, ⟨_, rfl, rfl⟩, Has.alloc w _⟩

theorem rel_lit1 {e : TypeId} {z v : Value} (hu : P.underlying T = some (.slice e)) (hz : ∀ w, (zeroValue e).run P w = .ok z w) (hs : ∀ w, (sizeOf e).run P w = .ok 1 w) (hx : ρ x = v) (hv : v.oneCell' = true) :
    Rel P w0 m ρ ⟨dst, .buildSlice T 1 #[(0, x)], ty, pos, after, gd⟩ (IsSl 1 #[v] e) := by
  intro w _
  subst hx
  have hc1 : (ρ x).cells = #[ρ x] := by cases h : ρ x <;> first | rfl | (rw [h] at hv; simp [Value.oneCell'] at hv)
  have h : (execOp ρ ⟨dst, .buildSlice T 1 #[(0, x)], ty, pos, after, gd⟩).run P w = .ok (.value (.slice (some ⟨w.heap.size, 0, none⟩) 1 1)) (w.alloc (.cells #[ρ x] e (0, 0))) := by
    simp [execOp, Instr.buildSlice, run_underlying hu, hs, hz, Instr.fill, hc1, newRow, Array.range_succ, Array.range_zero']
  unfold Runs
  rw [h]
  exact ⟨_, ⟨_, rfl, rfl⟩, Has.alloc w _⟩
theorem Has.newBlk {w w' : World} (hw : Has w0 m w) (i : Nat) {e : Option Nat × Obj} (hm : m[i]? = some e) (hb : Below w.heap.size w w') {b : Nat} {o : Obj} (hle : w.heap.size ≤ b) (ho : w'.heap[b]? = some o) : Has w0 (m.set i (some b, o)) w' := by
  refine ⟨hw.below.trans (hb.mono hw.below.size), ?_, ?_⟩
  · intro c x hc
    obtain ⟨j, hj⟩ := List.mem_iff_getElem?.1 hc
    by_cases hij : i = j
    · subst hij
      have hlt : i < m.length := (List.getElem?_eq_some_iff.1 hm).1
      rw [List.getElem?_set_self hlt] at hj
      simp only [Option.some.injEq, Prod.mk.injEq] at hj
      obtain ⟨rfl, rfl⟩ := hj
      exact ⟨Nat.le_trans hw.below.size hle, ho⟩
    · rw [List.getElem?_set_ne hij] at hj
      obtain ⟨h1, h2⟩ := hw.blk c x (List.mem_of_getElem? hj)
      exact ⟨h1, (hb.block c (lt_of_heap h2)).trans h2⟩
  · have key : ∀ (m : Mem) (i : Nat), (m.filterMap Prod.fst).Nodup → (∀ c, c ∈ m.filterMap Prod.fst → c < b) → ((m.set i (some b, o)).filterMap Prod.fst).Nodup := by
      intro m
      induction m with
      | nil => intro i _ _; simp
      | cons x m ih =>
        intro i hn hlt
        have hn' : (m.filterMap Prod.fst).Nodup := by
          rw [List.filterMap_cons] at hn
          cases hf : x.1 with
          | none => rw [hf] at hn; exact hn
          | some k => rw [hf] at hn; exact (List.nodup_cons.1 hn).2
        have hlt' : ∀ c, c ∈ m.filterMap Prod.fst → c < b := fun c hc => hlt c (by
          obtain ⟨o', ho'⟩ := mem_keys.1 hc
          exact mem_keys.2 ⟨o', by simp [ho']⟩)
        cases i with
        | zero =>
          rw [List.set_cons_zero, List.filterMap_cons]
          exact List.nodup_cons.2 ⟨fun h => by have := hlt' b h; omega, hn'⟩
        | succ i =>
          rw [List.set_cons_succ, List.filterMap_cons]
          cases hf : x.1 with
          | none => exact ih i hn' hlt'
          | some k =>
            refine List.nodup_cons.2 ⟨fun h => ?_, ih i hn' hlt'⟩
            obtain ⟨o', ho'⟩ := mem_keys.1 h
            rcases List.mem_or_eq_of_mem_set ho' with h2 | h2
            · rw [List.filterMap_cons, hf] at hn
              exact (List.nodup_cons.1 hn).1 (mem_keys.2 ⟨o', h2⟩)
            · simp only [Prod.mk.injEq, Option.some.injEq] at h2
              have := hlt k (mem_keys.2 ⟨x.2, by rw [← hf]; simp⟩)
              omega
    exact key m i hw.nodup fun c hc => by
      obtain ⟨o', ho'⟩ := mem_keys.1 hc
      have := lt_of_heap (hw.blk c o' ho').2
      omega

theorem listRange_get {α : Type} (g : Nat → α) {n j : Nat} {u : α} (h : ((List.range n).map g)[j]? = some u) : j < n ∧ u = g j := by
  by_cases hj : j < n
  · simp [hj] at h; exact ⟨hj, h.symm⟩
  · simp [hj] at h

theorem chg_append (i : Nat) {e : Option Nat × Obj} {t : TypeId} {n q c' b' o' bytes : Nat} {g g' : Nat → Value} {v z : Value} (hm : m[i]? = some e) (hr : RowV t n g v e) (hs : ρ s = v) (hx : ρ x = .slice (some ⟨b', o', none⟩) q c') (hq : 0 < q)
    (hc : ∀ w, Has w0 m w → ∀ j, j < q → w.cell? ⟨b', o' + j, none⟩ = some (g' j)) (h1 : ∀ j, j < q → (g' j).oneCell' = true)
    (hu : P.underlying T = some (.slice t)) (hi : (P.info? t).map (fun i => (i.zero, i.size, i.bytes)) = some (some z, 1, bytes)) (hz : z.cells.size = 1) (hbound : n + q ≤ 1099511627776) (hby : bytes ≤ 64) :
    Chg P w0 m ρ ⟨dst, .call { callee := .builtin .append, args := #[s, x], argTypes := #[T, T] }, ty, pos, after, gd⟩ (fun v' m' => ∃ e', RowV t (n + q) (catV g n g') v' e' ∧ m' = m.set i e') := by
  intro w hw
  obtain ⟨inf, hi, hz0, hz1, hz2⟩ := info_parts hi
  have hml : ((List.range q).map g').length = q * inf.size := by rw [hz1]; simp
  have hnews : ∀ j u, ((List.range q).map g')[j]? = some u → w.cell? ((⟨b', o', none⟩ : Addr).add j) = some u := by
    intro j u hj
    obtain ⟨hlt, rfl⟩ := listRange_get g' hj
    rw [Addr.add_lit]; exact hc w hw j hlt
  have hbb : (n + q) * inf.bytes ≤ 140737488355328 := by
    rw [hz2]
    have := Nat.mul_le_mul hbound hby
    omega
  have fin : ∀ (v' : Value) (w' : World), (Builtin.append_ #[T, T] ty #[v, .slice (some ⟨b', o', none⟩) q c']).run P w = .ok v' w' → (∃ e', RowV t (n + q) (catV g n g') v' e' ∧ Has w0 (m.set i e') w') →
      Runs P ⟨dst, .call { callee := .builtin .append, args := #[s, x], argTypes := #[T, T] }, ty, pos, after, gd⟩ ρ w (fun v' w' => ∃ m', (∃ e', RowV t (n + q) (catV g n g') v' e' ∧ m' = m.set i e') ∧ Has w0 m' w') := by
    intro v' w' hrun ⟨e', h1, h2⟩
    have he : (execOp ρ ⟨dst, .call { callee := .builtin .append, args := #[s, x], argTypes := #[T, T] }, ty, pos, after, gd⟩).run P w = .ok (.value v') w' := by
      simp [execOp, resolve, invoke, builtin, hs, hx, hrun]
    unfold Runs
    rw [he]
    exact ⟨_, ⟨e', h1, rfl⟩, h2⟩
  -- what is new lies in a new block
  have newb : ∀ (olds : List Value), olds.length = n → (∀ j, j < n → olds[j]? = some (g j)) → ∀ (cap : Nat), n + q ≤ cap → cap ≤ maxLen →
      ∃ e', RowV t (n + q) (catV g n g') (.slice (some ⟨w.heap.size, 0, none⟩) (n + q) cap) e' ∧
        Has w0 (m.set i e') (w.drew.alloc (.cells (olds.toArray ++ ((List.range q).map g').toArray ++ Builtin.zeroCells z.cells (cap - (n + q))) t)) := by
    intro olds hol hog cap hcap hmax
    refine ⟨(some w.heap.size, .cells (olds.toArray ++ ((List.range q).map g').toArray ++ Builtin.zeroCells z.cells (cap - (n + q))) t (0, 0)), .inr ⟨w.heap.size, cap, _, rfl, rfl, hcap, hmax, ?_, ?_⟩, ?_⟩
    · simp [size_zeroCells, hz, hol]; omega
    · intro j hj
      simp only [catV]
      rw [Array.getElem?_append_left (by simp [hol]; omega)]
      by_cases hjn : j < n
      · rw [if_pos hjn, Array.getElem?_append_left (by simp [hol, hjn])]
        simpa using hog j hjn
      · rw [if_neg hjn, Array.getElem?_append_right (by simp [hol]; omega)]
        simp [hol, show j - n < q by omega]
    · exact hw.newBlk i hm ((Below.refl _ _).drew.alloc (Nat.le_refl _) _) (Nat.le_refl _) (heap_alloc_new w.drew _)
  rcases hr with ⟨rfl, rfl, hke⟩ | ⟨b, c, cur, rfl, rfl, hnc, hcm, hcs, hcur⟩
  · have hrun := run_append_nil (P := P) w T ty t inf z hu hi hz0 ⟨b', o', none⟩ q c' _ hml hnews hq (by omega) (by rw [Nat.zero_add] at hbb; omega)
    refine fin _ _ hrun ?_
    have := newb [] rfl (fun j hj => by omega) (grownCap w q 0 t) (by have := grownCap_ge w q 0 t; omega) (grownCap_le_maxLen w q 0 t (by simp only [maxLen]; omega))
    simpa using this
  · by_cases hroom : n + q ≤ c
    · have hblk := hw.at i hm
      have hfit : n * inf.size + ((List.range q).map g').length ≤ cur.size := by rw [hml, hz1, hcs]; omega
      have hrun := run_append_room (P := P) w T ty t inf hu hi b n c cur hblk ⟨b', o', none⟩ q c' _ hml hnews (fun u hu => by
        obtain ⟨j, hj, rfl⟩ := List.mem_map.1 hu
        exact h1 j (by simpa using hj)) hroom hfit
      refine fin _ _ hrun ⟨_, .inr ⟨b, c, _, rfl, rfl, hroom, hcm, ?_, ?_⟩, hw.setRow i hm _⟩
      · simp [hz1]; omega
      · intro j hj
        simp only [catV, hz1, Nat.mul_one, List.length_map, List.length_range]
        by_cases hjn : j < n
        · rw [if_pos hjn]
          have := hcur j hjn
          simp only [List.getElem?_toArray]
          rw [List.append_assoc, List.getElem?_append_left (by simp; omega)]
          simp [hjn]
          simpa using this
        · rw [if_neg hjn]
          simp only [List.getElem?_toArray]
          rw [List.getElem?_append_left (by simp; omega), List.getElem?_append_right (by simp; omega)]
          simp [show min n cur.size = n by omega, show j - n < q by omega]
    · have hblk := hw.at i hm
      have hol : ((List.range n).map g).length = n * inf.size := by rw [hz1]; simp
      have holds : ∀ j u, ((List.range n).map g)[j]? = some u → w.cell? ((⟨b, 0, none⟩ : Addr).add j) = some u := by
        intro j u hj
        obtain ⟨hlt, rfl⟩ := listRange_get g hj
        rw [Addr.add_lit, Nat.zero_add]
        simp [World.cell?, hblk, hcur j hlt]
      have hrun := run_append_grow (P := P) w T ty t inf z hu hi hz0 ⟨b, 0, none⟩ n c _ hol holds ⟨b', o', none⟩ q c' _ hml hnews (by omega) (by omega) (growslice_fits (by omega) hbb)
      refine fin _ _ hrun ?_
      exact newb _ (by simp) (fun j hj => by simp [hj]) (grownCap w (n + q) c t) (grownCap_ge w (n + q) c t) (grownCap_le_maxLen w (n + q) c t (by simp only [maxLen]; omega))

/-- .. of one thing that a literal holds, the literal's block forgotten. -/
theorem chg_append1 (i j : Nat) {e : Option Nat × Obj} {t t' : TypeId} {n c' b' bytes : Nat} {g : Nat → Value} {v z u : Value} {fz : Nat × Nat} (hm : m[i]? = some e) (hr : RowV t n g v e) (hs : ρ s = v) (hx : ρ x = .slice (some ⟨b', 0, none⟩) 1 c') (hj : m[j]? = some (some b', .cells #[u] t' fz)) (h1 : u.oneCell' = true)
    (hu : P.underlying T = some (.slice t)) (hi : (P.info? t).map (fun i => (i.zero, i.size, i.bytes)) = some (some z, 1, bytes)) (hz : z.cells.size = 1) (hbound : n + 1 ≤ 1099511627776) (hby : bytes ≤ 64) :
    Chg P w0 m ρ ⟨dst, .call { callee := .builtin .append, args := #[s, x], argTypes := #[T, T] }, ty, pos, after, gd⟩ (fun v' m' => ∃ e', RowV t (n + 1) (catV g n fun _ => u) v' e' ∧ m' = (m.set i e').eraseIdx j) := by
  intro w hw
  have h := chg_append (ρ := ρ) (dst := dst) (ty := ty) (pos := pos) (after := after) (gd := gd) (T := T) (s := s) (x := x) (g' := fun _ => u) i hm hr hs hx (by decide) (fun w hw q hq => by
    obtain rfl : q = 0 := by omega
    simp [World.cell?, hw.at j hj]) (fun _ _ => h1) hu hi hz hbound hby w hw
  refine Runs_mono h ?_
  rintro v' w' ⟨m', ⟨e', h1, rfl⟩, h2⟩
  exact ⟨_, ⟨e', h1, rfl⟩, h2.sub (List.eraseIdx_sublist _ _)⟩

theorem det_idxS0 {b n c j e : Nat} {a : Int} {k : IntKind} (hu : P.underlying T = some (.slice e)) (hz : ∀ w, (sizeOf e).run P w = .ok 1 w) (hx : ρ x = .slice (some ⟨b, 0, none⟩) n c) (hy : ρ y = .int k a) (hj : a = (j : Int)) (h : j < n) :
    Det P w0 m ρ ⟨dst, .indexAddr T x y, ty, pos, after, gd⟩ (.pointer (some ⟨b, j, none⟩)) := by
  have := det_idxS (P := P) (w0 := w0) (m := m) (dst := dst) (ty := ty) (pos := pos) (after := after) (gd := gd) hu hz hx hy hj h rfl
  rwa [Nat.zero_add] at this
end

theorem RowN.mk {k : IntKind} {t : TypeId} {n b c : Nat} {f : Nat → Nat} {cur : Array Value} (h1 : n ≤ c) (h2 : c ≤ maxLen) (h3 : cur.size = c) (h4 : ∀ i, i < n → cur[i]? = some (vn k (f i))) : RowN k t n f (.slice (some ⟨b, 0, none⟩) n c) (some b, .cells cur t (0, 0)) :=
  .inr ⟨b, c, cur, rfl, rfl, h1, h2, h3, h4⟩
end Go.MW

namespace Go.MW
open Go.RowKit

section
variable {P : Program} {w0 : World} {m : Mem} {ρ : Operand → Value} {o : Oper}
theorem Det.bv {b : Bool} (b' : Bool) (h : Det P w0 m ρ o (.bool b)) (hb : b = b') : Det P w0 m ρ o (.bool b') := hb ▸ h
end
section
variable {P : Program} {w0 : World} {K : List Value → Mem → Prop} {E : Exit → List Value → Mem → Prop} {L : List Value} {m : Mem} {ops : Array Oper} {rest : List Oper} {o : Oper}
theorem WL_chgG {R : Value → Mem → Prop} (hg : Region.wanted o (yielded ops L.toArray) = true) (h : Chg P w0 m (ev L) o R) (k : ∀ v m', R v m' → WL P w0 ops K E rest (put L o.dst v) m') :
    WL P w0 ops K E (o :: rest) L m := by
  intro w hw
  unfold wpList
  rw [if_pos (by simpa [fr] using hg)]
  refine .inl (Runs.upon (h w hw) ?_)
  rintro v w' ⟨m', hr, hh⟩
  exact k v m' hr w' hh
theorem WL_relG {R : Value → Mem → Prop} (hg : Region.wanted o (yielded ops L.toArray) = true) (h : Rel P w0 m (ev L) o R) (k : ∀ v mi, R v mi → WL P w0 ops K E rest (put L o.dst v) (m ++ mi)) :
    WL P w0 ops K E (o :: rest) L m :=
  WL_chgG hg h.chg fun v _ ⟨mi, hm, hr⟩ => hm ▸ k v mi hr
theorem WL_detG {v : Value} (hg : Region.wanted o (yielded ops L.toArray) = true) (h : Det P w0 m (ev L) o v) (k : WL P w0 ops K E rest (put L o.dst v) m) : WL P w0 ops K E (o :: rest) L m := by
  refine WL_relG hg h.rel ?_
  rintro v' mi ⟨rfl, rfl⟩
  rwa [List.append_nil]
theorem WL_skipG (hg : Region.wanted o (yielded ops L.toArray) = false) (k : WL P w0 ops K E rest (put L o.dst undef) m) : WL P w0 ops K E (o :: rest) L m := by
  intro w hw
  unfold wpList
  rw [if_neg (by simpa [fr] using hg)]
  rw [put_fr]; exact k w hw
end
end Go.MW

namespace Go.MW

end Go.MW

namespace Go.MW
open Go.RowKit

section
variable {P : Program} {w0 : World} {K : List Value → Mem → Prop} {E : Exit → List Value → Mem → Prop} {L : List Value} {m : Mem}
variable {ρ : Operand → Value} {dst : Option Tmp} {ty : TypeId} {pos : String} {after : Array Edge} {gd : Option (Nat × Bool)} {x y s : Operand} {T T' : TypeId}

end

/-- One piece more of what is put together. -/
theorem RowN.more {k : IntKind} {t : TypeId} {n q : Nat} {f g : Nat → Nat} {v : Value} {e : Option Nat × Obj} (h : RowN k t (n + q) (catV f n g) v e) (hg : ∀ j, j < q → f (n + j) = g j) : RowN k t (n + q) f v e :=
  RowN.congr h fun i hi => by
    unfold catV
    split
    · rfl
    · rw [← hg (i - n) (by omega), show n + (i - n) = i by omega]

/-- A slice that reads n integers of a row of one's own. -/
def SubN (k : IntKind) (t : TypeId) (n : Nat) (f : Nat → Nat) (v : Value) (e : Option Nat × Obj) : Prop :=
  ∃ p c b o cur, v = .slice p n c ∧ n ≤ c ∧ (0 < n → p = some ⟨b, o, none⟩ ∧ e = (some b, .cells cur t (0, 0)) ∧ ∀ i, i < n → cur[o + i]? = some (vn k (f i)))
theorem SubN.congr {k : IntKind} {t : TypeId} {n : Nat} {f f' : Nat → Nat} {v : Value} {e : Option Nat × Obj} (h : SubN k t n f v e) (hf : ∀ i, i < n → f i = f' i) : SubN k t n f' v e := by
  obtain ⟨p, c, b, o, cur, h1, h2, h3⟩ := h
  exact ⟨p, c, b, o, cur, h1, h2, fun hn => ⟨(h3 hn).1, (h3 hn).2.1, fun i hi => by rw [(h3 hn).2.2 i hi, hf i hi]⟩⟩
theorem SubN.rd {w0 w : World} {m : Mem} (hw : Has w0 m w) (i : Nat) {e : Option Nat × Obj} (hm : m[i]? = some e) {k : IntKind} {t : TypeId} {n : Nat} {f : Nat → Nat} {v : Value} (h : SubN k t n f v e) : Rd w k n f v := by
  obtain ⟨p, c, b, o, cur, rfl, _, h3⟩ := h
  refine ⟨p, c, b, o, rfl, fun hn => (h3 hn).1, fun j hj => ?_⟩
  obtain ⟨_, rfl, h5⟩ := h3 (by omega)
  simp [World.cell?, hw.at i hm, h5 j hj]
theorem SubN.take {k : IntKind} {t : TypeId} {n h c : Nat} {f : Nat → Nat} {p : Option Addr} {e : Option Nat × Obj} (hs : SubN k t n f (.slice p n c) e) (hh : h ≤ n) : SubN k t h f (.slice p h c) e := by
  obtain ⟨p', c', b, o, cur, h1, h2, h3⟩ := hs
  simp only [Value.slice.injEq] at h1
  obtain ⟨rfl, _, rfl⟩ := h1
  exact ⟨_, _, b, o, cur, rfl, by omega, fun hn => ⟨(h3 (by omega)).1, (h3 (by omega)).2.1, fun i hi => (h3 (by omega)).2.2 i (by omega)⟩⟩
theorem SubN.drop {k : IntKind} {t : TypeId} {n l c : Nat} {f : Nat → Nat} {p : Option Addr} {e : Option Nat × Obj} (hs : SubN k t n f (.slice p n c) e) (hl : l ≤ n) : SubN k t (n - l) (fun i => f (l + i)) (.slice (if c = l then p else p.map (·.add l)) (n - l) (c - l)) e := by
  obtain ⟨p', c', b, o, cur, h1, h2, h3⟩ := hs
  simp only [Value.slice.injEq] at h1
  obtain ⟨rfl, _, rfl⟩ := h1
  refine ⟨_, _, b, o + l, cur, rfl, by omega, fun hn => ?_⟩
  obtain ⟨rfl, rfl, h6⟩ := h3 (by omega)
  have hc : ¬ c = l := by omega
  rw [if_neg hc]
  refine ⟨by simp [Addr.add_lit], rfl, fun i hi => ?_⟩
  rw [Nat.add_assoc]
  exact h6 (l + i) (by omega)
end Go.MW

namespace Go.MW
section
variable {P : Program} {w0 : World} {m : Mem} {ρ : Operand → Value} {dst : Option Tmp} {ty : TypeId} {pos : String} {after : Array Edge} {gd : Option (Nat × Bool)} {T : TypeId}
theorem rel_lit {n : Nat} {e : TypeId} {z : Value} {c : Array Value} {parts : Array (Nat × Operand)} (hu : P.underlying T = some (.slice e)) (hz : ∀ w, (zeroValue e).run P w = .ok z w) (hs : ∀ w, (sizeOf e).run P w = .ok 1 w) (hn : 0 < n) (hb : n ≤ 16777216)
    (hf : Instr.fill (fun i => some (i, 1)) ((Array.range n).map (z.cells[· % z.cells.size]!)) (parts.map fun p => (p.1, ρ p.2)).toList = some c) :
    Rel P w0 m ρ ⟨dst, .buildSlice T n parts, ty, pos, after, gd⟩ (IsSl n c e) := by
  intro w _
  have h : (execOp ρ ⟨dst, .buildSlice T n parts, ty, pos, after, gd⟩).run P w = .ok (.value (.slice (some ⟨w.heap.size, 0, none⟩) n n)) (w.alloc (.cells c e (0, 0))) := by
    have h0 : ¬ n = 0 := by omega
    have h1 : ¬ 16777216 < n := by omega
    simp only [execOp, Instr.buildSlice]
    simp [run_underlying hu, hs, hz, h0, h1, newRow]
    simp at hf
    simp [hf]
  unfold Runs
  rw [h]
  exact ⟨_, ⟨_, rfl, rfl⟩, Has.alloc w _⟩
end
end Go.MW

namespace Go.MW
open Go.RowKit

theorem calls_of_WCm {P : Program} {f : FuncId} {fn : Func} {c : Code} {args : List Value} {w0 : World} {m : Mem} {R : Value → Mem → Prop} (hf : P.funcs[f]? = some fn) (hb : fn.body = some c)
    (h : WC P w0 c (Fin P fn w0 R) (EFin P fn w0 R) (args ++ List.replicate (fn.ntmps - args.length) undef) m) {w : World} (hw0 : Has w0 m w) : Calls P f args.toArray w (Post w0 R) := by
  refine calls_of_wp hf hb ?_
  have hfr : ({ tmps := args.toArray ++ Array.replicate (fn.ntmps - args.toArray.size) undef, defers := [] } : Act) = fr (args ++ List.replicate (fn.ntmps - args.length) undef) := by
    simp [fr]
  rw [hfr]
  refine wp_mono (h w hw0) ?_
  intro e a w' hq
  cases e with
  | normal =>
    obtain ⟨L, m, rfl, hw, hk⟩ := hq
    obtain ⟨v, mi, hr, hR, hm⟩ := hk w' hw
    exact ⟨rfl, v, hr, v, mi, rfl, hR, hm⟩
  | ret =>
    obtain ⟨L, m, rfl, hw, hk⟩ := hq
    obtain ⟨v, mi, hr, hR, hm⟩ := hk w' hw
    exact ⟨rfl, v, hr, v, mi, rfl, hR, hm⟩
  | outgrown => exact hq.elim
  | panic c => exact hq.elim
  | exit id => obtain ⟨L, m, rfl, hw, hk⟩ := hq; exact hk.elim
  | goto l => obtain ⟨L, m, rfl, hw, hk⟩ := hq; exact hk.elim

section
variable {P : Program} {w0 : World} {m : Mem} {ρ : Operand → Value} {L : List Value}

/-- A call of a function that changes memory that its caller has. -/
theorem Chg_call {dst : Option Tmp} {x : Operand} {args : List Operand} {ats : Array TypeId} {ty : TypeId} {pos : String} {after : Array Edge} {gd : Option (Nat × Bool)} {f : FuncId} {R : Value → Mem → Prop}
    (hx : ρ x = .func (.func f) #[] #[]) (hc : ∀ as w, (callFunc f as).run P w = .ok (.enter f as) w)
    (h : ∀ w, Has w0 m w → Calls P f (args.map ρ).toArray w (Post w0 R)) :
    Chg P w0 m ρ ⟨dst, .call { callee := .value x, args := args.toArray, argTypes := ats }, ty, pos, after, gd⟩ R := by
  intro w hw
  have he : (execOp ρ ⟨dst, .call { callee := .value x, args := args.toArray, argTypes := ats }, ty, pos, after, gd⟩).run P w = .ok (.enter f (args.map ρ).toArray) w := by
    simp only [execOp, resolve, hx, Deferred.ofValue, Sem.run_bind, Sem.run_pure, Result.andThen_ok, invoke, List.map_toArray]
    rw [hc]
    simp
  unfold Runs
  rw [he]
  refine (h w hw).mono ?_
  rintro e w' ⟨v, mi, rfl, hr, hh⟩
  exact ⟨v, rfl, mi, hr, hh⟩

theorem perm_front {i : Nat} {e : Option Nat × Obj} (hm : m[i]? = some e) : (e :: m.eraseIdx i).Perm m := by
  induction m generalizing i with
  | nil => simp at hm
  | cons x m ih =>
    cases i with
    | zero => simp at hm; subst hm; exact List.Perm.refl _
    | succ i =>
      simp only [List.getElem?_cons_succ] at hm
      simp only [List.eraseIdx_cons_succ]
      exact (List.Perm.swap x e _).trans ((ih hm).cons x)
theorem perm_set {i : Nat} {e e' : Option Nat × Obj} (hm : m[i]? = some e) : (m.set i e').Perm (e' :: m.eraseIdx i) := by
  have hlt := (List.getElem?_eq_some_iff.1 hm).1
  have h := perm_front (m := m.set i e') (i := i) (e := e') (by rw [List.getElem?_set_self hlt])
  have h2 : (m.set i e').eraseIdx i = m.eraseIdx i := by
    clear h hm
    induction m generalizing i with
    | nil => simp at hlt
    | cons x m ih => cases i with
      | zero => simp
      | succ i => simp at hlt ⊢; exact ih hlt
  rw [h2] at h
  exact h.symm
/-- .. one block of it. -/
theorem Chg_callW (i : Nat) {e : Option Nat × Obj} {dst : Option Tmp} {x : Operand} {args : List Operand} {ats : Array TypeId} {ty : TypeId} {pos : String} {after : Array Edge} {gd : Option (Nat × Bool)} {f : FuncId} {R : Value → Option Nat × Obj → Prop}
    (hx : ρ x = .func (.func f) #[] #[]) (hc : ∀ as w, (callFunc f as).run P w = .ok (.enter f as) w) (hm : m[i]? = some e)
    (h : ∀ w m0, Has w0 (e :: m0) w → Calls P f (args.map ρ).toArray w (Post w0 fun v m' => ∃ e', R v e' ∧ m' = e' :: m0)) :
    Chg P w0 m ρ ⟨dst, .call { callee := .value x, args := args.toArray, argTypes := ats }, ty, pos, after, gd⟩ (fun v m' => ∃ e', R v e' ∧ m' = m.set i e') := by
  refine Chg_call hx hc fun w hw => ?_
  refine (h w (m.eraseIdx i) (hw.perm (perm_front hm))).mono ?_
  rintro e1 w' ⟨v, mi, rfl, ⟨e', hR, rfl⟩, hh⟩
  exact ⟨v, _, rfl, ⟨e', hR, rfl⟩, hh.perm (perm_set hm)⟩

end
end Go.MW

namespace Go.MW
open Go.RowKit
section
variable {P : Program} {w0 : World} {m : Mem} {ρ : Operand → Value} {dst : Option Tmp} {ty : TypeId} {pos : String} {after : Array Edge} {gd : Option (Nat × Bool)} {T : TypeId} {x : Operand}
theorem det_fieldAddr (off : Nat) {b o f s t : Nat} {fs : Array Field} (hu : P.underlying T = some (.struct fs)) (hf : (fs[f]?).map (fun d => (d.type, d.offset)) = some (t, off)) (hz : ∀ w, (sizeOf t).run P w = .ok (s + 1) w) (hx : ρ x = .pointer (some ⟨b, o, none⟩)) :
    Det P w0 m ρ ⟨dst, .fieldAddr T x f, ty, pos, after, gd⟩ (.pointer (some ⟨b, o + off, none⟩)) := fun w _ => by
  cases hg : fs[f]? with
  | none => rw [hg] at hf; cases hf
  | some fld =>
    rw [hg] at hf
    simp only [Option.map_some, Option.some.injEq, Prod.mk.injEq] at hf
    obtain ⟨rfl, rfl⟩ := hf
    simp [execOp, hx, Instr.fieldAt, run_underlying hu, hg, Instr.sureAddr, fieldPlace, hz, Addr.add_lit]
/-- A part of a tuple that is told by a variable. -/
def tg (v : Value) (i : Nat) : Value := match v with | .tuple vs => vs.getD i undef | _ => undef
end
end Go.MW
