/- A small logic for walks: the memory that a call owns as a list of blocks, every step said of every world that has it. Conditions: none. -/
import Derived.WalkKit
import Derived.WalkSpells
import Derived.WalkLawsBesides
namespace Go.MW
open Go.RowKit

/-! ### memory that is owned -/

abbrev Mem := List (Option Nat × Obj)

structure Has (w0 : World) (m : Mem) (w : World) : Prop where
  below : Below w0.heap.size w0 w
  blk : ∀ b o, (some b, o) ∈ m → w0.heap.size ≤ b ∧ w.heap[b]? = some o
  nodup : (m.filterMap Prod.fst).Nodup

theorem Has.nil (w : World) : Has w [] w := ⟨Below.refl _ _, by simp, by simp⟩

theorem lt_of_heap {w : World} {b : Nat} {o : Obj} (h : w.heap[b]? = some o) : b < w.heap.size := (Array.getElem?_eq_some_iff.1 h).1

theorem mem_keys {m : Mem} {b : Nat} : b ∈ m.filterMap Prod.fst ↔ ∃ o, (some b, o) ∈ m := by
  rw [List.mem_filterMap]
  constructor
  · rintro ⟨⟨k, o⟩, h, e⟩
    simp only at e
    subst e
    exact ⟨o, h⟩
  · rintro ⟨o, h⟩
    exact ⟨_, h, rfl⟩

theorem Has.trans {w0 w w' : World} {m mi : Mem} (h : Has w0 m w) (k : Has w mi w') : Has w0 (m ++ mi) w' := by
  refine ⟨h.below.trans (k.below.mono h.below.size), ?_, ?_⟩
  · intro b o hb
    rcases List.mem_append.1 hb with hb | hb
    · obtain ⟨h1, h2⟩ := h.blk b o hb
      exact ⟨h1, (k.below.block b (lt_of_heap h2)).trans h2⟩
    · obtain ⟨h1, h2⟩ := k.blk b o hb
      exact ⟨Nat.le_trans h.below.size h1, h2⟩
  · rw [List.filterMap_append]
    refine List.nodup_append.2 ⟨h.nodup, k.nodup, ?_⟩
    intro x hx y hy e
    subst e
    obtain ⟨o, ho⟩ := mem_keys.1 hx
    obtain ⟨o', ho'⟩ := mem_keys.1 hy
    have h1 := lt_of_heap (h.blk x o ho).2
    have h2 := (k.blk x o' ho').1
    omega

theorem Has.sub {w0 w : World} {m m' : Mem} (h : Has w0 m w) (hs : m'.Sublist m) : Has w0 m' w :=
  ⟨h.below, fun b o hb => h.blk b o (hs.subset hb), (hs.filterMap Prod.fst).nodup h.nodup⟩

theorem Has.none_ {w0 w : World} {m : Mem} (h : Has w0 m w) : Has w0 [] w := h.sub (List.nil_sublist _)

theorem Has.perm {w0 w : World} {m m' : Mem} (h : Has w0 m w) (hp : m'.Perm m) : Has w0 m' w :=
  ⟨h.below, fun b o hb => h.blk b o (hp.mem_iff.1 hb), (hp.filterMap Prod.fst).nodup_iff.2 h.nodup⟩

theorem Has.drew {w0 w : World} {m : Mem} (h : Has w0 m w) : Has w0 m { w with drawn := w.drawn + 1 } :=
  ⟨h.below.drew, h.blk, h.nodup⟩

theorem Has.alloc (w : World) (o : Obj) : Has w [(some w.heap.size, o)] (w.alloc o) := by
  refine ⟨(Below.refl _ _).alloc (Nat.le_refl _) o, ?_, by simp⟩
  intro b o' hb
  simp only [List.mem_singleton, Prod.mk.injEq, Option.some.injEq] at hb
  obtain ⟨rfl, rfl⟩ := hb
  exact ⟨Nat.le_refl _, heap_alloc_new w _⟩

theorem Has.at {w0 w : World} {m : Mem} (h : Has w0 m w) (i : Nat) {b : Nat} {o : Obj} (hi : m[i]? = some (some b, o)) : w.heap[b]? = some o :=
  (h.blk b o (List.mem_of_getElem? hi)).2

theorem nodup_set_keys {m : Mem} {i b : Nat} {o o' : Obj} (hi : m[i]? = some (some b, o)) : (m.set i (some b, o')).filterMap Prod.fst = m.filterMap Prod.fst := by
  induction m generalizing i with
  | nil => simp at hi
  | cons e m ih =>
    cases i with
    | zero =>
      simp only [List.getElem?_cons_zero, Option.some.injEq] at hi
      subst hi
      simp
    | succ i =>
      simp only [List.getElem?_cons_succ] at hi
      rw [List.set_cons_succ, List.filterMap_cons, List.filterMap_cons, ih hi]

theorem has_key_inj {m : Mem} {i j c : Nat} {o x : Obj} (hn : (m.filterMap Prod.fst).Nodup) (hi : m[i]? = some (some c, o)) (hj : m[j]? = some (some c, x)) : i = j := by
  induction m generalizing i j with
  | nil => simp at hi
  | cons e m ih =>
    rw [List.filterMap_cons] at hn
    cases i with
    | zero =>
      cases j with
      | zero => rfl
      | succ j =>
        simp only [List.getElem?_cons_zero, Option.some.injEq] at hi
        simp only [List.getElem?_cons_succ] at hj
        subst hi
        simp only at hn
        exact absurd (mem_keys.2 ⟨x, List.mem_of_getElem? hj⟩) (List.nodup_cons.1 hn).1
    | succ i =>
      cases j with
      | zero =>
        simp only [List.getElem?_cons_zero, Option.some.injEq] at hj
        simp only [List.getElem?_cons_succ] at hi
        subst hj
        simp only at hn
        exact absurd (mem_keys.2 ⟨o, List.mem_of_getElem? hi⟩) (List.nodup_cons.1 hn).1
      | succ j =>
        simp only [List.getElem?_cons_succ] at hi hj
        have hn' : (m.filterMap Prod.fst).Nodup := by
          cases hf : e.1 with
          | none => rw [hf] at hn; exact hn
          | some k => rw [hf] at hn; exact (List.nodup_cons.1 hn).2
        rw [ih hn' hi hj]

/-- One block of one's own is turned. -/
theorem Has.set {w0 w : World} {m : Mem} (h : Has w0 m w) (i : Nat) {b : Nat} {o : Obj} (hi : m[i]? = some (some b, o)) (o' : Obj) {w' : World}
    (hos : w'.os = w.os) (htape : w'.tape = w.tape) (hout : w'.output = w.output) (hsz : w'.heap.size = w.heap.size)
    (hb : w'.heap[b]? = some o') (hother : ∀ k, k ≠ b → w'.heap[k]? = w.heap[k]?) : Has w0 (m.set i (some b, o')) w' := by
  have hbm := h.blk b o (List.mem_of_getElem? hi)
  refine ⟨h.below.trans ⟨hos, htape, hout, by omega, fun k hk => hother k (by omega)⟩, ?_, ?_⟩
  · intro c x hc
    obtain ⟨j, hj⟩ := List.mem_iff_getElem?.1 hc
    by_cases hij : i = j
    · subst hij
      have hlt : i < m.length := (List.getElem?_eq_some_iff.1 hi).1
      rw [List.getElem?_set_self hlt] at hj
      simp only [Option.some.injEq, Prod.mk.injEq] at hj
      obtain ⟨rfl, rfl⟩ := hj
      exact ⟨hbm.1, hb⟩
    · rw [List.getElem?_set_ne hij] at hj
      have hcm := h.blk c x (List.mem_of_getElem? hj)
      refine ⟨hcm.1, ?_⟩
      rw [hother c ?_]
      · exact hcm.2
      · rintro rfl
        have hn := h.nodup
        exact hij (has_key_inj hn hi hj)
  · rw [nodup_set_keys hi]; exact h.nodup

theorem Has.far {w0 w : World} {m : Mem} (h : Has w0 m w) {a : Addr} {v : Value} (hv : w0.cell? a = some v) : w.cell? a = some v :=
  (h.below.cell (World.block_lt_of_cell? w0 a hv)).trans hv

theorem Has.farBlk {w0 w : World} {m : Mem} (h : Has w0 m w) {b : Nat} {o : Obj} (hv : w0.heap[b]? = some o) : w.heap[b]? = some o :=
  (h.below.block b (lt_of_heap hv)).trans hv

/-! ### frames -/

def nth : List Value → Nat → Value
  | [], _ => undef
  | v :: _, 0 => v
  | _ :: l, n + 1 => nth l n

theorem nth_eq (L : List Value) (t : Nat) : L.toArray.getD t undef = nth L t := by
  induction L generalizing t with
  | nil => simp [nth]
  | cons v L ih =>
    cases t with
    | zero => simp [nth]
    | succ t => rw [nth, ← ih]; simp

def ev (L : List Value) : Operand → Value
  | .tmp t => nth L t
  | .const v => v
  | .global g => .pointer (some ⟨g, 0, none⟩)
  | .func f => .func (.func f) #[] #[]

def put (L : List Value) : Option Tmp → Value → List Value
  | some d, v => L.set d v
  | none, _ => L

def fr (L : List Value) : Act := { tmps := L.toArray, defers := [] }

theorem eval_fr (L : List Value) : (fr L).eval = ev L := by
  funext x
  cases x <;> first | rfl | exact nth_eq _ _

theorem put_fr (L : List Value) (d : Option Tmp) (v : Value) : (fr L).put d v = fr (put L d v) := by
  cases d <;> simp [fr, Act.put, put]

/-! ### judgments -/

def lf (w0 : World) (K : List Value → Mem → Prop) (a : Act) (w : World) : Prop := ∃ L m, a = fr L ∧ Has w0 m w ∧ K L m

def LQ (w0 : World) (K : List Value → Mem → Prop) (E : Exit → List Value → Mem → Prop) : Exit → Act → World → Prop
  | .normal, a, w => lf w0 K a w
  | .outgrown, _, _ => False
  | .panic _, _, _ => False
  | e, a, w => lf w0 (E e) a w

def WC (P : Program) (w0 : World) (c : Code) (K : List Value → Mem → Prop) (E : Exit → List Value → Mem → Prop) (L : List Value) (m : Mem) : Prop :=
  ∀ w, Has w0 m w → c.wp P (LQ w0 K E) (fr L) w

def WL (P : Program) (w0 : World) (ops : Array Oper) (K : List Value → Mem → Prop) (E : Exit → List Value → Mem → Prop) (l : List Oper) (L : List Value) (m : Mem) : Prop :=
  ∀ w, Has w0 m w → wpList P ops (LQ w0 K E) l (fr L) w

section
variable {P : Program} {w0 : World} {K : List Value → Mem → Prop} {E : Exit → List Value → Mem → Prop} {L : List Value} {m : Mem}

theorem lf_mono {K K' : List Value → Mem → Prop} (h : ∀ L m, K L m → K' L m) {a : Act} {w : World} (hh : lf w0 K a w) : lf w0 K' a w :=
  let ⟨L, m, ha, hw, hk⟩ := hh; ⟨L, m, ha, hw, h _ _ hk⟩

theorem WC.forget {c : Code} {m' : Mem} (hs : m'.Sublist m) (h : WC P w0 c K E L m') : WC P w0 c K E L m := fun w hw => h w (hw.sub hs)
theorem WC.perm {c : Code} {m' : Mem} (hs : m'.Perm m) (h : WC P w0 c K E L m') : WC P w0 c K E L m := fun w hw => h w (hw.perm hs)

theorem WC_seq {x y : Code} (h : WC P w0 x (fun L m => WC P w0 y K E L m) E L m) : WC P w0 (.seq x y) K E L m := by
  intro w hw
  refine wp_seq (wp_mono (h w hw) ?_)
  intro e a w' hq
  cases e with
  | normal => obtain ⟨L', m', rfl, hw', hk⟩ := hq; exact hk w' hw'
  | outgrown => exact hq
  | panic c => exact hq
  | exit id => exact hq
  | goto l => exact hq
  | ret => exact hq

theorem WC_skip (h : K L m) : WC P w0 .skip K E L m := fun _ hw => wp_skip ⟨L, m, rfl, hw, h⟩
theorem WC_label {l : Nat} (h : K L m) : WC P w0 (.label l) K E L m := fun _ hw => wp_label ⟨L, m, rfl, hw, h⟩
theorem WC_ret (h : E .ret L m) : WC P w0 .ret K E L m := fun _ hw => wp_ret ⟨L, m, rfl, hw, h⟩
theorem WC_exit {id : Nat} (h : E (.exit id) L m) : WC P w0 (.exit id) K E L m := fun _ hw => wp_exit ⟨L, m, rfl, hw, h⟩

def inB (id : Nat) (K : List Value → Mem → Prop) (E : Exit → List Value → Mem → Prop) : Exit → List Value → Mem → Prop
  | .exit id', L, m => if id' = id then K L m else E (.exit id') L m
  | e, L, m => E e L m

theorem inB_same {id : Nat} (h : K L m) : inB id K E (.exit id) L m := by simpa [inB] using h
theorem inB_other {id id' : Nat} (hne : id' ≠ id) (h : E (.exit id') L m) : inB id K E (.exit id') L m := by simpa [inB, hne] using h
theorem inB_ret {id : Nat} (h : E .ret L m) : inB id K E .ret L m := h

theorem WC_block {id : Nat} {c : Code} (h : WC P w0 c K (inB id K E) L m) : WC P w0 (.block id c) K E L m := by
  intro w hw
  refine wp_block (wp_mono (h w hw) ?_)
  intro e a w' hq
  cases e with
  | normal => exact hq
  | outgrown => exact hq
  | panic c => exact hq
  | exit id' =>
    obtain ⟨L', m', rfl, hw', hk⟩ := hq
    simp only [Exit.inBlock]
    by_cases hid : id' = id
    · subst hid; rw [if_pos rfl]; exact ⟨L', m', rfl, hw', by simpa [inB] using hk⟩
    · rw [if_neg hid]; exact ⟨L', m', rfl, hw', by simpa [inB, hid] using hk⟩
  | goto l => exact hq
  | ret => exact hq

theorem WC_cond {c : Operand} {x y : Code} {t : Bool} (hc : ev L c = .bool t) (ht : t = true → WC P w0 x K E L m) (hf : t = false → WC P w0 y K E L m) :
    WC P w0 (.cond c x y) K E L m := by
  intro w hw
  refine wp_cond_split (t := t) (by rw [eval_fr]; exact hc) (fun h => ht h w hw) (fun h => hf h w hw)
theorem WC_cond_true {c : Operand} {x y : Code} (hc : ev L c = .bool true) (ht : WC P w0 x K E L m) : WC P w0 (.cond c x y) K E L m :=
  WC_cond hc (fun _ => ht) (fun h => by cases h)
theorem WC_cond_false {c : Operand} {x y : Code} (hc : ev L c = .bool false) (hf : WC P w0 y K E L m) : WC P w0 (.cond c x y) K E L m :=
  WC_cond hc (fun h => by cases h) (fun _ => hf)

theorem least_ex (p : Nat → Prop) (h : ∃ n, p n) : ∃ n, p n ∧ ∀ k, p k → n ≤ k := by
  obtain ⟨n, hn⟩ := h
  induction n using Nat.strongRecOn with
  | _ n ih =>
    by_cases hk : ∃ k, k < n ∧ p k
    · obtain ⟨k, hlt, hp⟩ := hk; exact ih k hlt hp
    · exact ⟨n, hn, fun k hp => Nat.le_of_not_lt fun hlt => hk ⟨k, hlt, hp⟩⟩
noncomputable def leastOf (p : Nat → Prop) (h : ∃ n, p n) : Nat := Classical.choose (least_ex p h)
theorem leastOf_spec (p : Nat → Prop) (h : ∃ n, p n) : p (leastOf p h) := (Classical.choose_spec (least_ex p h)).1
theorem leastOf_le (p : Nat → Prop) (h : ∃ n, p n) {k : Nat} (hk : p k) : leastOf p h ≤ k := (Classical.choose_spec (least_ex p h)).2 k hk

/-- A loop: what holds at its head is told by a datum x: the frame, the memory, a condition. -/
theorem WC_loop {ι : Type} {c : Code} (F : ι → List Value) (M : ι → Mem) (I : ι → Prop) (μ : ι → Nat) (x0 : ι) (hF : F x0 = L) (hM : M x0 = m) (hI : I x0)
    (round : ∀ x, I x → WC P w0 c (fun L' m' => ∃ x', F x' = L' ∧ M x' = m' ∧ I x' ∧ μ x' < μ x) E (F x) (M x)) : WC P w0 (.loop c) K E L m := by
  subst hF hM
  intro w hw
  have key : ∀ (n : Nat) (a : Act) (w : World), (∃ x, μ x = n ∧ a = fr (F x) ∧ Has w0 (M x) w ∧ I x) → (Code.loop c).wp P (LQ w0 K E) a w := by
    intro n a w hx
    refine wp_loop (fun a w => ∃ x, a = fr (F x) ∧ Has w0 (M x) w ∧ I x) (fun a w => by
      classical
      exact if h : ∃ n x, μ x = n ∧ a = fr (F x) ∧ Has w0 (M x) w ∧ I x then (leastOf (fun n => ∃ x, μ x = n ∧ a = fr (F x) ∧ Has w0 (M x) w ∧ I x) h) else 0) ?_ ?_
    · obtain ⟨x, _, h⟩ := hx; exact ⟨x, h⟩
    · intro a w ⟨x, ha, hw, hi⟩
      have hex : ∃ n x, μ x = n ∧ a = fr (F x) ∧ Has w0 (M x) w ∧ I x := ⟨μ x, x, rfl, ha, hw, hi⟩
      obtain ⟨x, hn, ha, hw, hi⟩ := leastOf_spec _ hex
      subst ha
      refine wp_mono (round x hi w hw) ?_
      intro e a' w' hq
      cases e with
      | normal =>
        obtain ⟨L', m', rfl, hw', x', rfl, rfl, hi', hlt⟩ := hq
        refine ⟨⟨x', rfl, hw', hi'⟩, ?_⟩
        have hex' : ∃ n x, μ x = n ∧ fr (F x') = fr (F x) ∧ Has w0 (M x) w' ∧ I x := ⟨μ x', x', rfl, rfl, hw', hi'⟩
        rw [dif_pos hex', dif_pos hex]
        have := leastOf_le _ hex' ⟨x', rfl, rfl, hw', hi'⟩
        rw [← hn]
        omega
      | outgrown => exact hq
      | panic c => exact hq
      | exit id => exact hq
      | goto l => exact hq
      | ret => exact hq
  exact key _ _ _ ⟨x0, rfl, rfl, hw, hI⟩

def setAll (L : List Value) : List (Nat × Value) → List Value
  | [] => L
  | (i, v) :: r => setAll (L.set i v) r
def setG (L : List Value) : List Nat → (Nat → Value) → List Value
  | [], _ => L
  | i :: r, g => setG (L.set i (g i)) r g
def setM (m : Mem) : List (Nat × (Option Nat × Obj)) → Mem
  | [] => m
  | (i, v) :: r => setM (m.set i v) r
theorem set_nth (L : List Value) (i : Nat) : L.set i (nth L i) = L := by
  induction L generalizing i with
  | nil => rfl
  | cons v L ih => cases i with
    | zero => rfl
    | succ i => simp [nth, ih]
theorem setG_self (L : List Value) (D : List Nat) : setG L D (nth L) = L := by
  induction D with
  | nil => rfl
  | cons d D ih => simp only [setG, set_nth, ih]

/-- The same, the frame told by what it turns: the slots D are whatever they are, the slots of S and the blocks of T are told. -/
theorem WC_loopS {ι : Type} {c : Code} (D : List Nat) (S : ι → List (Nat × Value)) (T : ι → List (Nat × (Option Nat × Obj))) (I : ι → Prop) (μ : ι → Nat) (x0 : ι) (hF : setAll L (S x0) = L) (hM : setM m (T x0) = m) (hI : I x0)
    (round : ∀ (x : ι) (g : Nat → Value), I x → WC P w0 c (fun L' m' => ∃ x', setAll (setG L D (nth L')) (S x') = L' ∧ setM m (T x') = m' ∧ I x' ∧ μ x' < μ x) E (setAll (setG L D g) (S x)) (setM m (T x))) : WC P w0 (.loop c) K E L m := by
  refine WC_loop (ι := ι × (Nat → Value)) (fun x => setAll (setG L D x.2) (S x.1)) (fun x => setM m (T x.1)) (fun x => I x.1) (fun x => μ x.1) (x0, nth L) (by simp only [setG_self]; exact hF) hM hI ?_
  rintro ⟨x, g⟩ hi w hw
  refine wp_mono (round x g hi w hw) ?_
  intro e a w' hq
  cases e with
  | normal =>
    obtain ⟨L', m', rfl, hw', x', h1, h2, h3, h4⟩ := hq
    exact ⟨L', m', rfl, hw', (x', nth L'), h1, h2, h3, h4⟩
  | outgrown => exact hq
  | panic c => exact hq
  | exit id => exact hq
  | goto l => exact hq
  | ret => exact hq

theorem WC_region {id : Nat} {l : List Oper} (h : WL P w0 l.toArray K E l L m) : WC P w0 (.region id l.toArray false) K E L m :=
  fun w hw => wp_region_lit (h w hw)

/-! ### operations -/

theorem WL_nil {ops : Array Oper} (h : K L m) : WL P w0 ops K E [] L m := fun _ hw => wpList_nil ⟨L, m, rfl, hw, h⟩

/-- What an operation does: it yields a value in some world. -/
def Runs (P : Program) (o : Oper) (ρ : Operand → Value) (w : World) (R : Value → World → Prop) : Prop :=
  match (execOp ρ o).run P w with
  | .ok (.value v) w' => R v w'
  | .ok .skip w' => R undef w'
  | .ok (.enter f args) w' => Calls P f args w' fun e w'' => ∃ v, e = .returned v ∧ R v w''
  | _ => False

theorem Runs.upon {o : Oper} {L : List Value} {w : World} {R : Value → World → Prop} {Q : Exit → Act → World → Prop} {next : Act → World → Prop}
    (h : Runs P o (ev L) w R) (hn : ∀ v w', R v w' → next (fr (put L o.dst v)) w') : o.wp P (fr L) w next Q := by
  unfold Oper.wp
  rw [eval_fr]
  unfold Runs at h
  cases hr : (execOp (ev L) o).run P w with
  | halt x w' => rw [hr] at h; exact h.elim
  | ok n w' =>
    rw [hr] at h
    cases n with
    | value v => rw [Oper.upon_value, put_fr]; exact hn _ _ h
    | skip => rw [Oper.upon_skip, put_fr]; exact hn _ _ h
    | enter f args =>
      rw [Oper.upon_enter]
      refine h.mono ?_
      rintro e w'' ⟨v, rfl, hv⟩
      simp only [put_fr]
      exact hn _ _ hv
    | _ => exact h.elim

/-- The general form: an operation that turns memory. -/
def Chg (P : Program) (w0 : World) (m : Mem) (ρ : Operand → Value) (o : Oper) (R : Value → Mem → Prop) : Prop :=
  ∀ w, Has w0 m w → Runs P o ρ w fun v w' => ∃ m', R v m' ∧ Has w0 m' w'

/-- An operation that leaves the world alone. -/
def Det (P : Program) (w0 : World) (m : Mem) (ρ : Operand → Value) (o : Oper) (v : Value) : Prop :=
  ∀ w, Has w0 m w → (execOp ρ o).run P w = .ok (.value v) w

/-- An operation that adds to memory. -/
def Rel (P : Program) (w0 : World) (m : Mem) (ρ : Operand → Value) (o : Oper) (R : Value → Mem → Prop) : Prop :=
  ∀ w, Has w0 m w → Runs P o ρ w fun v w' => ∃ mi, R v mi ∧ Has w mi w'

theorem Det.rel {ρ : Operand → Value} {o : Oper} {v : Value} (h : Det P w0 m ρ o v) : Rel P w0 m ρ o (fun v' mi => v' = v ∧ mi = []) := by
  intro w hw
  unfold Runs
  rw [h w hw]
  exact ⟨[], ⟨rfl, rfl⟩, Has.nil w⟩

theorem runs_mono_w {P : Program} {o : Oper} {ρ : Operand → Value} {w : World} {R R' : Value → World → Prop} (h : Runs P o ρ w R) (hr : ∀ v w', R v w' → R' v w') : Runs P o ρ w R' := by
  unfold Runs at h ⊢
  generalize (execOp ρ o).run P w = r at *
  cases r with
  | halt x w' => exact h
  | ok n w' =>
    cases n <;> first | exact hr _ _ h | exact h | exact h.mono fun e w'' ⟨v, he, hv⟩ => ⟨v, he, hr _ _ hv⟩

theorem Rel.chg {ρ : Operand → Value} {o : Oper} {R : Value → Mem → Prop} (h : Rel P w0 m ρ o R) : Chg P w0 m ρ o (fun v m' => ∃ mi, m' = m ++ mi ∧ R v mi) := by
  intro w hw
  refine runs_mono_w (h w hw) ?_
  rintro v w' ⟨mi, hr, hh⟩
  exact ⟨_, ⟨mi, rfl, hr⟩, hw.trans hh⟩

variable {ops : Array Oper} {rest : List Oper} {o : Oper}

theorem WL_chg {R : Value → Mem → Prop} (hg : o.guard = none) (h : Chg P w0 m (ev L) o R) (k : ∀ v m', R v m' → WL P w0 ops K E rest (put L o.dst v) m') :
    WL P w0 ops K E (o :: rest) L m := by
  intro w hw
  refine wpList_plain hg fun _ hK => ?_
  refine Runs.upon (h w hw) ?_
  rintro v w' ⟨m', hr, hh⟩
  exact hK _ _ (k v m' hr w' hh)

theorem WL_rel {R : Value → Mem → Prop} (hg : o.guard = none) (h : Rel P w0 m (ev L) o R) (k : ∀ v mi, R v mi → WL P w0 ops K E rest (put L o.dst v) (m ++ mi)) :
    WL P w0 ops K E (o :: rest) L m :=
  WL_chg hg h.chg fun v _ ⟨mi, hm, hr⟩ => hm ▸ k v mi hr

theorem WL_det {v : Value} (hg : o.guard = none) (h : Det P w0 m (ev L) o v) (k : WL P w0 ops K E rest (put L o.dst v) m) : WL P w0 ops K E (o :: rest) L m := by
  refine WL_rel hg h.rel ?_
  rintro v' mi ⟨rfl, rfl⟩
  rwa [List.append_nil]
end

/-! ### calls -/

/-- What a call comes to: a value, and the blocks that it made. -/
def Post (w : World) (R : Value → Mem → Prop) (e : Ending) (w' : World) : Prop := ∃ v mi, e = .returned v ∧ R v mi ∧ Has w mi w'
/-- .. just this value. -/
def PostV (w : World) (v : Value) : Ending → World → Prop := Post w fun v' mi => v' = v ∧ mi = []

theorem Post.mono {w : World} {R R' : Value → Mem → Prop} (h : ∀ v mi, R v mi → R' v mi) {e : Ending} {w' : World} (hh : Post w R e w') : Post w R' e w' :=
  let ⟨v, mi, he, hr, hw⟩ := hh; ⟨v, mi, he, h _ _ hr, hw⟩

/-- How a function's body ends. -/
def Fin (P : Program) (fn : Func) (w0 : World) (R : Value → Mem → Prop) (L : List Value) (m : Mem) : Prop :=
  ∀ w, Has w0 m w → ∃ v mi, (results fn L.toArray).run P w = .ok v w ∧ R v mi ∧ Has w0 mi w

def EFin (P : Program) (fn : Func) (w0 : World) (R : Value → Mem → Prop) : Exit → List Value → Mem → Prop
  | .ret, L, m => Fin P fn w0 R L m
  | _, _, _ => False

theorem calls_of_WC {P : Program} {f : FuncId} {fn : Func} {c : Code} {args : List Value} {w : World} {R : Value → Mem → Prop} (hf : P.funcs[f]? = some fn) (hb : fn.body = some c)
    (h : WC P w c (Fin P fn w R) (EFin P fn w R) (args ++ List.replicate (fn.ntmps - args.length) undef) []) : Calls P f args.toArray w (Post w R) := by
  refine calls_of_wp hf hb ?_
  have hfr : ({ tmps := args.toArray ++ Array.replicate (fn.ntmps - args.toArray.size) undef, defers := [] } : Act) = fr (args ++ List.replicate (fn.ntmps - args.length) undef) := by
    simp [fr]
  rw [hfr]
  refine wp_mono (h w (Has.nil w)) ?_
  intro e a w' hq
  cases e with
  | normal =>
    obtain ⟨L, m, rfl, hw, hk⟩ := hq
    obtain ⟨v, mi, hr, hR, hm⟩ := hk w' hw
    exact ⟨rfl, v, hr, v, mi, rfl, hR, hm⟩
  | ret =>
    obtain ⟨L, m, rfl, hw, hk⟩ := hq
    obtain ⟨v, mi, hr, hR, hm⟩ := hk w' hw
    exact ⟨rfl, v, hr, v, mi, rfl, hR, hm⟩
  | outgrown => exact hq.elim
  | panic c => exact hq.elim
  | exit id => obtain ⟨L, m, rfl, hw, hk⟩ := hq; exact hk.elim
  | goto l => obtain ⟨L, m, rfl, hw, hk⟩ := hq; exact hk.elim

section
variable {P : Program} {w0 : World} {m : Mem} {ρ : Operand → Value}

/-- A call of a function of the program. -/
theorem Rel_call {dst : Option Tmp} {x : Operand} {args : List Operand} {ats : Array TypeId} {ty : TypeId} {pos : String} {after : Array Edge} {gd : Option (Nat × Bool)} {f : FuncId} {R : Value → Mem → Prop}
    (hx : ρ x = .func (.func f) #[] #[]) (hc : ∀ as w, (callFunc f as).run P w = .ok (.enter f as) w)
    (h : ∀ w, Has w0 m w → Calls P f (args.map ρ).toArray w (Post w R)) :
    Rel P w0 m ρ ⟨dst, .call { callee := .value x, args := args.toArray, argTypes := ats }, ty, pos, after, gd⟩ R := by
  intro w hw
  have he : (execOp ρ ⟨dst, .call { callee := .value x, args := args.toArray, argTypes := ats }, ty, pos, after, gd⟩).run P w = .ok (.enter f (args.map ρ).toArray) w := by
    simp only [execOp, resolve, hx, Deferred.ofValue, Sem.run_bind, Sem.run_pure, Result.andThen_ok, invoke, List.map_toArray]
    rw [hc]
    simp
  unfold Runs
  rw [he]
  refine (h w hw).mono ?_
  rintro e w' ⟨v, mi, rfl, hr, hh⟩
  exact ⟨v, rfl, mi, hr, hh⟩
end

end Go.MW
