/- What the claim of this folder needs of its texts, put together by a program of this claim. Conditions: none. -/
import Derived.RangeFuncFrom
import Derived.RangeFuncCalls
import Derived.TacticsIn
import Derived.OrdersIn
import Derived.RangeFuncLeaves
import Derived.Test.YtpmldkhgdpchjaaBAB0
namespace Go.MW
open Go.RowKit

/-- Within a round of loop l, at the wide fence. -/
abbrev RF (l : Nat) : Fence := Fence.wide.inRound l
def RC (l n : Nat) (P : Program) (w0 : World) (c : Code) (K : List Value → Mem → Prop) (E : Exit → List Value → Mem → Prop) (L : List Value) (m : Mem) : Prop :=
  ∀ w, Has w0 m w → c.wpIn (RF l) n P (LQ w0 K E) (fr L) w
def RL (l n : Nat) (P : Program) (w0 : World) (ops : Array Oper) (K : List Value → Mem → Prop) (E : Exit → List Value → Mem → Prop) (os : List Oper) (L : List Value) (m : Mem) : Prop :=
  ∀ w, Has w0 m w → wpListIn (RF l) n P ops (LQ w0 K E) os (fr L) w

section
variable {l n : Nat} {P : Program} {w0 : World} {K : List Value → Mem → Prop} {E : Exit → List Value → Mem → Prop} {L : List Value} {m : Mem}

theorem RC.forget {c : Code} {m' : Mem} (hs : m'.Sublist m) (h : RC l n P w0 c K E L m') : RC l n P w0 c K E L m := fun w hw => h w (hw.sub hs)
theorem RC_seq {x y : Code} (h : RC l n P w0 x (fun L m => RC l n P w0 y K E L m) E L m) : RC l n P w0 (.seq x y) K E L m := by
  intro w hw
  refine wpIn_seq (wpIn_mono (h w hw) ?_)
  intro e a w' hq
  cases e with
  | normal => obtain ⟨L', m', rfl, hw', hk⟩ := hq; exact hk w' hw'
  | outgrown => exact hq
  | panic c => exact hq
  | exit id => exact hq
  | goto l => exact hq
  | ret => exact hq
theorem RC_skip (h : K L m) : RC l n P w0 .skip K E L m := fun _ hw => wpIn_skip ⟨L, m, rfl, hw, h⟩
theorem RC_exit {id : Nat} (h : E (.exit id) L m) : RC l n P w0 (.exit id) K E L m := fun _ hw => wpIn_exit ⟨L, m, rfl, hw, h⟩
theorem RC_block {id : Nat} {c : Code} (h : RC l n P w0 c K (inB id K E) L m) : RC l n P w0 (.block id c) K E L m := by
  intro w hw
  refine wpIn_block (wpIn_mono (h w hw) ?_)
  intro e a w' hq
  cases e with
  | normal => exact hq
  | outgrown => exact hq
  | panic c => exact hq
  | exit id' =>
    obtain ⟨L', m', rfl, hw', hk⟩ := hq
    simp only [Exit.inBlock]
    by_cases hid : id' = id
    · subst hid; rw [if_pos rfl]; exact ⟨L', m', rfl, hw', by simpa [inB] using hk⟩
    · rw [if_neg hid]; exact ⟨L', m', rfl, hw', by simpa [inB, hid] using hk⟩
  | goto l => exact hq
  | ret => exact hq
theorem RC_cond {c : Operand} {x y : Code} {t : Bool} (hc : ev L c = .bool t) (ht : t = true → RC l n P w0 x K E L m) (hf : t = false → RC l n P w0 y K E L m) :
    RC l n P w0 (.cond c x y) K E L m := by
  intro w hw
  refine wpIn_cond_split (t := t) (by rw [eval_fr]; exact hc) (fun h => ht h w hw) (fun h => hf h w hw)
theorem RC_region {id : Nat} {os : List Oper} (h : RL l n P w0 os.toArray K E os L m) : RC l n P w0 (.region id os.toArray false) K E L m := fun w hw => wpIn_region_lit (h w hw)
theorem RL_nil {ops : Array Oper} (h : K L m) : RL l n P w0 ops K E [] L m := fun _ hw => wpListIn_nil ⟨L, m, rfl, hw, h⟩

variable {ops : Array Oper} {rest : List Oper} {o : Oper}
theorem Runs.uponR {o : Oper} {L : List Value} {w : World} {R : Value → World → Prop} {Q : Exit → Act → World → Prop} {next : Act → World → Prop} (hd : ∀ c, o.op ≠ .defer c)
    (h : Runs P o (ev L) w R) (hn : ∀ v w', R v w' → next (fr (put L o.dst v)) w') : o.wpIn (RF l) n P (fr L) w next Q := by
  refine ⟨fun _ _ => trivial, ?_⟩
  rw [show (RF l).round = some l from rfl, Oper.semAt_some l _ o hd, eval_fr]
  unfold Runs at h
  cases hr : (execOp (ev L) o).run P w with
  | halt x w' => rw [hr] at h; exact h.elim
  | ok k w' =>
    rw [hr] at h
    cases k with
    | value v => rw [Oper.uponIn_value, put_fr]; exact hn _ _ h
    | skip => rw [Oper.uponIn_skip, put_fr]; exact hn _ _ h
    | enter f args =>
      rw [Oper.uponIn_enter]
      refine ⟨fun h => (by cases h), ?_⟩
      refine CallsIn.inRound l (callsIn_wide.2 ?_)
      refine h.mono ?_
      rintro e w'' ⟨v, rfl, hv⟩
      show next ((fr L).put o.dst v) w''
      rw [put_fr]; exact hn _ _ hv
    | _ => exact h.elim
theorem RL_chg {R : Value → Mem → Prop} (hg : o.guard = none) (hd : ∀ c, o.op ≠ .defer c) (h : Chg P w0 m (ev L) o R) (k : ∀ v m', R v m' → RL l n P w0 ops K E rest (put L o.dst v) m') :
    RL l n P w0 ops K E (o :: rest) L m := by
  intro w hw
  refine wpListIn_plain hg fun _ hK => ?_
  refine Runs.uponR hd (h w hw) ?_
  rintro v w' ⟨m', hr, hh⟩
  exact hK _ _ (k v m' hr w' hh)
theorem RL_rel {R : Value → Mem → Prop} (hg : o.guard = none) (hd : ∀ c, o.op ≠ .defer c) (h : Rel P w0 m (ev L) o R) (k : ∀ v mi, R v mi → RL l n P w0 ops K E rest (put L o.dst v) (m ++ mi)) :
    RL l n P w0 ops K E (o :: rest) L m :=
  RL_chg hg hd h.chg fun v _ ⟨mi, hm, hr⟩ => hm ▸ k v mi hr
theorem RL_det {v : Value} (hg : o.guard = none) (hd : ∀ c, o.op ≠ .defer c) (h : Det P w0 m (ev L) o v) (k : RL l n P w0 ops K E rest (put L o.dst v) m) : RL l n P w0 ops K E (o :: rest) L m := by
  refine RL_rel hg hd h.rel ?_
  rintro v' mi ⟨rfl, rfl⟩
  rwa [List.append_nil]
end
end Go.MW

namespace Go.MW
section
variable {lp n : Nat} {P : Program} {w0 : World} {K : List Value → Mem → Prop} {E : Exit → List Value → Mem → Prop} {L : List Value} {mk m : Mem}
variable {l : List Oper} {D : List (List Nat)} {T : List Nat} {rel : Nat → Bool} {e : Nat → Sel → Value} {R : Nat → Sel → Prop} {M : Nat → Sel → Mem}
theorem wpR_op_of_rel {o : Oper} {i : Nat} {A : Act} {w : World} {Q : Exit → Act → World → Prop} {K' : Act → World → Prop} (ho : l[i]? = some o)
    (h1 : Region.wanted o (yielded l.toArray A.tmps) = true → o.wpIn (RF lp) n P A w K' Q) (h2 : Region.wanted o (yielded l.toArray A.tmps) = false → K' (A.put o.dst undef) w) : wpOpIn (RF lp) n P l.toArray Q i K' A w := by
  unfold wpOpIn
  have : l.toArray[i]? = some o := by simpa using ho
  rw [this]
  simp only
  by_cases hw : Region.wanted o (yielded l.toArray A.tmps) = true
  · rw [if_pos hw]; exact h1 hw
  · rw [if_neg hw]; exact ⟨fun _ _ => trivial, h2 (by simpa using hw)⟩

theorem walkR_all (hnd : ∀ (i : Nat) (o : Oper), l[i]? = some o → ∀ c, o.op ≠ .defer c) {len : Nat} (hc : Chk l D T len) (hL : L.length = len) (W : Walked P w0 K L mk m l D T rel e R M) :
    ∀ (fuel : Nat) (listed : Array Bool) (a : Act) (w : World), ((List.range l.length).filter fun j => !Sof listed j).length ≤ fuel → (∃ V, Inv w0 L mk m l D T rel e R M listed a w V) → wpAnyIn (RF lp) n P .any l.toArray (LQ w0 K E) fuel listed a w := by
  have fin : ∀ (listed : Array Bool) (a : Act) (w : World) (V : Sel), Inv w0 L mk m l D T rel e R M listed a w V → (∀ i, i < l.length → Sof listed i = true) → LQ w0 K E .normal a w := by
    intro listed a w V I hall
    have hf : frmS l e V (Sof listed) L l.length = frm l e V L l.length := by
      rw [frm_eq_frmS]
      refine ext_nth (by simp [length_frmS]) fun t ht => ?_
      rw [length_frmS] at ht
      by_cases hex : ∃ j, j < l.length ∧ dstOf l j = some t
      · obtain ⟨j, hj, hd⟩ := hex
        have hu : ∀ i', dstOf l i' = some t → i' = j := fun i' h => hc.uniq i' j t (dst_lt h) hj h hd
        rw [nth_frmS_some l.length hj (hall j hj) hd ht hu, nth_frmS_some l.length hj rfl hd ht hu]
      · rw [nth_frmS_none l.length fun j hj _ hd => hex ⟨j, hj, hd⟩, nth_frmS_none l.length fun j hj _ hd => hex ⟨j, hj, hd⟩]
    have hcnt : cnt T (Sof listed) = T.length := by
      unfold cnt
      rw [List.filter_eq_self.2 fun t ht => hall t (hc.tlt t ht)]
    have hheads : heads l.length rel T (Sof listed) = heads l.length rel T fun _ => true := List.filter_congr fun j hj => by rw [hall j (List.mem_range.1 hj)]
    refine ⟨frm l e V L l.length, memT m l.length T rel M T.length V, by rw [I.act, hf], ?_, W.fin V fun i hi hr => I.rels i (hall i hi) hr⟩
    have := I.mem
    rw [hcnt, hheads] at this
    exact this
  have step : ∀ (listed : Array Bool) (a : Act) (w : World) (V : Sel), Inv w0 L mk m l D T rel e R M listed a w V → ∀ i ∈ Region.ready .any l.toArray listed, ∀ (K' : Act → World → Prop),
      (∀ a' w', (∃ V', Inv w0 L mk m l D T rel e R M (listed.setIfInBounds i true) a' w' V') → K' a' w') → wpOpIn (RF lp) n P l.toArray (LQ w0 K E) i K' a w := by
    intro listed a w V I i hi K' hK'
    obtain ⟨hSi, o, ho, hedges⟩ := ready_Sof I.size hi
    have hil : i < l.length := (List.getElem?_eq_some_iff.1 ho).1
    have hDi : ∀ j ∈ Dn D i, Sof listed j = true := fun j hj => by
      obtain ⟨k, hk, h | h⟩ := hc.deps i o ho j hj
      · subst h; exact hedges k hk
      · exact I.closed k (hedges k hk) j h
    have hset : ∀ j, Sof (listed.setIfInBounds i true) j = (Sof listed j || j == i) := fun j => Sof_set (by rw [I.size]; exact hil)
    have hlook : ∀ t ∈ o.looksAt l.toArray, nth (frmS l e V (Sof listed) L l.length) t = nth (frm l e V L i) t := fun t ht => ev_same hc hL I.closed ho hSi hDi ht
    have hwant : Region.wanted o (yielded l.toArray a.tmps) = Region.wanted o (yielded l.toArray (frm l e V L i).toArray) := by
      rw [I.act]; exact wanted_same hlook (by simp [length_frmS, length_frm])
    have hexec : execOp (ev (frmS l e V (Sof listed) L l.length)) o = execOp (ev (frm l e V L i)) o := execOp_same (hc.sel i o ho) hlook
    have hdst : dstOf l i = o.dst := by simp [dstOf, ho]
    have hclosed' : ∀ k, Sof (listed.setIfInBounds i true) k = true → ∀ j ∈ Dn D k, Sof (listed.setIfInBounds i true) j = true := by
      intro k hk j hj
      rw [hset] at hk ⊢
      rcases Bool.or_eq_true _ _ ▸ hk with hk | hk
      · rw [I.closed k hk j hj]; rfl
      · have : k = i := by simpa using hk
        subst this
        rw [hDi j hj]; rfl
    have hRD : ∀ j ∈ Dn D i, rel j = true → R j V := fun j hj hr => I.rels j (hDi j hj) hr
    have hidep : ∀ j, Sof listed j = true → i ∉ Dn D j := fun j hj hd => by rw [I.closed j hj i hd] at hSi; cases hSi
    have hne : ∀ j, Sof listed j = true → j ≠ i := fun j hj h => by subst h; rw [hj] at hSi; cases hSi
    have hjl : ∀ j, Sof listed j = true → j < l.length := fun j hj => by have := Sof_lt hj; rw [I.size] at this; exact this
    have hwp : ∀ (B : Value → World → Prop), Runs P o (ev (frm l e V L i)) w B → (∀ v w', B v w' → K' (fr (put (frmS l e V (Sof listed) L l.length) o.dst v)) w') → o.wpIn (RF lp) n P a w K' (LQ w0 K E) := by
      intro B hB hk
      rw [I.act]
      refine Runs.uponR (hnd i o ho) ?_ hk
      unfold Runs at hB ⊢
      rw [hexec]; exact hB
    -- what is known behind, the operation being relational
    have after_rel : rel i = true → ∀ (x : Value × Mem) (w' : World), R i (updV V i x) → Has w0 mk w' →
        Has w0 (if cnt T (Sof (listed.setIfInBounds i true)) = 0 then m ++ flat (heads l.length rel T (Sof (listed.setIfInBounds i true))) (updV V i x) else M (cnt T (Sof (listed.setIfInBounds i true))) (updV V i x)) w' →
        K' (fr (put (frmS l e V (Sof listed) L l.length) o.dst x.1)) w' := by
      intro hr x w' hR hkp hm
      refine hK' _ _ ⟨updV V i x, ?_⟩
      refine ⟨by simp [I.size], ?_, hclosed', ?_, hkp, hm⟩
      · rw [← hdst]
        exact congrArg fr (put_same hc I.size hil hSi (fun j hj => (W.hdep i j hr hil (hjl j hj) (hidep j hj) (hne j hj) V x).1) x.1 (by rw [W.hrel i hr, updV_same]))
      · intro j hj hrj
        rw [hset] at hj
        by_cases hji : j = i
        · subst hji; exact hR
        · have hj' : Sof listed j = true := by
            have hb : (j == i) = false := by simpa using hji
            rw [hb, Bool.or_false] at hj; exact hj
          exact (W.hdep i j hr hil (hjl j hj') (hidep j hj') (hne j hj') V x).2 hrj (I.rels j hj' hrj)
    -- .. being determined
    have after_det : rel i = false → (i ∉ T) → ∀ (w' : World), Has w (([] : Mem)) w' → K' (fr (put (frmS l e V (Sof listed) L l.length) o.dst (e i V))) w' := by
      intro hr hiT w' hm
      refine hK' _ _ ⟨V, ?_⟩
      have hcnt : cnt T (Sof (listed.setIfInBounds i true)) = cnt T (Sof listed) := by
        unfold cnt
        rw [List.filter_congr fun t ht => ?_]
        rw [hset]
        have : (t == i) = false := by simp; exact fun h => hiT (h ▸ ht)
        rw [this, Bool.or_false]
      have hheads : heads l.length rel T (Sof (listed.setIfInBounds i true)) = heads l.length rel T (Sof listed) := List.filter_congr fun j _ => by
        rw [hset]
        by_cases hji : j = i
        · subst hji; simp [hr]
        · have hb : (j == i) = false := by simpa using hji
          rw [hb, Bool.or_false]
      refine ⟨by simp [I.size], ?_, hclosed', ?_, by have := I.keep.trans hm; rwa [List.append_nil] at this, ?_⟩
      · rw [← hdst]
        exact congrArg fr (put_same hc I.size hil hSi (fun j _ => rfl) _ rfl)
      · intro j hj hrj
        rw [hset] at hj
        by_cases hji : j = i
        · subst hji; rw [hr] at hrj; cases hrj
        · have hb : (j == i) = false := by simpa using hji
          rw [hb, Bool.or_false] at hj
          exact I.rels j hj hrj
      · rw [hcnt, hheads]
        have := I.mem.trans hm
        rwa [List.append_nil] at this
    by_cases hiT : i ∈ T
    · -- an operation of the tail
      obtain ⟨p, hp, hpi⟩ := List.getElem_of_mem hiT
      have hpi' : T.getD p 0 = i := by simp [hp, hpi]
      have hr := W.htail i hiT
      have hbefore : ∀ q, q < p → Sof listed (T.getD q 0) = true := fun q hq => by
        have := hc.tails p q hp hq
        rw [hpi'] at this
        exact hDi _ this
      have hafter : ∀ q, p ≤ q → q < T.length → Sof listed (T.getD q 0) = false := fun q hq hqT => by
        cases h : Sof listed (T.getD q 0) with
        | false => rfl
        | true =>
          rcases Nat.lt_or_ge p q with hlt | hge
          · have := hc.tails q p hqT hlt
            rw [hpi'] at this
            exact absurd this (hidep _ h)
          · have : q = p := by omega
            subst this
            rw [hpi', hSi] at h; cases h
      have hcnt0 : ∀ (S : Nat → Bool) (k : Nat), k ≤ T.length → (∀ q, q < k → S (T.getD q 0) = true) → (∀ q, k ≤ q → q < T.length → S (T.getD q 0) = false) → cnt T S = k := by
        intro S k hk h1 h2
        unfold cnt
        have e1 : T = T.take k ++ T.drop k := (List.take_append_drop k T).symm
        rw [e1, List.filter_append]
        have f1 : (T.take k).filter S = T.take k := List.filter_eq_self.2 fun t ht => by
          obtain ⟨q, hq, rfl⟩ := List.getElem_of_mem ht
          have hq' : q < k := by simp at hq; omega
          have := h1 q hq'
          have hqT : q < T.length := by omega
          simp [hqT] at this
          simpa using this
        have f2 : (T.drop k).filter S = [] := List.filter_eq_nil_iff.2 fun t ht => by
          obtain ⟨q, hq, rfl⟩ := List.getElem_of_mem ht
          have hq' : k + q < T.length := by simp at hq; omega
          have := h2 (k + q) (by omega) hq'
          simp [hq'] at this
          simpa using this
        rw [f1, f2]
        simp; omega
      have hcp : cnt T (Sof listed) = p := hcnt0 _ p (by omega) hbefore hafter
      have hcp' : cnt T (Sof (listed.setIfInBounds i true)) = p + 1 := hcnt0 _ (p + 1) (by omega) (fun q hq => by
          rw [hset]
          rcases Nat.lt_or_ge q p with h | h
          · rw [hbefore q h]; rfl
          · have : q = p := by omega
            subst this
            rw [hpi']; simp) (fun q hq hqT => by
          rw [hset, hafter q (by omega) hqT]
          have : T.getD q 0 ≠ i := by
            intro h
            rw [← hpi'] at h
            simp [hqT, hp] at h
            have := (List.getElem_inj hc.tnodup).1 h
            omega
          simpa using this)
      obtain ⟨hg, ht⟩ := W.tail p o hp (by rw [hpi']; exact ho)
      have ht := ht V (by rw [hpi']; exact hRD)
      have hmem : Has w0 (memT m l.length T rel M p V) w := by
        have := I.mem
        rw [hcp] at this
        unfold memT
        by_cases h0 : p = 0
        · rw [if_pos h0] at this ⊢
          have hh : heads l.length rel T (Sof listed) = heads l.length rel T fun _ => true := List.filter_congr fun j hj => by
            by_cases hrj : rel j = true
            · by_cases hjT : j ∈ T
              · simp [hjT]
              · have := W.hhead j hrj (List.mem_range.1 hj) hjT i hiT
                rw [hDi j this]
            · simp [hrj]
          rwa [hh] at this
        · rw [if_neg h0] at this ⊢; exact this
      refine wpR_op_of_rel ho (fun _ => ?_) (fun hw => ?_)
      · rw [hpi'] at ht
        refine hwp _ (ht w hmem) ?_
        rintro v w' ⟨m', ⟨x, hRx, rfl, hsub⟩, hm'⟩
        refine after_rel hr (v, x) w' hRx (hm'.sub hsub) ?_
        rw [hcp', if_neg (by omega)]
        exact hm'
      · simp [Region.wanted, hg] at hw
    · -- an operation of the head
      have hh := W.head i o ho hiT V hRD
      have hmemH : Has w0 (memH mk m l.length D T rel i V) w := by
        unfold memH
        by_cases he : early D T i = true
        · rw [if_pos he]
          have hc0 : cnt T (Sof listed) = 0 := cnt_zero.2 fun t ht => by
            cases h : Sof listed t with
            | false => rfl
            | true =>
              exfalso
              obtain ⟨t0, T', hT⟩ : ∃ t0 T', T = t0 :: T' := by
                cases hT : T with
                | nil => rw [hT] at ht; cases ht
                | cons t0 T' => exact ⟨t0, T', rfl⟩
              have he' : i ∈ Dn D t0 := by simp only [early, hT] at he; simpa using he
              have ht0 : Sof listed t0 = true := by
                obtain ⟨q, hq, hqt⟩ := List.getElem_of_mem ht
                rcases Nat.eq_zero_or_pos q with h0 | h0
                · subst h0
                  have : T[0] = t0 := by simp [hT]
                  rw [← this, hqt]; exact h
                · have := hc.tails q 0 hq h0
                  have e1 : T.getD q 0 = t := by simp [hq, hqt]
                  have e2 : T.getD 0 0 = t0 := by simp [hT]
                  rw [e1, e2] at this
                  exact I.closed t h t0 this
              exact hidep t0 ht0 he'
          have := I.mem
          rw [if_pos hc0] at this
          refine this.sub ((List.Sublist.refl m).append (flat_sub V (filter_sub _ fun j _ hj => ?_)))
          simp only [Bool.and_eq_true] at hj ⊢
          refine ⟨⟨hDi j (by simpa using hj.1.1), hj.1.2⟩, hj.2⟩
        · rw [if_neg he]; exact I.keep
      have rel_mem : rel i = true → ∀ (x : Value × Mem) (w' : World), Has w x.2 w' →
          Has w0 (if cnt T (Sof (listed.setIfInBounds i true)) = 0 then m ++ flat (heads l.length rel T (Sof (listed.setIfInBounds i true))) (updV V i x) else M (cnt T (Sof (listed.setIfInBounds i true))) (updV V i x)) w' := by
        intro hr x w' hx
        have hc0 : ∀ t ∈ T, Sof listed t = false := fun t ht => by
          cases h : Sof listed t with
          | false => rfl
          | true => exact absurd (W.hhead i hr hil hiT t ht) (hidep t h)
        have hc0' : cnt T (Sof (listed.setIfInBounds i true)) = 0 := cnt_zero.2 fun t ht => by
          rw [hset, hc0 t ht]
          simp; exact fun h => hiT (h ▸ ht)
        have hm := I.mem
        rw [if_pos (cnt_zero.2 hc0)] at hm
        rw [if_pos hc0']
        refine (hm.trans hx).perm ?_
        rw [List.append_assoc]
        refine List.Perm.append_left m ?_
        have hp : (fun j => Sof (listed.setIfInBounds i true) j && rel j && !T.contains j) = fun j => (Sof listed j && rel j && !T.contains j) || j == i := by
          funext j
          rw [hset]
          by_cases hji : j = i
          · subst hji
            simp [hr]; exact hiT
          · have hb : (j == i) = false := by simpa using hji
            simp [hb]
        have e1 : flat (heads l.length rel T (Sof listed)) V = flat ((List.range l.length).filter fun j => Sof listed j && rel j && !T.contains j) (updV V i x) := flat_congr fun j hj => by
          have : Sof listed j = true := by
            simp only [heads, List.mem_filter, Bool.and_eq_true] at hj
            exact hj.2.1.1
          exact (updV_ne V x (hne j this)).symm
        rw [e1]
        unfold heads
        rw [hp]
        have := flat_insert (V := updV V i x) (p := fun j => Sof listed j && rel j && !T.contains j) (i := i) (List.range l.length) List.nodup_range (List.mem_range.2 hil) (by simp [hSi])
        rw [updV_same] at this
        exact this
      refine wpR_op_of_rel ho (fun hw => ?_) (fun hw => ?_)
      · rw [hwant] at hw
        rw [if_pos hw] at hh
        obtain ⟨X, hX, hh⟩ := hh
        have hmemX : Has w0 X w := by
          rcases hX with rfl | ⟨hla, hea, rfl⟩
          · exact hmemH
          · have hc1 : cnt T (Sof listed) = T.length := by
              unfold cnt
              rw [List.filter_eq_self.2 fun t ht => hDi t (by have := List.all_eq_true.1 hla t ht; simpa using this)]
            have hc2 : T.length ≠ 0 := fun h0 => by
              rw [List.length_eq_zero_iff.1 h0] at hea; cases hea
            have hm := I.mem
            rw [hc1, if_neg hc2] at hm
            exact hm
        refine hwp _ (hh w hmemX) ?_
        rintro v w' ⟨mi, hv, hmi⟩
        cases hr : rel i with
        | true =>
          rw [hr, if_pos rfl] at hv
          exact after_rel hr (v, mi) w' hv ((I.keep.trans hmi).sub (List.sublist_append_left _ _)) (rel_mem hr (v, mi) w' hmi)
        | false =>
          rw [hr] at hv
          simp only [Bool.false_eq_true, if_false] at hv
          obtain ⟨rfl, rfl⟩ := hv
          exact after_det hr hiT w' hmi
      · rw [hwant] at hw
        rw [if_neg (by rw [hw]; simp)] at hh
        rw [I.act, put_fr]
        cases hr : rel i with
        | true =>
          rw [hr, if_pos rfl] at hh
          exact after_rel hr (undef, []) w hh I.keep (rel_mem hr (undef, []) w (Has.nil w))
        | false =>
          rw [hr] at hh
          simp only [Bool.false_eq_true, if_false] at hh
          rw [← hh]
          exact after_det hr hiT w (Has.nil w)
  intro fuel
  induction fuel with
  | zero =>
    intro listed a w hn ⟨V, I⟩
    have hall : ∀ i, i < l.length → Sof listed i = true := fun i hi => by
      cases h : Sof listed i with
      | true => rfl
      | false =>
        have : i ∈ (List.range l.length).filter fun j => !Sof listed j := List.mem_filter.2 ⟨List.mem_range.2 hi, by simp [h]⟩
        rw [List.eq_nil_of_length_eq_zero (Nat.le_zero.1 hn)] at this
        cases this
    refine ⟨?_, fin listed a w V I hall⟩
    cases hr : Region.ready .any l.toArray listed with
    | nil => rfl
    | cons i r =>
      have := (ready_Sof I.size (i := i) (by rw [hr]; simp))
      obtain ⟨h0, o, ho, _⟩ := this
      rw [hall i (List.getElem?_eq_some_iff.1 ho).1] at h0
      cases h0
  | succ fuel ih =>
    intro listed a w hn ⟨V, I⟩
    refine ⟨fun hr => fin listed a w V I (all_of_ready_nil I.size hc hr), fun i hi => ?_⟩
    refine step listed a w V I i hi _ fun a' w' hI => ih _ a' w' ?_ hI
    obtain ⟨hSi, o, ho, _⟩ := ready_Sof I.size hi
    have hil : i < l.length := (List.getElem?_eq_some_iff.1 ho).1
    have hset : ∀ j, Sof (listed.setIfInBounds i true) j = (Sof listed j || j == i) := fun j => Sof_set (by rw [I.size]; exact hil)
    have hlt : ((List.range l.length).filter fun j => !Sof (listed.setIfInBounds i true) j).length < ((List.range l.length).filter fun j => !Sof listed j).length := by
      have hsub : ((List.range l.length).filter fun j => !Sof (listed.setIfInBounds i true) j).Sublist ((List.range l.length).filter fun j => !Sof listed j) := filter_sub _ fun j _ hj => by
        rw [hset] at hj
        simp only [Bool.not_eq_true', Bool.or_eq_false_iff] at hj ⊢
        exact hj.1
      refine Nat.lt_of_le_of_ne hsub.length_le fun heq => ?_
      have heq' := hsub.eq_of_length heq
      have hin : i ∈ (List.range l.length).filter fun j => !Sof listed j := List.mem_filter.2 ⟨List.mem_range.2 hil, by simp [hSi]⟩
      rw [← heq', List.mem_filter, hset] at hin
      simp at hin
    omega

/-- **A region that draws its order.** -/
theorem RC_drawn (hnd : ∀ (i : Nat) (o : Oper), l[i]? = some o → ∀ c, o.op ≠ .defer c) {id : Nat} (hm : P.follows .mixedOrders = true) (hc : chk l D T L.length = true) (W : Walked P w0 K L mk m l D T rel e R M) : RC lp n P w0 (.region id l.toArray true) K E L m := by
  intro w hw
  refine wpIn_region_any hm ?_
  have hS : ∀ j, Sof (Array.replicate l.toArray.size false) j = false := fun j => by
    unfold Sof
    by_cases h : j < l.length <;> simp [h]
  refine walkR_all hnd (chk_spec hc) rfl W _ _ _ _ (by simpa using List.length_filter_le _ (List.range l.length)) ⟨fun _ => (undef, []), ?_⟩
  refine ⟨by simp, ?_, (fun k hk => by rw [hS] at hk; cases hk), (fun i hi => by rw [hS] at hi; cases hi), hw.drew.sub W.hmk, ?_⟩
  · congr 1
    refine ext_nth (by simp [length_frmS]) fun t _ => ?_
    rw [nth_frmS_none l.length fun j _ hj => by rw [hS] at hj; cases hj]
  · have h0 : cnt T (Sof (Array.replicate l.toArray.size false)) = 0 := cnt_zero.2 fun t _ => hS t
    rw [if_pos h0]
    have h1 : heads l.length rel T (Sof (Array.replicate l.toArray.size false)) = [] := List.filter_eq_nil_iff.2 fun j _ => by rw [hS]; simp
    rw [h1]
    simp only [flat, List.flatMap_nil, List.append_nil]
    exact hw.drew

end
section
variable {lp n : Nat} {P : Program} {w0 : World} {K : List Value → Mem → Prop} {E : Exit → List Value → Mem → Prop} {L : List Value} {mk m : Mem} {l : List Oper} {D : List (List Nat)} {T : List Nat}
/-- **A region that draws its order, walked in the order of the text.** -/
theorem RC_draw (hnd : ∀ (i : Nat) (o : Oper), l[i]? = some o → ∀ c, o.op ≠ .defer c) (D : List (List Nat)) (T : List Nat) (nt : Nat) (mk : Mem) (hmk : mk.Sublist m) {id : Nat} (hm : P.follows .mixedOrders = true) (hn : L.length = nt) (hc : chk l D T nt = true) (h : RW P w0 K mk m l D T 0 (fun _ => L) [] [] []) : RC lp n P w0 (.region id l.toArray true) K E L m := by
  subst hn
  have hC := chk_spec hc
  obtain ⟨es, Rs, Ms, hf⟩ := from_of_RW (L := L) hC hmk h rfl rfl (Nat.zero_le _) (fun V => rfl)
  refine RC_drawn hnd (D := D) (T := T) (rel := relOf Rs) (e := eOf es) (R := ROf Rs) (M := MOf Ms) hm hc ⟨hmk, ?_, ?_, ?_, ?_, ?_, ?_, ?_⟩
  · intro i hi V
    by_cases hil : i < l.length
    · exact (hf.each i (Nat.zero_le _) hil _ (List.getElem?_eq_getElem hil)).2.2.1 hi V
    · have : Rs.getD i none = none := by simp [List.getElem?_eq_none (show Rs.length ≤ i by rw [hf.lr]; omega)]
      simp only [relOf, this] at hi; cases hi
  · intro t ht
    have hil := hC.tlt t ht
    exact (hf.each t (Nat.zero_le _) hil _ (List.getElem?_eq_getElem hil)).2.2.2.1 ht
  · intro i hi hil hiT
    exact (hf.each i (Nat.zero_le _) hil _ (List.getElem?_eq_getElem hil)).2.2.2.2.1 hi hiT
  · intro i j hi hil hjl hd hne V x
    have hj := hf.each j (Nat.zero_le _) hjl _ (List.getElem?_eq_getElem hjl)
    have hag : ∀ k ∈ Dn D j, updV V i x k = V k := fun k hk => updV_ne V x fun e => hd (e ▸ hk)
    have hjj : updV V i x j = V j := updV_ne V x hne
    exact ⟨hj.1 _ _ hag fun _ => hjj, fun _ hR => hj.2.1 V _ (fun k hk => (hag k hk).symm) hjj.symm hR⟩
  · intro i o ho hiT V hV
    have hil : i < l.length := (List.getElem?_eq_some_iff.1 ho).1
    exact (hf.each i (Nat.zero_le _) hil o ho).2.2.2.2.2.1 hiT V fun k hk => by
      by_cases hr : relOf Rs k = true
      · exact hV k hk hr
      · intro R hR
        simp only [relOf, hR] at hr
        simp at hr
  · intro p o hp ho
    have hil : T.getD p 0 < l.length := (List.getElem?_eq_some_iff.1 ho).1
    obtain ⟨h1, h2⟩ := (hf.each _ (Nat.zero_le _) hil o ho).2.2.2.2.2.2 p hp rfl
    refine ⟨h1, fun V hV => h2 V fun k hk => ?_⟩
    by_cases hr : relOf Rs k = true
    · exact hV k hk hr
    · intro R hR
      simp only [relOf, hR] at hr
      simp at hr
  · intro V hV
    exact hf.fin V fun j hj => by
      by_cases hr : relOf Rs j = true
      · exact hV j hj hr
      · intro R hR
        simp only [relOf, hR] at hr
        simp at hr
end
end Go.MW

namespace Go.MW
open Go.RowKit

def frD (d : List Deferred) (L : List Value) : Act := { tmps := L.toArray, defers := d }
theorem eval_frD (d : List Deferred) (L : List Value) : (frD d L).eval = ev L := by
  funext x
  cases x <;> first | rfl | exact nth_eq _ _
theorem put_frD (d : List Deferred) (L : List Value) (t : Option Tmp) (v : Value) : (frD d L).put t v = frD d (put L t v) := by
  cases t <;> simp [frD, Act.put, put]
def lfD (d : List Deferred) (w0 : World) (K : List Value → Mem → Prop) (a : Act) (w : World) : Prop := ∃ L m, a = frD d L ∧ Has w0 m w ∧ K L m
def LQD (d : List Deferred) (w0 : World) (K : List Value → Mem → Prop) (E : Exit → List Value → Mem → Prop) : Exit → Act → World → Prop
  | .normal, a, w => lfD d w0 K a w
  | .outgrown, _, _ => False
  | .panic _, _, _ => False
  | e, a, w => lfD d w0 (E e) a w
def DC (d : List Deferred) (P : Program) (w0 : World) (c : Code) (K : List Value → Mem → Prop) (E : Exit → List Value → Mem → Prop) (L : List Value) (m : Mem) : Prop :=
  ∀ w, Has w0 m w → c.wp P (LQD d w0 K E) (frD d L) w
def DL (d : List Deferred) (P : Program) (w0 : World) (ops : Array Oper) (K : List Value → Mem → Prop) (E : Exit → List Value → Mem → Prop) (os : List Oper) (L : List Value) (m : Mem) : Prop :=
  ∀ w, Has w0 m w → wpList P ops (LQD d w0 K E) os (frD d L) w

section
variable {d : List Deferred} {P : Program} {w0 : World} {K : List Value → Mem → Prop} {E : Exit → List Value → Mem → Prop} {L : List Value} {m : Mem}

theorem DC.forget {c : Code} {m' : Mem} (hs : m'.Sublist m) (h : DC d P w0 c K E L m') : DC d P w0 c K E L m := fun w hw => h w (hw.sub hs)
theorem DC_seq {x y : Code} (h : DC d P w0 x (fun L m => DC d P w0 y K E L m) E L m) : DC d P w0 (.seq x y) K E L m := by
  intro w hw
  refine wp_seq (wp_mono (h w hw) ?_)
  intro e a w' hq
  cases e with
  | normal => obtain ⟨L', m', rfl, hw', hk⟩ := hq; exact hk w' hw'
  | outgrown => exact hq
  | panic c => exact hq
  | exit id => exact hq
  | goto l => exact hq
  | ret => exact hq
theorem DC_ret (h : E .ret L m) : DC d P w0 .ret K E L m := fun _ hw => wp_ret ⟨L, m, rfl, hw, h⟩
theorem DC_region {id : Nat} {os : List Oper} (h : DL d P w0 os.toArray K E os L m) : DC d P w0 (.region id os.toArray false) K E L m := fun w hw => wp_region_lit (h w hw)
theorem DL_nil {ops : Array Oper} (h : K L m) : DL d P w0 ops K E [] L m := fun _ hw => wpList_nil ⟨L, m, rfl, hw, h⟩

variable {ops : Array Oper} {rest : List Oper} {o : Oper}
theorem Runs.uponD {o : Oper} {L : List Value} {w : World} {R : Value → World → Prop} {Q : Exit → Act → World → Prop} {next : Act → World → Prop}
    (h : Runs P o (ev L) w R) (hn : ∀ v w', R v w' → next (frD d (put L o.dst v)) w') : o.wp P (frD d L) w next Q := by
  unfold Oper.wp
  rw [eval_frD]
  unfold Runs at h
  cases hr : (execOp (ev L) o).run P w with
  | halt x w' => rw [hr] at h; exact h.elim
  | ok k w' =>
    rw [hr] at h
    cases k with
    | value v => rw [Oper.upon_value, put_frD]; exact hn _ _ h
    | skip => rw [Oper.upon_skip, put_frD]; exact hn _ _ h
    | enter f args =>
      rw [Oper.upon_enter]
      refine h.mono ?_
      rintro e w'' ⟨v, rfl, hv⟩
      show next ((frD d L).put o.dst v) w''
      rw [put_frD]; exact hn _ _ hv
    | _ => exact h.elim
theorem DL_chg {R : Value → Mem → Prop} (hg : o.guard = none) (h : Chg P w0 m (ev L) o R) (k : ∀ v m', R v m' → DL d P w0 ops K E rest (put L o.dst v) m') :
    DL d P w0 ops K E (o :: rest) L m := by
  intro w hw
  refine wpList_plain hg fun _ hK => ?_
  refine Runs.uponD (h w hw) ?_
  rintro v w' ⟨m', hr, hh⟩
  exact hK _ _ (k v m' hr w' hh)
theorem DL_rel {R : Value → Mem → Prop} (hg : o.guard = none) (h : Rel P w0 m (ev L) o R) (k : ∀ v mi, R v mi → DL d P w0 ops K E rest (put L o.dst v) (m ++ mi)) :
    DL d P w0 ops K E (o :: rest) L m :=
  DL_chg hg h.chg fun v _ ⟨mi, hm, hr⟩ => hm ▸ k v mi hr
theorem DL_det {v : Value} (hg : o.guard = none) (h : Det P w0 m (ev L) o v) (k : DL d P w0 ops K E rest (put L o.dst v) m) : DL d P w0 ops K E (o :: rest) L m := by
  refine DL_rel hg h.rel ?_
  rintro v' mi ⟨rfl, rfl⟩
  rwa [List.append_nil]
end
end Go.MW

namespace Go.MW
open Go.RowKit

/-- What is left to do comes to the function's end. -/
def TC (P : Program) (fn : Func) (w0 : World) (R : Value → Mem → Prop) (c : Code) (L : List Value) (m : Mem) : Prop :=
  ∀ w, Has w0 m w → c.wpIn Fence.wide 3 P (bodyPostM Fence.wide 3 P fn (Post w0 R)) (fr L) w

theorem calls_of_TC {P : Program} {f : FuncId} {fn : Func} {c : Code} {args : List Value} {w : World} {R : Value → Mem → Prop} (hf : P.funcs[f]? = some fn) (hb : fn.body = some c)
    (h : TC P fn w R c (args ++ List.replicate (fn.ntmps - args.length) undef) []) : Calls P f args.toArray w (Post w R) := by
  refine callsIn_wide.1 (callsIn_of_wp_marks (n := 3) hf hb trivial ?_)
  have hfr : ({ tmps := args.toArray ++ Array.replicate (fn.ntmps - args.toArray.size) undef, defers := [] } : Act) = fr (args ++ List.replicate (fn.ntmps - args.length) undef) := by
    simp [fr]
  rw [hfr]
  exact h w (Has.nil w)

section
variable {P : Program} {fn : Func} {w0 : World} {R : Value → Mem → Prop} {L : List Value} {m : Mem}
theorem post_of_LQ {e : Exit} {a : Act} {w : World} (hq : LQ w0 (Fin P fn w0 R) (EFin P fn w0 R) e a w) : bodyPostM Fence.wide 3 P fn (Post w0 R) e a w := by
  cases e with
  | normal =>
    obtain ⟨L, m, rfl, hw, hk⟩ := hq
    obtain ⟨v, mi, hr, hR, hm⟩ := hk w hw
    exact ⟨v, hr, v, mi, rfl, hR, hm⟩
  | ret =>
    obtain ⟨L, m, rfl, hw, hk⟩ := hq
    obtain ⟨v, mi, hr, hR, hm⟩ := hk w hw
    exact ⟨v, hr, v, mi, rfl, hR, hm⟩
  | outgrown => exact hq.elim
  | panic c => exact hq.elim
  | exit id => obtain ⟨L, m, rfl, hw, hk⟩ := hq; exact hk.elim
  | goto l => obtain ⟨L, m, rfl, hw, hk⟩ := hq; exact hk.elim
theorem TC_seq {x y : Code} (h : WC P w0 x (fun L m => TC P fn w0 R y L m) (EFin P fn w0 R) L m) : TC P fn w0 R (.seq x y) L m := by
  intro w hw
  refine wpIn_seq (wpIn_wide.2 (wp_mono (h w hw) ?_))
  intro e a w' hq
  cases e with
  | normal => obtain ⟨L', m', rfl, hw', hk⟩ := hq; exact hk w' hw'
  | outgrown => exact hq.elim
  | panic c => exact hq.elim
  | exit id => exact post_of_LQ (e := .exit id) (P := P) (fn := fn) (R := R) hq
  | goto l => exact post_of_LQ (e := .goto l) (P := P) (fn := fn) (R := R) hq
  | ret => exact post_of_LQ (e := .ret) (P := P) (fn := fn) (R := R) hq

/-- How a body ends that has the mark D among what it deferred. -/
def FinD (P : Program) (fn : Func) (D : Nat) (R : Value → Mem → Prop) (L : List Value) (m : Mem) : Prop :=
  ∃ v mi, (∀ w, (results fn L.toArray).run P w = .ok v w) ∧ R v mi ∧ (mi ++ [((some D, Obj.deferred (some [])) : Option Nat × Obj)]).Sublist m
def EFinD (P : Program) (fn : Func) (D : Nat) (R : Value → Mem → Prop) : Exit → List Value → Mem → Prop
  | .ret, L, m => FinD P fn D R L m
  | _, _, _ => False
theorem Has.shut {w : World} {mi : Mem} {D : Nat} {o : Obj} (o' : Obj) (h : Has w0 (mi ++ [(some D, o)]) w) : Has w0 mi (w.putObj D o') := by
  have hD := h.blk D o (by simp)
  have hn := h.nodup
  rw [List.filterMap_append] at hn
  have hne : ∀ b x, (some b, x) ∈ mi → b ≠ D := fun b x hx e => by
    subst e
    have h1 := List.nodup_append.1 hn
    exact h1.2.2 b (List.mem_filterMap.2 ⟨_, hx, rfl⟩) b (by simp) rfl
  refine ⟨?_, fun b x hx => ?_, (List.nodup_append.1 hn).1⟩
  · exact (h.below).grown (grownBy_putObj' w D o') h.below.size fun k e => by cases e; exact hD.1
  · have hb := h.blk b x (List.mem_append_left _ hx)
    exact ⟨hb.1, by rw [World.putObj_heap_other (hne b x hx)]; exact hb.2⟩
theorem leave_D {D : Nat} {L : List Value} {m : Mem} {w : World} (hk : FinD P fn D R L m) (hw : Has w0 m w) : LeavesInM Fence.wide 3 P fn L.toArray (Post w0 R) [{ target := .collected D, args := #[] }] .returning w := by
  obtain ⟨v, mi, hr, hR, hs⟩ := hk
  have hw1 := hw.sub hs
  refine ⟨by simp, .inl ⟨D, _, rfl, run_takeDeferred ((hw1.blk D _ (by simp)).2), ?_⟩⟩
  exact ⟨v, hr _, v, mi, rfl, hR, hw1.shut _⟩
theorem wp_of_DC {D : Nat} {c : Code} (h : DC [{ target := .collected D, args := #[] }] P w0 c (FinD P fn D R) (EFinD P fn D R) L m) {w : World} (hw : Has w0 m w) :
    c.wpIn Fence.wide 3 P (bodyPostM Fence.wide 3 P fn (Post w0 R)) (frD [{ target := .collected D, args := #[] }] L) w := by
  refine wpIn_wide.2 (wp_mono (h w hw) ?_)
  intro e a w' hq
  cases e with
  | normal => obtain ⟨L', m', rfl, hw', hk⟩ := hq; exact leave_D hk hw'
  | ret => obtain ⟨L', m', rfl, hw', hk⟩ := hq; exact leave_D hk hw'
  | outgrown => exact hq.elim
  | panic c => exact hq.elim
  | exit id => obtain ⟨L', m', rfl, hw', hk⟩ := hq; exact hk.elim
  | goto l => obtain ⟨L', m', rfl, hw', hk⟩ := hq; exact hk.elim
end
end Go.MW

namespace Go.MW
open Go.RowKit

/-- These blocks lie as they lay. -/
def CapK (caps : List Nat) (W W' : World) : Prop := ∀ b ∈ caps, W'.heap[b]? = W.heap[b]?
theorem Has.keptBy {w0 W W' : World} {m : Mem} {row : Option Nat} {B : Nat} (h : Has w0 m W) (hc : ∀ b o, (some b, o) ∈ m → o.isCells = true) (hB : w0.heap.size ≤ B) (hg : W.grownBy W' row)
    (hr : ∀ r, row = some r → B ≤ r ∧ ∃ o : Obj, W.heap[r]? = some o ∧ o.isCells = false) : Has w0 m W' := by
  refine ⟨h.below.grown hg h.below.size fun k e => Nat.le_trans hB (hr k e).1, fun b o hb => ?_, h.nodup⟩
  have h1 := h.blk b o hb
  refine ⟨h1.1, ?_⟩
  rw [hg.block b (lt_of_heap h1.2) fun e => ?_]
  · exact h1.2
  · obtain ⟨_, x, hx, hx2⟩ := hr b e.symm
    rw [h1.2] at hx
    have : o = x := by simpa using hx
    subst this
    have := hc b o hb
    rw [hx2] at this; cases this
end Go.MW

namespace Go.MW
open Go.RowKit

def keysOf (m : Mem) : List Nat := m.filterMap Prod.fst
/-- All blocks from B on that a memory does not name. -/
def unnamed (B : Nat) (W : World) (ks : List Nat) : Mem := (List.range W.heap.size).filterMap fun k => match W.heap[k]? with
  | some o => if B ≤ k ∧ k ∉ ks then some (some k, o) else none
  | none => none
theorem mem_unnamed {B : Nat} {W : World} {ks : List Nat} {k : Nat} {o : Obj} : (some k, o) ∈ unnamed B W ks ↔ B ≤ k ∧ k ∉ ks ∧ W.heap[k]? = some o := by
  unfold unnamed
  rw [List.mem_filterMap]
  constructor
  · rintro ⟨j, _, h⟩
    cases hj : W.heap[j]? with
    | none => rw [hj] at h; cases h
    | some x =>
      rw [hj] at h
      simp only at h
      split at h
      · rename_i hc
        simp only [Option.some.injEq, Prod.mk.injEq] at h
        obtain ⟨rfl, rfl⟩ := h
        exact ⟨hc.1, hc.2, hj⟩
      · cases h
  · rintro ⟨h1, h2, h3⟩
    refine ⟨k, List.mem_range.2 (lt_of_heap h3), ?_⟩
    rw [h3]; simp [h1, h2]
theorem unnamed_keys (B : Nat) (W : World) (ks : List Nat) : (keysOf (unnamed B W ks)).Nodup := by
  have h : (keysOf (unnamed B W ks)).Sublist (List.range W.heap.size) := by
    unfold unnamed keysOf
    generalize List.range W.heap.size = l
    induction l with
    | nil => simp
    | cons k l ih =>
      simp only [List.filterMap_cons]
      cases hk : W.heap[k]? with
      | none => exact ih.cons _
      | some o =>
        simp only
        by_cases hc : B ≤ k ∧ k ∉ ks
        · rw [if_pos hc]; simp only [List.filterMap_cons]; exact ih.cons_cons _
        · rw [if_neg hc]; exact ih.cons _
  exact h.nodup List.nodup_range
theorem Has.withUnnamed {w0 W : World} {m : Mem} (h : Has w0 m W) : Has w0 (m ++ unnamed w0.heap.size W (keysOf m)) W := by
  refine ⟨h.below, fun b o hb => ?_, ?_⟩
  · rcases List.mem_append.1 hb with hb | hb
    · exact h.blk b o hb
    · have := mem_unnamed.1 hb; exact ⟨this.1, this.2.2⟩
  · rw [List.filterMap_append]
    refine List.nodup_append.2 ⟨h.nodup, unnamed_keys _ _ _, fun b h1 b' h2 e => ?_⟩
    subst e
    obtain ⟨o', ho'⟩ := mem_keys.1 h2
    exact (mem_unnamed.1 ho').2.1 h1
theorem length_le_of_mem : ∀ (l l' : List Nat), l.Nodup → (∀ x ∈ l, x ∈ l') → l.length ≤ l'.length
  | [], _, _, _ => Nat.zero_le _
  | x :: l, l', hn, h => by
    obtain ⟨hx, hn'⟩ := List.nodup_cons.1 hn
    have hm := h x (by simp)
    have ih := length_le_of_mem l (l'.erase x) hn' fun y hy => by
      have hne : y ≠ x := fun e => hx (e ▸ hy)
      exact (List.mem_erase_of_ne hne).2 (h y (by simp [hy]))
    rw [List.length_erase_of_mem hm] at ih
    have := List.length_pos_of_mem hm
    simp only [List.length_cons]; omega
/-- The heap has not shrunk. -/
theorem size_of_unnamed {w0 W W' : World} {m m' : Mem} (h : Has w0 m W) (h' : Has w0 (m' ++ unnamed w0.heap.size W (keysOf m)) W') (hc : (keysOf m).length ≤ (keysOf m').length) : W.heap.size ≤ W'.heap.size := by
  have hW := h.below.size
  have hW' := h'.below.size
  have h1 : (List.range' w0.heap.size (W.heap.size - w0.heap.size)).length ≤ (keysOf (m ++ unnamed w0.heap.size W (keysOf m))).length := by
    refine length_le_of_mem _ _ List.nodup_range' fun k hk => ?_
    rw [List.mem_range'_1] at hk
    unfold keysOf
    rw [List.filterMap_append, List.mem_append]
    by_cases hk2 : k ∈ keysOf m
    · exact .inl hk2
    · exact .inr (mem_keys.2 ⟨W.heap[k]'(by omega), mem_unnamed.2 ⟨hk.1, hk2, Array.getElem?_eq_getElem (by omega)⟩⟩)
  have h2 : (keysOf (m' ++ unnamed w0.heap.size W (keysOf m))).length ≤ (List.range' w0.heap.size (W'.heap.size - w0.heap.size)).length := by
    refine length_le_of_mem _ _ h'.nodup fun k hk => ?_
    obtain ⟨o, ho⟩ := mem_keys.1 hk
    have hb := h'.blk k o ho
    have := lt_of_heap hb.2
    rw [List.mem_range'_1]; omega
  unfold keysOf at h1 h2 hc
  rw [List.filterMap_append, List.length_append, List.length_range'] at h1 h2
  omega
theorem keeps_of_unnamed {w0 W W' : World} {m m' : Mem} (h : Has w0 m W) (hcells : ∀ b o, (some b, o) ∈ m → o.isCells = true) (h' : Has w0 (m' ++ unnamed w0.heap.size W (keysOf m)) W') (hc : (keysOf m).length ≤ (keysOf m').length) : KeepsOthers W W' :=
  ⟨size_of_unnamed h h' hc, fun k o hk ho => by
    by_cases hB : w0.heap.size ≤ k
    · refine (h'.blk k o (List.mem_append_right _ (mem_unnamed.2 ⟨hB, fun hm => ?_, hk⟩))).2
      obtain ⟨x, hx⟩ := mem_keys.1 hm
      have h1 := (h.blk k x hx).2
      rw [hk] at h1
      have h2 : o = x := by simpa using h1
      have h3 := hcells k x hx
      rw [← h2, ho] at h3; cases h3
    · rw [h'.below.block k (by omega), ← h.below.block k (by omega)]; exact hk⟩
end Go.MW

namespace Go.MW
open Go.RowKit

/-- Behind y stands z; what is left to do comes to the function's end. -/
def TB (P : Program) (fn : Func) (w0 : World) (R : Value → Mem → Prop) (y z : Code) (L : List Value) (m : Mem) : Prop :=
  ∀ w, Has w0 m w → y.wpIn Fence.wide 3 P (Exit.then (z.wpIn Fence.wide 3 P (bodyPostM Fence.wide 3 P fn (Post w0 R))) (bodyPostM Fence.wide 3 P fn (Post w0 R))) (fr L) w
theorem TC_seqB {P : Program} {fn : Func} {w0 : World} {R : Value → Mem → Prop} {x y z : Code} {L : List Value} {m : Mem} (h : WC P w0 x (fun L m => TB P fn w0 R y z L m) (fun _ _ _ => False) L m) : TC P fn w0 R (.seq (.seq x y) z) L m := by
  intro w hw
  refine wpIn_seq (wpIn_seq (wpIn_wide.2 (wp_mono (h w hw) ?_)))
  intro e a w' hq
  cases e with
  | normal => obtain ⟨L', m', rfl, hw', hk⟩ := hq; exact hk w' hw'
  | outgrown => exact hq.elim
  | panic c => exact hq.elim
  | exit id => obtain ⟨_, _, _, _, h⟩ := hq; exact h.elim
  | goto l => obtain ⟨_, _, _, _, h⟩ := hq; exact h.elim
  | ret => obtain ⟨_, _, _, _, h⟩ := hq; exact h.elim

abbrev mark (D : Nat) : List Deferred := [{ target := .collected D, args := #[] }]
theorem TC_range {P : Program} {fn : Func} {w0 : World} {R : Value → Mem → Prop} {L : List Value} {m : Mem} {α ι : Type} {id : Nat} {g : Operand} {ps : Array Tmp} {assign body rest : Code} {gf : Nat} {lb : Array Value} {encs : α → Array Value} {S Sp : List α → Prop} {N : Nat} (caps : List Nat)
    (hg : ev L g = .func (.func gf) #[] lb) (eg : ∀ args w, (callFunc gf args).run P w = .ok (.enter gf args) w) (hps : ∀ x, (encs x).size = ps.size)
    (hseq : ∀ w, Has w0 m w → SeqStopsK Fence.wide 2 P gf lb encs (CapK caps) S Sp N w)
    (Inv InvX : List α → ι → Prop) (M : ι → Mem) (x0 : ι) (hM : M x0 = m) (h0 : Inv [] x0)
    (hcells : ∀ pre x, (Inv pre x ∨ InvX pre x) → ∀ b o, (some b, o) ∈ M x → o.isCells = true) (hcap : ∀ b ∈ caps, ∃ o, ∀ x, (some b, o) ∈ M x) (hlen : ∀ pre a x x', Inv pre x → (Inv (pre ++ [a]) x' ∨ InvX (pre ++ [a]) x') → (keysOf (M x)).length ≤ (keysOf (M x')).length) (L1 : α → List Value)
    (hassign : ∀ (l : Nat) (x : α) (W : World) (K : Act → World → Prop), K (fr (L1 x)) W → assign.wpIn (RF l) 1 P (Exit.then K (fun _ _ _ => False)) { tmps := (ps.zip (encs x)).foldl (fun t (p, v) => t.setIfInBounds p v) L.toArray, defers := [] } W)
    (hbody : ∀ (l : Nat) (pre : List α) (a : α) (x : ι) (mt : Mem), Inv pre x → pre.length < N →
      RC l 1 P w0 body (fun _ m' => ∃ x', Inv (pre ++ [a]) x' ∧ (M x' ++ mt).Sublist m') (fun e _ m' => e = .exit id ∧ ∃ x', InvX (pre ++ [a]) x' ∧ (M x' ++ mt).Sublist m') (L1 a) (M x ++ mt))
    (hdone : ∀ (D : Nat) (xs : List α) (x : ι), S xs → Inv xs x → DC (mark D) P w0 rest (FinD P fn D R) (EFinD P fn D R) L (M x ++ [(some D, Obj.deferred (some []))]))
    (hstop : ∀ (D : Nat) (xs : List α) (x : ι), Sp xs → InvX xs x → DC (mark D) P w0 rest (FinD P fn D R) (EFinD P fn D R) L (M x ++ [(some D, Obj.deferred (some []))])) :
    TB P fn w0 R (.block id (.rangeFunc g ps assign body)) rest L m := by
  subst hM
  intro w hw
  have addD : ∀ (D : Nat) (pre : List α) (x : ι) (W : World), (Inv pre x ∨ InvX pre x) → w.heap.size ≤ D → Has w0 (M x) W → W.heap[D]? = some (.deferred (some [])) → Has w0 (M x ++ [(some D, Obj.deferred (some []))]) W := by
    intro D pre x W hI hD hx hd
    refine ⟨hx.below, fun b o hb => ?_, ?_⟩
    · rcases List.mem_append.1 hb with hb | hb
      · exact hx.blk b o hb
      · simp only [List.mem_singleton, Prod.mk.injEq, Option.some.injEq] at hb
        obtain ⟨rfl, rfl⟩ := hb
        exact ⟨Nat.le_trans hw.below.size hD, hd⟩
    · rw [List.filterMap_append]
      refine List.nodup_append.2 ⟨hx.nodup, by simp, fun b h1 b' h2 e => ?_⟩
      subst e
      simp only [List.filterMap_cons, List.filterMap_nil, List.mem_singleton] at h2
      subst h2
      obtain ⟨o, ho⟩ := mem_keys.1 h1
      have h3 := (hx.blk b o ho).2
      rw [hd] at h3
      have h4 : Obj.deferred (some []) = o := by simpa using h3
      have h5 := hcells pre x hI b o ho
      rw [← h4] at h5; cases h5
  have kept : ∀ (pre : List α) (a : α) (x x' : ι) (W W' : World), Inv pre x → (Inv (pre ++ [a]) x' ∨ InvX (pre ++ [a]) x') → Has w0 (M x) W → Has w0 (M x' ++ unnamed w0.heap.size W (keysOf (M x))) W' → KeepsOthers W W' ∧ CapK caps W W' ∧ Has w0 (M x') W' := by
    intro pre a x x' W W' i1 i2 h1 h2
    have h3 : Has w0 (M x') W' := h2.sub (List.sublist_append_left _ _)
    refine ⟨keeps_of_unnamed h1 (hcells pre x (.inl i1)) h2 (hlen pre a x x' i1 i2), fun b hb => ?_, h3⟩
    obtain ⟨o, ho⟩ := hcap b hb
    rw [(h1.blk b o (ho x)).2, (h3.blk b o (ho x')).2]
  refine wpIn_block ?_
  refine wpIn_rangeFunc_ownF (F := Fence.wide) (n := 3) rfl (by decide) (gf := gf) (lb := lb) (by rw [eval_fr]; exact hg) trivial eg (encs := encs) (Kp := CapK caps) (S := S) (Sp := Sp) (N := N) (hseq w hw)
    (fun h k b hb => (k b hb).trans (h b hb)) (fun W l o o' hl _ _ _ b hb => ?_) (Below.refl _ _) hps
    (fun pre W => ∃ x, Inv pre x ∧ Has w0 (M x) W) (fun c pre W => c = .exit id ∧ ∃ x, InvX pre x ∧ Has w0 (M x) W) ?_ ?_ ⟨x0, h0, hw⟩ (fun x => fr (L1 x)) hassign ?_ ?_ ?_
  · obtain ⟨o1, ho1⟩ := hcap b hb
    have h1 := lt_of_heap (hw.blk b o1 (ho1 x0)).2
    exact World.putObj_heap_other (by omega)
  · rintro pre W W' row ⟨x, hi, hx⟩ hgr hr
    exact ⟨x, hi, hx.keptBy (hcells pre x (.inl hi)) hw.below.size hgr hr⟩
  · rintro c pre W W' row ⟨hc, x, hi, hx⟩ hgr hr
    exact ⟨hc, x, hi, hx.keptBy (hcells pre x (.inr hi)) hw.below.size hgr hr⟩
  · rintro l pre a W ⟨x, hi, hx⟩ hlt
    refine wpIn_mono (hbody l pre a x (unnamed w0.heap.size W (keysOf (M x))) hi hlt W hx.withUnnamed) ?_
    intro e a' W' hq
    cases e with
    | normal =>
      obtain ⟨L', m', rfl, hw', x', hi', hs⟩ := hq
      obtain ⟨k1, k2, k3⟩ := kept pre a x x' W W' hi (.inl hi') hx (hw'.sub hs)
      exact ⟨k1, k2, x', hi', k3⟩
    | exit id' =>
      obtain ⟨L', m', rfl, hw', he, x', hi', hs⟩ := hq
      obtain ⟨k1, k2, k3⟩ := kept pre a x x' W W' hi (.inr hi') hx (hw'.sub hs)
      refine ⟨k1, ?_, x', hi', k3⟩
      simpa using he
    | ret => obtain ⟨L', m', rfl, hw', he, _⟩ := hq; cases he
    | goto t => obtain ⟨L', m', rfl, hw', he, _⟩ := hq; cases he
    | outgrown => exact hq.elim
    | panic c => exact hq.elim
  · rintro D xs W hD hS ⟨x, hi, hx⟩ hd
    exact wp_of_DC (hdone D xs x hS hi) (addD D xs x W (.inl hi) hD hx hd)
  · rintro D c pre W hD hS ⟨rfl, x, hi, hx⟩ hd
    refine wpIn_exit ?_
    have h := wp_of_DC (hstop D pre x hS hi) (addD D pre x W (.inr hi) hD hx hd)
    simp only [Exit.inBlock, if_true, Exit.then]
    exact h
theorem det_makeFunc {P : Program} {w0 : World} {m : Mem} {ρ : Operand → Value} {dst : Option Tmp} {ty : TypeId} {pos : String} {after : Array Edge} {gd : Option (Nat × Bool)} {fn : Fn} {caps : List Operand} :
    Det P w0 m ρ ⟨dst, .makeFunc fn #[] caps.toArray, ty, pos, after, gd⟩ (.func fn #[] (caps.map ρ).toArray) := fun w _ => by
  simp [execOp, Instr.makeFunc]
end Go.MW

namespace Go.MW
open Go.RowKit

theorem hnd_of {l : List Oper} (h : (l.all fun o => match o.op with | .defer _ => false | _ => true) = true) : ∀ (i : Nat) (o : Oper), l[i]? = some o → ∀ c, o.op ≠ .defer c := by
  intro i o ho c e
  have := List.all_eq_true.1 h o (List.mem_of_getElem? ho)
  simp [e] at this
section
variable {l n : Nat} {P : Program} {w0 : World} {K : List Value → Mem → Prop} {E : Exit → List Value → Mem → Prop} {L : List Value} {m : Mem} {ops : Array Oper} {rest : List Oper} {o : Oper}
end
section
variable {P : Program} {w0 : World} {m : Mem} {ρ : Operand → Value} {dst : Option Tmp} {ty : TypeId} {pos : String} {after : Array Edge} {gd : Option (Nat × Bool)} {T : TypeId} {x y : Operand}
/-- make([]T, 0, n) -/
theorem rel_make0 {k : IntKind} {e : TypeId} {bytes : Nat} {n : Nat} (hu : P.underlying T = some (.slice e)) (hi : (P.info? e).map (fun i => (i.zero, i.size, i.bytes)) = some (some (vn k 0), 1, bytes)) (hx : ρ x = vn .i64 0) (hy : ρ y = vn .i64 n) (hb : bytes * n ≤ 281474976710656) (hn : n ≤ maxLen) :
    Rel P w0 m ρ ⟨dst, .makeSlice T x y, ty, pos, after, gd⟩ (fun v mi => ∃ b, v = .slice (some ⟨b, 0, none⟩) 0 n ∧ mi = [(some b, .cells (arr k n fun _ => 0) e (0, 0))]) := by
  intro w _
  obtain ⟨i, hi, hz0, hz1, hz2⟩ := info_parts hi
  have hr := run_make (P := P) w T e i _ hu hi hz0 .i64 .i64 (0 : Int) (n : Int) (by omega) (by omega) (by rw [hz2, ← Int.natCast_mul]; omega) (by simp only [maxLen] at hn; omega)
  have h : (execOp ρ ⟨dst, .makeSlice T x y, ty, pos, after, gd⟩).run P w = .ok (.value (.slice (some ⟨w.heap.size, 0, none⟩) 0 n)) (w.alloc (.cells (arr k n fun _ => 0) e (0, 0))) := by
    rw [hz1] at hr
    simp only [Int.toNat_natCast, Nat.mul_one, Int.toNat_zero] at hr
    rw [madeCells_one k (vn k 0).cells rfl] at hr
    have hx' : ρ x = .int .i64 0 := hx
    simp [execOp, hx', hy, hr]
  unfold Runs
  rw [h]
  exact ⟨_, ⟨_, rfl, rfl⟩, Has.alloc w _⟩
/-- A store into a box. -/
theorem chg_storeBox (i : Nat) {b : Nat} {u v : Value} {t : TypeId} (hz : ∀ w, (sizeOf T).run P w = .ok 1 w) (hx : ρ x = .pointer (some ⟨b, 0, none⟩)) (hm : m[i]? = some (some b, .cells #[u] t (0, 0))) (hy : ρ y = v) (hv : v.oneCell' = true) :
    Chg P w0 m ρ ⟨dst, .store T x y, ty, pos, after, gd⟩ (fun _ m' => m' = m.set i (some b, .cells #[v] t (0, 0))) :=
  chg_store (dst := dst) (ty := ty) (pos := pos) (after := after) (gd := gd) i hz hx hm (by simp) hy hv
end
theorem RowV.slice {t : TypeId} {n : Nat} {g : Nat → Value} {v : Value} {e : Option Nat × Obj} (h : RowV t n g v e) : ∃ p c, v = .slice p n c ∧ n ≤ c := by
  rcases h with ⟨rfl, rfl, _⟩ | ⟨b, c, cur, rfl, _, hc, _⟩
  · exact ⟨_, _, rfl, Nat.le_refl _⟩
  · exact ⟨_, _, rfl, hc⟩
theorem RowV.one {t : TypeId} {n : Nat} {g : Nat → Value} {v : Value} {e : Option Nat × Obj} (h : RowV t n g v e) : v.oneCell' = true := by
  rcases h with ⟨rfl, _⟩ | ⟨b, c, cur, rfl, _⟩ <;> rfl
theorem RowV.cells {t : TypeId} {n : Nat} {g : Nat → Value} {v : Value} {e : Option Nat × Obj} (h : RowV t n g v e) {b : Nat} {o : Obj} (he : (some b, o) = e) : o.isCells = true := by
  subst he
  rcases h with ⟨_, _, hk⟩ | ⟨b, c, cur, _, h, _⟩
  · cases hk
  · cases h; rfl
theorem RowV.key {t : TypeId} {n : Nat} {g : Nat → Value} {v : Value} {e : Option Nat × Obj} (h : RowV t n g v e) (hn : 0 < n) : ∃ b, e.1 = some b := by
  rcases h with ⟨_, h0, _⟩ | ⟨b, c, cur, _, rfl, _⟩
  · omega
  · exact ⟨b, rfl⟩

theorem assign_one {l n : Nat} {P : Program} {L : List Value} {W : World} {K : Act → World → Prop} {Q : Exit → Act → World → Prop} {id t d : Nat} {ty : TypeId} {pos : String} {af : Array Edge} (h : K (fr (L.set d (nth L t))) W) :
    (Code.region id [(⟨some d, .assign (.tmp t), ty, pos, af, none⟩ : Oper)].toArray false).wpIn (RF l) n P (Exit.then K Q) (fr L) W := by
  refine wpIn_region_lit ?_
  refine wpListIn_plain rfl fun _ hK => ?_
  refine Runs.uponR (R := fun v w' => v = nth L t ∧ w' = W) (fun _ h => by cases h) ?_ ?_
  · simp [Runs, execOp, ev]
  · rintro v w' ⟨rfl, rfl⟩
    exact hK _ _ (wpListIn_nil h)
/-- The law, where one value comes in each round and is assigned to one variable. -/
theorem TC_range1 {P : Program} {fn : Func} {w0 : World} {R : Value → Mem → Prop} {L : List Value} {m : Mem} {α ι : Type} {ve : α → Value} {S Sp : List α → Prop} {N : Nat} {t d : Nat} {id : Nat} {g : Operand} {ida : Nat} {ty : TypeId} {pos : String} {af : Array Edge} {body rest : Code} {gf : Nat} {lb : Array Value} (caps : List Nat)
    (hg : ev L g = .func (.func gf) #[] lb) (eg : ∀ args w, (callFunc gf args).run P w = .ok (.enter gf args) w)
    (hseq : ∀ w, Has w0 m w → SeqStopsK Fence.wide 2 P gf lb (fun x => #[ve x]) (CapK caps) S Sp N w)
    (Inv InvX : List α → ι → Prop) (M : ι → Mem) (x0 : ι) (hM : M x0 = m) (h0 : Inv [] x0)
    (hcells : ∀ pre x, (Inv pre x ∨ InvX pre x) → ∀ b o, (some b, o) ∈ M x → o.isCells = true) (hcap : ∀ b ∈ caps, ∃ o, ∀ x, (some b, o) ∈ M x) (hlen : ∀ pre a x x', Inv pre x → (Inv (pre ++ [a]) x' ∨ InvX (pre ++ [a]) x') → (keysOf (M x)).length ≤ (keysOf (M x')).length)
    (ht : t < L.length)
    (hbody : ∀ (l : Nat) (pre : List α) (a : α) (x : ι) (mt : Mem), Inv pre x → pre.length < N →
      RC l 1 P w0 body (fun _ m' => ∃ x', Inv (pre ++ [a]) x' ∧ (M x' ++ mt).Sublist m') (fun e _ m' => e = .exit id ∧ ∃ x', InvX (pre ++ [a]) x' ∧ (M x' ++ mt).Sublist m') ((L.set t (ve a)).set d (ve a)) (M x ++ mt))
    (hdone : ∀ (D : Nat) (xs : List α) (x : ι), S xs → Inv xs x → DC (mark D) P w0 rest (FinD P fn D R) (EFinD P fn D R) L (M x ++ [(some D, Obj.deferred (some []))]))
    (hstop : ∀ (D : Nat) (xs : List α) (x : ι), Sp xs → InvX xs x → DC (mark D) P w0 rest (FinD P fn D R) (EFinD P fn D R) L (M x ++ [(some D, Obj.deferred (some []))])) :
    TB P fn w0 R (.block id (.rangeFunc g #[t] (.region ida [(⟨some d, .assign (.tmp t), ty, pos, af, none⟩ : Oper)].toArray false) body)) rest L m := by
  refine TC_range caps hg eg (fun _ => rfl) hseq Inv InvX M x0 hM h0 hcells hcap hlen (fun a => (L.set t (ve a)).set d (ve a)) ?_ hbody hdone hstop
  intro l x W K hK
  have hf : ({ tmps := (#[t].zip #[ve x]).foldl (fun T (q, v) => T.setIfInBounds q v) L.toArray, defers := [] } : Act) = fr (L.set t (ve x)) := by
    simp [fr]
  rw [hf]
  refine assign_one ?_
  rw [nth_set_self L ht]
  exact hK
theorem TC.forget {P : Program} {fn : Func} {w0 : World} {R : Value → Mem → Prop} {L : List Value} {m m' : Mem} {c : Code} (hs : m'.Sublist m) (h : TC P fn w0 R c L m') : TC P fn w0 R c L m := fun w hw => h w (hw.sub hs)
section
variable {P : Program} {w0 : World} {m : Mem} {L : List Value}
theorem finD_tmp2 {fn : Func} {R : Value → Mem → Prop} {D t u : Nat} {v v' : Value} (h : fn.results = #[.tmp t, .tmp u]) (hL : nth L t = v) (hL' : nth L u = v') (mi : Mem) (hs : (mi ++ [((some D, Obj.deferred (some [])) : Option Nat × Obj)]).Sublist m) (hR : R (.tuple #[v, v']) mi) : FinD P fn D R L m :=
  ⟨_, mi, fun w => by rw [results_tmp2 h, nth_eq, nth_eq, hL, hL'], hR, hs⟩
end
end Go.MW

namespace Go.MW
open Go.RowKit
section
variable {d : List Deferred} {P : Program} {w0 : World} {K : List Value → Mem → Prop} {E : Exit → List Value → Mem → Prop} {L : List Value} {mk m : Mem}
variable {l : List Oper} {D : List (List Nat)} {T : List Nat} {rel : Nat → Bool} {e : Nat → Sel → Value} {R : Nat → Sel → Prop} {M : Nat → Sel → Mem}
end
section
variable {d : List Deferred} {P : Program} {w0 : World} {K : List Value → Mem → Prop} {E : Exit → List Value → Mem → Prop} {L : List Value} {mk m : Mem} {l : List Oper} {D : List (List Nat)} {T : List Nat}
end
end Go.MW

namespace Go.MW
open Go.RowKit

theorem wpIn_yield {P : Program} {l : Nat} {x y : Operand} {ats : Array TypeId} {dst : Option Tmp} {ty : TypeId} {pos : String} {after : Array Edge} {gd : Option (Nat × Bool)} {a : Act} {W : World} {R : Ending → World → Prop} {next : Act → World → Prop} {Q : Exit → Act → World → Prop}
    (hx : a.eval x = .func (.yield l) #[] #[]) (h : YieldAt Fence.wide 1 P l #[a.eval y] W R) (hR : ∀ e W', R e W' → ∃ v, e = .returned v ∧ next (a.put dst v) W') :
    Oper.wpIn Fence.wide 2 P ⟨dst, .call { callee := .value x, args := #[y], argTypes := ats }, ty, pos, after, gd⟩ a W next Q := by
  refine ⟨fun _ _ => trivial, ?_⟩
  obtain ⟨fn, tmps, assign, body, hy, hr⟩ := h
  have he : (execOp a.eval ⟨dst, .call { callee := .value x, args := #[y], argTypes := ats }, ty, pos, after, gd⟩).run P W = .ok (.round l fn tmps assign body) W := by
    simp [execOp, resolve, hx, Deferred.ofValue, invoke, hy]
  rw [show Oper.semAt Fence.wide.round a.eval ⟨dst, .call { callee := .value x, args := #[y], argTypes := ats }, ty, pos, after, gd⟩ = execOp a.eval ⟨dst, .call { callee := .value x, args := #[y], argTypes := ats }, ty, pos, after, gd⟩ from rfl, he, Oper.uponIn_round]
  refine ⟨fun h => (by cases h), hr.mono ?_⟩
  rintro e W' he
  obtain ⟨v, rfl, hv⟩ := hR e W' he
  exact hv
/-- A straight piece, walked from the world at hand. -/
theorem wpIn_of_WC {n : Nat} {P : Program} {W : World} {c : Code} {K : List Value → Mem → Prop} {L : List Value} {Q : Exit → Act → World → Prop} (h : WC P W c K (fun _ _ _ => False) L [])
    (hk : ∀ L' m' W', Has W m' W' → K L' m' → Q .normal (fr L') W') : c.wpIn Fence.wide n P Q (fr L) W := by
  refine wpIn_wide.2 (wp_mono (h W (Has.nil W)) ?_)
  intro e a w' hq
  cases e with
  | normal => obtain ⟨L', m', rfl, hw', hK⟩ := hq; exact hk L' m' w' hw' hK
  | outgrown => exact hq.elim
  | panic c => exact hq.elim
  | exit id => obtain ⟨_, _, _, _, hK⟩ := hq; exact hK.elim
  | goto l => obtain ⟨_, _, _, _, hK⟩ := hq; exact hK.elim
  | ret => obtain ⟨_, _, _, _, hK⟩ := hq; exact hK.elim
theorem Has.grown {W W' : World} {m : Mem} (h : Has W m W') : W.grownBy W' none := ⟨h.below.os, h.below.tape, h.below.output, h.below.size, fun k hk _ => h.below.block k hk⟩
theorem abides_of {β : Type} {B : Nat} {J : β → World → Prop} (hJ : AbidesFrom B J) {s : β} {W W' : World} {m : Mem} (h : Has W m W') (hs : J s W) : J s W' := hJ s W W' none hs h.grown fun r e => by cases e
end Go.MW

namespace Go.MW
open Go.RowKit

def SQ (K : List Value → World → Prop) (E : Exit → List Value → World → Prop) : Exit → Act → World → Prop
  | .normal, a, w => ∃ L, a = fr L ∧ K L w
  | .outgrown, _, _ => False
  | .panic _, _, _ => False
  | e, a, w => ∃ L, a = fr L ∧ E e L w
def SC (n : Nat) (P : Program) (c : Code) (K : List Value → World → Prop) (E : Exit → List Value → World → Prop) (L : List Value) (w : World) : Prop := c.wpIn Fence.wide n P (SQ K E) (fr L) w
def inBS (id : Nat) (K : List Value → World → Prop) (E : Exit → List Value → World → Prop) : Exit → List Value → World → Prop
  | .exit id', L, w => if id' = id then K L w else E (.exit id') L w
  | e, L, w => E e L w

section
variable {n : Nat} {P : Program} {K : List Value → World → Prop} {E : Exit → List Value → World → Prop} {L : List Value} {w : World}
theorem inBS_same {id : Nat} (h : K L w) : inBS id K E (.exit id) L w := by simpa [inBS] using h
theorem inBS_ret {id : Nat} (h : E .ret L w) : inBS id K E .ret L w := h
theorem SC_seq {x y : Code} (h : SC n P x (fun L w => SC n P y K E L w) E L w) : SC n P (.seq x y) K E L w := by
  refine wpIn_seq (wpIn_mono h ?_)
  intro e a w' hq
  cases e with
  | normal => obtain ⟨L', rfl, hk⟩ := hq; exact hk
  | outgrown => exact hq
  | panic c => exact hq
  | exit id => exact hq
  | goto l => exact hq
  | ret => exact hq
theorem SC_skip (h : K L w) : SC n P .skip K E L w := wpIn_skip ⟨L, rfl, h⟩
theorem SC_ret (h : E .ret L w) : SC n P .ret K E L w := wpIn_ret ⟨L, rfl, h⟩
theorem SC_exit {id : Nat} (h : E (.exit id) L w) : SC n P (.exit id) K E L w := wpIn_exit ⟨L, rfl, h⟩
theorem SC_block {id : Nat} {c : Code} (h : SC n P c K (inBS id K E) L w) : SC n P (.block id c) K E L w := by
  refine wpIn_block (wpIn_mono h ?_)
  intro e a w' hq
  cases e with
  | normal => exact hq
  | outgrown => exact hq
  | panic c => exact hq
  | exit id' =>
    obtain ⟨L', rfl, hk⟩ := hq
    simp only [Exit.inBlock]
    by_cases hid : id' = id
    · subst hid; rw [if_pos rfl]; exact ⟨L', rfl, by simpa [inBS] using hk⟩
    · rw [if_neg hid]; exact ⟨L', rfl, by simpa [inBS, hid] using hk⟩
  | goto l => exact hq
  | ret => exact hq
theorem SC_cond {c : Operand} {x y : Code} {t : Bool} (hc : ev L c = .bool t) (ht : t = true → SC n P x K E L w) (hf : t = false → SC n P y K E L w) :
    SC n P (.cond c x y) K E L w :=
  wpIn_cond_split (t := t) (by rw [eval_fr]; exact hc) ht hf
theorem SC_loop {ι : Type} {c : Code} (F : ι → List Value) (I : ι → World → Prop) (μ : ι → Nat) (x0 : ι) (hF : F x0 = L) (hI : I x0 w)
    (round : ∀ x w, I x w → SC n P c (fun L' w' => ∃ x', F x' = L' ∧ I x' w' ∧ μ x' < μ x) E (F x) w) : SC n P (.loop c) K E L w := by
  subst hF
  refine wpIn_loop (fun a w => ∃ x, a = fr (F x) ∧ I x w) (fun a w => by
      classical
      exact if h : ∃ n x, μ x = n ∧ a = fr (F x) ∧ I x w then (leastOf (fun n => ∃ x, μ x = n ∧ a = fr (F x) ∧ I x w) h) else 0) ⟨x0, rfl, hI⟩ ?_
  intro a w ⟨x, ha, hi⟩
  have hex : ∃ n x, μ x = n ∧ a = fr (F x) ∧ I x w := ⟨μ x, x, rfl, ha, hi⟩
  obtain ⟨x, hn, ha, hi⟩ := leastOf_spec _ hex
  subst ha
  refine wpIn_mono (round x w hi) ?_
  intro e a' w' hq
  cases e with
  | normal =>
    obtain ⟨L', rfl, x', rfl, hi', hlt⟩ := hq
    refine ⟨⟨x', rfl, hi'⟩, ?_⟩
    have hex' : ∃ n y, μ y = n ∧ fr (F x') = fr (F y) ∧ I y w' := ⟨μ x', x', rfl, rfl, hi'⟩
    rw [dif_pos hex', dif_pos hex]
    have := leastOf_le _ hex' ⟨x', rfl, rfl, hi'⟩
    rw [← hn]
    omega
  | outgrown => exact hq
  | panic c => exact hq
  | exit id => exact hq
  | goto l => exact hq
  | ret => exact hq
theorem SC_loopS {ι : Type} {c : Code} (D : List Nat) (S : ι → List (Nat × Value)) (I : ι → World → Prop) (μ : ι → Nat) (x0 : ι) (hF : setAll L (S x0) = L) (hI : I x0 w)
    (round : ∀ (x : ι) (g : Nat → Value) (w : World), I x w → SC n P c (fun L' w' => ∃ x', setAll (setG L D (nth L')) (S x') = L' ∧ I x' w' ∧ μ x' < μ x) E (setAll (setG L D g) (S x)) w) : SC n P (.loop c) K E L w := by
  refine SC_loop (ι := ι × (Nat → Value)) (fun x => setAll (setG L D x.2) (S x.1)) (fun x => I x.1) (fun x => μ x.1) (x0, nth L) (by simp only [setG_self]; exact hF) hI ?_
  rintro ⟨x, g⟩ w hi
  refine wpIn_mono (round x g w hi) ?_
  intro e a w' hq
  cases e with
  | normal => obtain ⟨L', rfl, x', h1, h2, h3⟩ := hq; exact ⟨L', rfl, (x', nth L'), h1, h2, h3⟩
  | outgrown => exact hq
  | panic c => exact hq
  | exit id => exact hq
  | goto l => exact hq
  | ret => exact hq
/-- A straight piece, walked from the world at hand. -/
theorem SC_of_WC {c : Code} (h : WC P w c (fun L' m' => ∀ w', Has w m' w' → K L' w') (fun _ _ _ => False) L []) : SC n P c K E L w :=
  wpIn_of_WC h fun L' _ w' hw hk => ⟨L', rfl, hk w' hw⟩
theorem SC_regionW {id : Nat} {os : List Oper} (h : WL P w os.toArray (fun L' m' => ∀ w', Has w m' w' → K L' w') (fun _ _ _ => False) os L []) : SC n P (.region id os.toArray false) K E L w :=
  SC_of_WC (WC_region h)
/-- A region with calls of yield in it, operation by operation. -/
def SL (n : Nat) (P : Program) (ops : Array Oper) (K : List Value → World → Prop) (E : Exit → List Value → World → Prop) (os : List Oper) (L : List Value) (w : World) : Prop := wpListIn Fence.wide n P ops (SQ K E) os (fr L) w
theorem SC_region {id : Nat} {os : List Oper} (h : SL n P os.toArray K E os L w) : SC n P (.region id os.toArray false) K E L w := wpIn_region_lit h
variable {ops : Array Oper} {rest : List Oper} {o : Oper}
theorem SL_nil (h : K L w) : SL n P ops K E [] L w := wpListIn_nil ⟨L, rfl, h⟩
theorem SL_det {v : Value} (hg : o.guard = none) (h : Det P w [] (ev L) o v) (k : SL n P ops K E rest (put L o.dst v) w) : SL n P ops K E (o :: rest) L w := by
  refine wpListIn_plain hg fun _ hK => ?_
  refine ⟨fun _ _ => trivial, ?_⟩
  have h1 := h w (Has.nil w)
  rw [eval_fr, show Oper.semAt Fence.wide.round (ev L) o = execOp (ev L) o from rfl, h1, Oper.uponIn_value, put_fr]
  exact hK _ _ k
theorem SL_yield {l : Nat} {x y : Operand} {ats : Array TypeId} {dst : Option Tmp} {ty : TypeId} {pos : String} {after : Array Edge} {R : Ending → World → Prop}
    (hx : ev L x = .func (.yield l) #[] #[]) (h : YieldAt Fence.wide 1 P l #[ev L y] w R) (hR : ∀ e w', R e w' → ∃ v, e = .returned v ∧ SL 2 P ops K E rest (put L dst v) w') :
    SL 2 P ops K E (⟨dst, .call { callee := .value x, args := #[y], argTypes := ats }, ty, pos, after, none⟩ :: rest) L w := by
  refine wpListIn_plain rfl fun _ hK => ?_
  refine wpIn_yield (l := l) (R := R) (by rw [eval_fr]; exact hx) (by rw [eval_fr]; exact h) ?_
  intro e w' he
  obtain ⟨v, rfl, hk⟩ := hR e w' he
  refine ⟨v, rfl, ?_⟩
  rw [put_fr]
  exact hK _ _ hk
def FinS (P : Program) (fn : Func) (R : Ending → World → Prop) (L : List Value) (w : World) : Prop := ∃ v, (results fn L.toArray).run P w = .ok v w ∧ R (.returned v) w
def EFinS (P : Program) (fn : Func) (R : Ending → World → Prop) : Exit → List Value → World → Prop
  | .ret, L, w => FinS P fn R L w
  | _, _, _ => False
theorem callsIn_of_SC {f : FuncId} {fn : Func} {c : Code} {args : Array Value} {R : Ending → World → Prop} (as : List Value) (ha : args = as.toArray) (hf : P.funcs[f]? = some fn) (hb : fn.body = some c)
    (h : SC n P c (FinS P fn R) (EFinS P fn R) (as ++ List.replicate (fn.ntmps - as.length) undef) w) : CallsIn Fence.wide n P f args w R := by
  subst ha
  refine callsIn_of_wp hf hb trivial ?_ rfl
  have hfr : ({ tmps := as.toArray ++ Array.replicate (fn.ntmps - as.toArray.size) undef, defers := [] } : Act) = fr (as ++ List.replicate (fn.ntmps - as.length) undef) := by
    simp [fr]
  rw [hfr]
  refine wpIn_mono h ?_
  intro e a w' hq
  cases e with
  | normal => obtain ⟨L', rfl, v, hr, hR⟩ := hq; exact ⟨rfl, v, hr, hR⟩
  | ret => obtain ⟨L', rfl, v, hr, hR⟩ := hq; exact ⟨rfl, v, hr, hR⟩
  | outgrown => exact hq.elim
  | panic c => exact hq.elim
  | exit id => obtain ⟨L', _, hk⟩ := hq; exact hk.elim
  | goto t => obtain ⟨L', _, hk⟩ := hq; exact hk.elim
end
end Go.MW
