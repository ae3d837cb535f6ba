/- Plain arithmetic of numbers modulo 2 to the 130 less 5, told by bytes with room. Conditions: none. -/
import Derived.Test.YtpmldkhgdpchjaaA1
namespace Go.MW

def Pp : Nat := 2 ^ 130 - 5
theorem Pp_pos : 0 < Pp := by decide
/-- The carry out of k places of bytes with room. -/
def cr8 (f : Nat → Nat) (k : Nat) : Nat := lev f k / 256 ^ k
theorem C_pos (k : Nat) : 0 < 256 ^ k := Nat.pow_pos (by decide)
theorem cr8_zero (f : Nat → Nat) : cr8 f 0 = 0 := by simp [cr8, lev]
theorem div_add_mul8 (a b k : Nat) : (a + 256 ^ k * b) / 256 ^ k = a / 256 ^ k + b := Nat.add_mul_div_left _ _ (C_pos k)
theorem cr8_sum (f : Nat → Nat) (k : Nat) : lev f (k + 1) / 256 ^ k = cr8 f k + f k := by
  simp only [lev]; rw [Nat.mul_comm, div_add_mul8, cr8]
theorem cr8_succ (f : Nat → Nat) (k : Nat) : (cr8 f k + f k) / 256 = cr8 f (k + 1) := by
  rw [← cr8_sum, Nat.div_div_eq_div_mul, cr8, Nat.pow_succ]
theorem cr8_le (f : Nat → Nat) (M k : Nat) (h : ∀ p, p < k → f p ≤ M) : cr8 f k ≤ M := by
  induction k with
  | zero => rw [cr8_zero]; omega
  | succ k ih =>
    have h1 := ih fun p hp => h p (by omega)
    have h2 := h k (by omega)
    rw [← cr8_succ]; omega
theorem lev_split (f : Nat → Nat) (k n : Nat) : ∃ r, lev f (k + n) = lev f k + 256 ^ k * r := by
  induction n with
  | zero => exact ⟨0, by simp⟩
  | succ n ih =>
    obtain ⟨r, hr⟩ := ih
    refine ⟨r + f (k + n) * 256 ^ n, ?_⟩
    rw [← Nat.add_assoc]
    simp only [lev]
    rw [hr, Nat.mul_add, Nat.pow_add, Nat.add_assoc]
    congr 2
    exact Nat.mul_left_comm _ _ _
theorem cr8_byt (f : Nat → Nat) (k n : Nat) (hk : k < n) : byt (lev f n) k = (cr8 f k + f k) % 256 := by
  obtain ⟨r, hr⟩ := lev_split f (k + 1) (n - (k + 1))
  rw [show k + 1 + (n - (k + 1)) = n by omega] at hr
  unfold byt
  rw [hr, Nat.pow_succ, Nat.mul_assoc, div_add_mul8, cr8_sum]
  omega
theorem cr8_top (f : Nat → Nat) (k : Nat) : cr8 f k + f k = lev f (k + 1) / 256 ^ k := (cr8_sum f k).symm
/-- What lies there while the carry goes up. -/
def cf8 (V : Nat) (f : Nat → Nat) (k : Nat) : Nat → Nat := fun i => if i < k then byt V i else f i
theorem cf8_zero (V : Nat) (f : Nat → Nat) : cf8 V f 0 = f := by funext i; simp [cf8]
theorem cf8_at (V : Nat) (f : Nat → Nat) (k : Nat) : cf8 V f k k = f k := by simp [cf8]
theorem cf8_succ (V : Nat) (f : Nat → Nat) (k : Nat) : upd (cf8 V f k) k (byt V k) = cf8 V f (k + 1) := by
  funext j
  unfold cf8 upd
  by_cases h : j = k
  · subst h; simp
  · by_cases h2 : j < k
    · simp [h, h2, show j < k + 1 by omega]
    · simp [h, h2, show ¬ j < k + 1 by omega]

/-- Bytes, the last one with room. -/
def pt (X i : Nat) : Nat := if i < 16 then byt X i else X / 256 ^ 16
theorem lev_pt (X : Nat) : lev (pt X) 17 = X := by
  simp only [lev]
  have h : lev (pt X) 16 = lev (byt X) 16 := lev_ext 16 fun i hi => by simp [pt, hi]
  simp only [lev] at h
  rw [h]
  have h2 := lev_byt X 16
  simp only [lev] at h2
  rw [h2]
  simp only [pt, Nat.lt_irrefl, if_false]
  have := Nat.mod_add_div X (256 ^ 16)
  rw [Nat.mul_comm] at this
  exact this
/-- What lies above 2 to the 130 comes down. -/
def fold (V : Nat) : Nat := V % 2 ^ 130 + 5 * (V / 2 ^ 130)
theorem fold_mod (V : Nat) : fold V % Pp = V % Pp := by
  have h : V = fold V + Pp * (V / 2 ^ 130) := by
    have := Nat.mod_add_div V (2 ^ 130)
    have hp : 2 ^ 130 = Pp + 5 := by decide
    unfold fold
    have e : 2 ^ 130 * (V / 2 ^ 130) = Pp * (V / 2 ^ 130) + 5 * (V / 2 ^ 130) := by rw [← Nat.add_mul, ← hp]
    omega
  conv => rhs; rw [h]
  rw [Nat.add_mul_mod_self_left]
theorem sh130 (V : Nat) : V / 256 ^ 16 / 4 = V / 2 ^ 130 := by rw [Nat.div_div_eq_div_mul]
theorem mod130 (V : Nat) : V % 2 ^ 130 = V % 256 ^ 16 + 256 ^ 16 * (V / 256 ^ 16 % 4) := by
  rw [show (2 : Nat) ^ 130 = 256 ^ 16 * 4 by decide, Nat.mod_mul]
/-- The second way up: bytes, and a carry that comes in. -/
def ac8 (V c k : Nat) : Nat := (V % 256 ^ k + c) / 256 ^ k
theorem ac8_zero (V c : Nat) : ac8 V c 0 = c := by simp [ac8, Nat.mod_one]
theorem mod_succ8 (A k : Nat) : A % 256 ^ (k + 1) = A % 256 ^ k + 256 ^ k * byt A k := by
  rw [Nat.pow_succ, Nat.mod_mul, byt]
theorem ac8_sum (V c k : Nat) : (V % 256 ^ (k + 1) + c) / 256 ^ k = ac8 V c k + byt V k := by
  rw [mod_succ8, show V % 256 ^ k + 256 ^ k * byt V k + c = V % 256 ^ k + c + 256 ^ k * byt V k by omega, div_add_mul8, ac8]
theorem ac8_succ (V c k : Nat) : (ac8 V c k + byt V k) / 256 = ac8 V c (k + 1) := by
  rw [← ac8_sum, Nat.div_div_eq_div_mul, ac8, Nat.pow_succ]
theorem ac8_byt (V c k : Nat) : (ac8 V c k + byt V k) % 256 = byt (V + c) k := by
  have e : (V + c) / 256 ^ k = ac8 V c k + V / 256 ^ k := by
    have h := Nat.div_add_mod V (256 ^ k)
    have : V + c = V % 256 ^ k + c + 256 ^ k * (V / 256 ^ k) := by omega
    rw [this, div_add_mul8, ac8]
  unfold byt
  rw [e]; omega
theorem ac8_le (V c k : Nat) : ac8 V c k ≤ c := by
  induction k with
  | zero => rw [ac8_zero]; omega
  | succ k ih =>
    have := byt_lt V k
    rw [← ac8_succ]
    by_cases h : c = 0
    · subst h
      have h2 : ac8 V 0 k = 0 := by omega
      rw [h2]; omega
    · omega
/-- What carrying makes, put together. -/
def cg8 (V c k : Nat) : Nat → Nat := fun i => if i < k then byt (V + c) i else if i = 16 then V / 256 ^ 16 % 4 else byt V i
theorem cg8_at (V c k : Nat) (hk : k < 16) : cg8 V c k k = byt V k := by unfold cg8; rw [if_neg (by omega), if_neg (by omega)]
theorem cg8_succ (V c k : Nat) : upd (cg8 V c k) k (byt (V + c) k) = cg8 V c (k + 1) := by
  funext j
  unfold cg8 upd
  by_cases h : j = k
  · subst h; simp
  · by_cases h2 : j < k
    · simp [h, h2, show j < k + 1 by omega]
    · simp [h, h2, show ¬ j < k + 1 by omega]
theorem cg8_zero (V : Nat) (f : Nat → Nat) (c : Nat) : ∀ i, i < 17 → upd (cf8 V f 16) 16 (V / 256 ^ 16 % 4) i = cg8 V c 0 i := by
  intro i hi
  unfold upd cf8 cg8
  by_cases h : i = 16
  · subst h; simp
  · rw [if_neg h, if_pos (by omega), if_neg (by omega), if_neg h]
theorem cg8_last (V : Nat) : ∀ i, i < 17 → upd (cg8 V (5 * (V / 2 ^ 130)) 16) 16 (V / 256 ^ 16 % 4 + ac8 V (5 * (V / 2 ^ 130)) 16) i = pt (fold V) i := by
  intro i hi
  have hf : fold V = V % 256 ^ 16 + 5 * (V / 2 ^ 130) + 256 ^ 16 * (V / 256 ^ 16 % 4) := by unfold fold; rw [mod130]; omega
  unfold upd cg8 pt
  by_cases h : i = 16
  · subst h
    rw [if_pos rfl, if_neg (by decide), hf, div_add_mul8, ac8]; omega
  · have hi' : i < 16 := by omega
    rw [if_neg h, if_pos hi', if_pos hi']
    have h1 : V + 5 * (V / 2 ^ 130) = V % 256 ^ 16 + 5 * (V / 2 ^ 130) + 256 ^ 16 * (V / 256 ^ 16) := by
      have := Nat.mod_add_div V (256 ^ 16); omega
    obtain ⟨d, hd⟩ : ∃ d, 16 = i + 1 + d := ⟨15 - i, by omega⟩
    have key : ∀ a q, byt (a + 256 ^ 16 * q) i = byt a i := by
      intro a q
      unfold byt
      rw [hd, Nat.pow_add, Nat.pow_succ, Nat.mul_assoc, Nat.mul_assoc, div_add_mul8, Nat.add_mul_mod_self_left]
    rw [h1, key, hf, key]
theorem pt_le {X M i : Nat} (h : X / 256 ^ 16 ≤ M) (hM : 255 ≤ M) : pt X i ≤ M := by
  unfold pt; split
  · have := byt_lt X i; omega
  · exact h
theorem lev_le (f : Nat → Nat) (M n : Nat) (h : ∀ i, i < n → f i ≤ M) : lev f n ≤ M * 256 ^ n := by
  induction n with
  | zero => simp [lev]
  | succ n ih =>
    have h1 := ih fun i hi => h i (by omega)
    have h2 : f n * 256 ^ n ≤ M * 256 ^ n := Nat.mul_le_mul_right _ (h n (by omega))
    simp only [lev, Nat.pow_succ]
    have : M * (256 ^ n * 256) = M * 256 ^ n * 256 := (Nat.mul_assoc _ _ _).symm
    omega
/-- Carrying of what is not great. -/
theorem fold_lt (f : Nat → Nat) (h : ∀ i, i < 17 → f i ≤ 1000000000) : fold (lev f 17) < 2 ^ 130 + 2 ^ 40 := by
  have h1 := lev_le f 1000000000 17 h
  have h2 := Nat.mod_lt (lev f 17) (show 0 < 2 ^ 130 by decide)
  have h3 : lev f 17 / 2 ^ 130 ≤ 1000000000 * 256 ^ 17 / 2 ^ 130 := Nat.div_le_div_right h1
  have h4 : 1000000000 * 256 ^ 17 / 2 ^ 130 = 64000000000 := by decide
  unfold fold; omega
theorem fold2_lt {X : Nat} (h : X < 2 ^ 130 + 2 ^ 40) : fold X < 2 ^ 130 := by
  unfold fold
  by_cases h1 : X < 2 ^ 130
  · rw [Nat.div_eq_of_lt h1, Nat.mod_eq_of_lt h1]; omega
  · have h2 : X / 2 ^ 130 = 1 := by omega
    have h3 : X % 2 ^ 130 = X - 2 ^ 130 := by omega
    rw [h2, h3]; omega
theorem top_le {X : Nat} (h : X < 2 ^ 130 + 2 ^ 40) : X / 256 ^ 16 ≤ 4 := by omega
/-- 2 to the 136 less the prime, as bytes. -/
def lp (i : Nat) : Nat := if i = 0 then 5 else if i = 16 then 252 else 0
theorem lev_lp : lev lp 17 = 2 ^ 136 - Pp := by decide
theorem lp_le (i : Nat) : lp i ≤ 252 := by unfold lp; split; omega; split <;> omega
theorem lev_add (f g : Nat → Nat) (n : Nat) : lev (fun i => f i + g i) n = lev f n + lev g n := by
  induction n with
  | zero => rfl
  | succ n ih => simp only [lev]; rw [ih, Nat.add_mul]; omega
set_option maxRecDepth 100000 in
theorem and128 : ∀ x, x < 256 → decide (x &&& 128 = 0) = decide (x < 128) := by decide
theorem red_ge {X : Nat} (h1 : X < 2 ^ 130) (h2 : Pp ≤ X) : ∀ i, i < 17 → byt (X + (2 ^ 136 - Pp)) i = byt (X % Pp) i := by
  intro i hi
  have hP : Pp = 2 ^ 130 - 5 := rfl
  have e1 : X % Pp = X - Pp := by rw [Nat.mod_eq_sub_mod h2, Nat.mod_eq_of_lt (by omega)]
  have e2 : X + (2 ^ 136 - Pp) = (X - Pp) + 256 ^ 17 * 1 := by omega
  obtain ⟨d, hd⟩ : ∃ d, 17 = i + 1 + d := ⟨16 - i, by omega⟩
  rw [e1, e2]
  unfold byt
  rw [hd, Nat.pow_add, Nat.pow_succ, Nat.mul_assoc, Nat.mul_assoc, div_add_mul8, Nat.add_mul_mod_self_left]
theorem red_top {X : Nat} (h1 : X < 2 ^ 130) : decide (byt (X + (2 ^ 136 - Pp)) 16 < 128) = decide (Pp ≤ X) := by
  have hP : Pp = 2 ^ 130 - 5 := rfl
  have : byt (X + (2 ^ 136 - Pp)) 16 < 128 ↔ Pp ≤ X := by unfold byt; omega
  exact decide_eq_decide.2 this
theorem pt_byt {X : Nat} (h1 : X < 2 ^ 130) : ∀ i, i < 17 → pt X i = byt X i := by
  intro i hi
  unfold pt
  split
  · rfl
  · obtain rfl : i = 16 := by omega
    unfold byt; omega

/-! products -/
def rowj (g : Nat → Nat) (j i : Nat) : Nat := if j ≤ i then g (i - j) else 320 * g (i + 17 - j)
def prd (f g : Nat → Nat) (p : Nat) : Nat → Nat
  | 0 => 0
  | j + 1 => prd f g p j + f j * rowj g j p
theorem lev_shift (f : Nat → Nat) (n : Nat) : lev f (n + 1) = f 0 + 256 * lev (fun i => f (i + 1)) n := by
  induction n with
  | zero => simp [lev]
  | succ n ih =>
    rw [lev, ih]
    simp only [lev]
    rw [Nat.mul_add, Nat.pow_succ, Nat.add_assoc, ← Nat.mul_assoc, ← Nat.mul_assoc, Nat.mul_comm 256 (f (n + 1)), Nat.mul_assoc (f (n + 1)) 256, Nat.mul_comm 256 (256 ^ n), Nat.mul_assoc]
theorem rowj_mod (g : Nat → Nat) (j : Nat) (hj : j ≤ 17) : lev (rowj g j) 17 % Pp = 256 ^ j * lev g 17 % Pp := by
  induction j with
  | zero =>
    rw [Nat.pow_zero, Nat.one_mul, lev_ext (f := rowj g 0) (g := g) 17 fun i _ => by simp [rowj]]
  | succ j ih =>
    have ih := ih (by omega)
    have e1 : lev (rowj g (j + 1)) 17 = 320 * g (16 - j) + 256 * lev (rowj g j) 16 := by
      rw [lev_shift]
      congr 1
      · unfold rowj; rw [if_neg (by omega)]; congr 2; omega
      · congr 1
        refine lev_ext 16 fun i hi => ?_
        unfold rowj
        by_cases h : j ≤ i
        · rw [if_pos (by omega), if_pos h]; congr 1; omega
        · rw [if_neg (by omega), if_neg h]; congr 2; omega
    have e2 : lev (rowj g j) 17 = lev (rowj g j) 16 + g (16 - j) * 256 ^ 16 := by
      rw [lev]; congr 2; unfold rowj; rw [if_pos (by omega)]
    have e3 : 256 * lev (rowj g j) 17 = lev (rowj g (j + 1)) 17 + Pp * (64 * g (16 - j)) := by
      have hP : (256 : Nat) ^ 16 * 256 = Pp * 64 + 320 := by decide
      rw [e1, e2, Nat.mul_add, Nat.mul_left_comm, Nat.mul_comm 256 (256 ^ 16), hP, Nat.mul_add, ← Nat.mul_assoc Pp, Nat.mul_comm (g (16 - j)) (Pp * 64), Nat.mul_comm (g (16 - j)) 320]
      omega
    have e4 : (256 * lev (rowj g j) 17) % Pp = lev (rowj g (j + 1)) 17 % Pp := by rw [e3, Nat.add_mul_mod_self_left]
    rw [← e4, Nat.mul_mod, ih, ← Nat.mul_mod, Nat.pow_succ, ← Nat.mul_assoc, Nat.mul_comm 256 (256 ^ j)]
theorem lev_smul (c : Nat) (f : Nat → Nat) (n : Nat) : lev (fun i => c * f i) n = c * lev f n := by
  induction n with
  | zero => rfl
  | succ n ih => simp only [lev]; rw [ih, Nat.mul_add, Nat.mul_assoc]
theorem prd_mod (f g : Nat → Nat) (j : Nat) (hj : j ≤ 17) : lev (fun p => prd f g p j) 17 % Pp = lev f j * lev g 17 % Pp := by
  induction j with
  | zero =>
    rw [lev_ext (f := fun p => prd f g p 0) (g := fun _ => 0 * 0) 17 fun i _ => rfl, lev_smul 0 (fun _ => 0)]; simp [lev]
  | succ j ih =>
    have e : lev (fun p => prd f g p (j + 1)) 17 = lev (fun p => prd f g p j) 17 + f j * lev (rowj g j) 17 := by
      rw [← lev_smul, ← lev_add]; exact lev_ext 17 fun i _ => rfl
    rw [e, Nat.add_mod, ih (by omega), Nat.mul_mod (f j), rowj_mod g j (by omega), ← Nat.mul_mod, ← Nat.add_mod, show lev f (j + 1) = lev f j + f j * 256 ^ j from rfl, Nat.add_mul, Nat.mul_assoc (f j)]
theorem prd_le (f g : Nat → Nat) (p j : Nat) (hf : ∀ i, i < 17 → f i ≤ 600) (hg : ∀ i, g i ≤ 255) (hj : j ≤ 17) : prd f g p j ≤ j * 48960000 := by
  induction j with
  | zero => simp [prd]
  | succ j ih =>
    have h1 := ih (by omega)
    have h2 : rowj g j p ≤ 320 * 255 := by
      unfold rowj; split
      · have := hg (p - j); omega
      · have := hg (p + 17 - j); omega
    have h3 : f j * rowj g j p ≤ 600 * (320 * 255) := Nat.mul_le_mul (hf j (by omega)) h2
    simp only [prd, Nat.add_mul]; omega
/-- The places of a product while they are reckoned. -/
def pf (f g : Nat → Nat) (i j : Nat) : Nat → Nat := fun p => if p < i then prd f g p 17 else if p = i then prd f g p j else 0
theorem pf_zero (f g : Nat → Nat) : pf f g 0 0 = fun _ => 0 := by funext p; unfold pf; simp [prd]
theorem pf_at (f g : Nat → Nat) (i j : Nat) : pf f g i j i = prd f g i j := by simp [pf]
theorem pf_le (f g : Nat → Nat) (i j : Nat) (h : j ≤ i) : prd f g i j + f j * g (i - j) = prd f g i (j + 1) := by simp [prd, rowj, h]
theorem pf_gt (f g : Nat → Nat) (i j : Nat) (h : ¬ j ≤ i) : prd f g i j + 320 * f j * g (i + 17 - j) = prd f g i (j + 1) := by
  simp only [prd, rowj, if_neg h]; rw [Nat.mul_comm 320, Nat.mul_assoc]
theorem pf_succ (f g : Nat → Nat) (i j : Nat) : upd (pf f g i j) i (prd f g i (j + 1)) = pf f g i (j + 1) := by
  funext p
  unfold upd pf
  by_cases h : p = i
  · subst h; simp
  · simp [h]
theorem pf_next (f g : Nat → Nat) (i : Nat) : pf f g i 17 = pf f g (i + 1) 0 := by
  funext p
  unfold pf
  by_cases h : p < i
  · simp [h, show p < i + 1 by omega]
  · by_cases h2 : p = i
    · subst h2; simp
    · simp [h, h2, show ¬ p < i + 1 by omega, prd]
theorem pf_all (f g : Nat → Nat) : ∀ p, p < 17 → pf f g 17 0 p = prd f g p 17 := by intro p hp; simp [pf, hp]

/-! the same in the walks' words -/
def h16 (V : Nat) : Nat := V / 256 ^ 16
def dn (V : Nat) : Nat := 5 * (h16 V / 4)
def cP : Nat := 2 ^ 136 - Pp
theorem dn_eq (V : Nat) : dn V = 5 * (V / 2 ^ 130) := by unfold dn h16; rw [sh130]
theorem cr8_16 (f : Nat → Nat) : cr8 f 16 + f 16 = h16 (lev f 17) := cr8_top f 16
theorem and_3 (x : Nat) : x &&& 3 = x % 4 := Nat.and_two_pow_sub_one_eq_mod x 2
theorem cg8_init (V : Nat) (f : Nat → Nat) : ∀ i, i < 17 → cg8 V (dn V) 0 i = upd (cf8 V f 16) 16 (h16 V &&& 3) i := by
  intro i hi; rw [and_3]; exact (cg8_zero V f (dn V) i hi).symm
theorem cg8_16 (V c : Nat) : cg8 V c 16 16 = h16 V % 4 := by simp [cg8, h16]
theorem cg8_end (V : Nat) : ∀ i, i < 17 → upd (cg8 V (dn V) 16) 16 (h16 V % 4 + ac8 V (dn V) 16) i = pt (fold V) i := by
  intro i hi
  have h := cg8_last V i hi
  rw [← dn_eq] at h
  exact h
theorem h16_le (f : Nat → Nat) (h : ∀ i, i < 17 → f i ≤ 1000000000) : h16 (lev f 17) ≤ 2000000000 := by
  rw [← cr8_16]
  have h1 := cr8_le f 1000000000 16 fun p hp => h p (by omega)
  have h2 := h 16 (by omega)
  omega
theorem sum8_succ (f g : Nat → Nat) (k : Nat) : (cr8 (fun i => f i + g i) k + (f k + g k)) / 256 = cr8 (fun i => f i + g i) (k + 1) := cr8_succ _ k
theorem sum8_byt (f g : Nat → Nat) (k : Nat) (hk : k < 17) : (cr8 (fun i => f i + g i) k + (f k + g k)) % 256 = byt (lev f 17 + lev g 17) k := by
  rw [← lev_add, cr8_byt _ k 17 hk]
theorem upd_fill (f : Nat → Nat) (k : Nat) : upd (fun i => if i < k then f i else 0) k (f k) = fun i => if i < k + 1 then f i else 0 := by
  funext j
  unfold upd
  by_cases h : j = k
  · subst h; simp
  · by_cases h2 : j < k
    · simp [h, h2, show j < k + 1 by omega]
    · simp [h, h2, show ¬ j < k + 1 by omega]
/-- Sums put in place, one by one. -/
def ad2 (f g : Nat → Nat) (k : Nat) : Nat → Nat := fun i => if i < k then f i + g i else f i
theorem ad2_zero (f g : Nat → Nat) : ad2 f g 0 = f := by funext i; simp [ad2]
theorem ad2_at (f g : Nat → Nat) (k : Nat) : ad2 f g k k = f k := by simp [ad2]
theorem ad2_succ (f g : Nat → Nat) (k : Nat) : upd (ad2 f g k) k (f k + g k) = ad2 f g (k + 1) := by
  funext j
  unfold ad2 upd
  by_cases h : j = k
  · subst h; simp
  · by_cases h2 : j < k
    · simp [h, h2, show j < k + 1 by omega]
    · simp [h, h2, show ¬ j < k + 1 by omega]
theorem ad2_all (f g : Nat → Nat) (n : Nat) : ∀ i, i < n → ad2 f g n i = f i + g i := fun i hi => if_pos hi
theorem P_lt {N : Nat} (h : N < Pp) : N < 256 ^ 17 := Nat.lt_of_lt_of_le h (by decide)
theorem prd_fold {f g : Nat → Nat} : fold (lev (fun p => prd f g p 17) 17) % Pp = lev f 17 * lev g 17 % Pp := by rw [fold_mod, prd_mod f g 17 (Nat.le_refl _)]
end Go.MW
