/- Plain arithmetic of digits of base 65536. Conditions: none. -/
namespace Go.MW

def upd (f : Nat → Nat) (i v : Nat) : Nat → Nat := fun j => if j = i then v else f j

/-- Digit i of V, of base 65536. -/
def dig (V i : Nat) : Nat := V / 65536 ^ i % 65536
theorem dig_lt (V i : Nat) : dig V i < 65536 := Nat.mod_lt _ (by decide)
theorem B_pos (k : Nat) : 0 < 65536 ^ k := Nat.pow_pos (by decide)
theorem and_ffff (x : Nat) : x &&& 65535 = x % 65536 := Nat.and_two_pow_sub_one_eq_mod x 16
theorem and_ff (x : Nat) : x &&& 255 = x % 256 := Nat.and_two_pow_sub_one_eq_mod x 8
theorem or_bit (x b : Nat) (hb : b < 2) : x * 2 ||| b = x * 2 + b := by
  have := Nat.two_pow_add_eq_or_of_lt (i := 1) (b := b) hb x
  rw [Nat.mul_comm x 2]; exact this.symm
theorem or_shift (x b i : Nat) (hb : b < 2 ^ i) : b ||| x * 2 ^ i = x * 2 ^ i + b := by
  have := Nat.two_pow_add_eq_or_of_lt (i := i) (b := b) hb x
  rw [Nat.mul_comm x, Nat.or_comm]; exact this.symm
theorem mod_succ (A k : Nat) : A % 65536 ^ (k + 1) = A % 65536 ^ k + 65536 ^ k * dig A k := by
  rw [Nat.pow_succ, Nat.mod_mul, dig]
theorem div_add_mul (a b k : Nat) : (a + 65536 ^ k * b) / 65536 ^ k = a / 65536 ^ k + b := Nat.add_mul_div_left _ _ (B_pos k)

/-! twice -/
def twf (A bit k : Nat) : Nat → Nat := fun i => if i < k then dig (2 * A + bit) i else dig A i
def twc (A bit k : Nat) : Nat := (2 * (A % 65536 ^ k) + bit) / 65536 ^ k
theorem twc_lt (A bit k : Nat) (hb : bit < 2) : twc A bit k < 2 := by
  unfold twc
  have h : A % 65536 ^ k < 65536 ^ k := Nat.mod_lt _ (B_pos k)
  rw [Nat.div_lt_iff_lt_mul (B_pos k)]
  omega
theorem twc_zero (A bit : Nat) : twc A bit 0 = bit := by simp [twc, Nat.mod_one]
theorem tw_sum (A bit k : Nat) : (2 * (A % 65536 ^ (k + 1)) + bit) / 65536 ^ k = 2 * dig A k + twc A bit k := by
  rw [mod_succ, show 2 * (A % 65536 ^ k + 65536 ^ k * dig A k) + bit = 2 * (A % 65536 ^ k) + bit + 65536 ^ k * (2 * dig A k) by rw [Nat.mul_add, Nat.mul_left_comm]; omega, div_add_mul, twc]
  omega
theorem tw_or (A bit k : Nat) (hb : bit < 2) : (dig A k * 2 % 4294967296 ||| twc A bit k) = 2 * dig A k + twc A bit k := by
  have h := dig_lt A k
  rw [Nat.mod_eq_of_lt (by omega), or_bit _ _ (twc_lt A bit k hb)]
  omega
theorem tw_carry (A bit k : Nat) (hb : bit < 2) : (dig A k * 2 % 4294967296 ||| twc A bit k) / 65536 = twc A bit (k + 1) := by
  rw [tw_or A bit k hb, ← tw_sum, Nat.div_div_eq_div_mul, twc, Nat.pow_succ]
theorem tw_dig (A bit k : Nat) (hb : bit < 2) : (dig A k * 2 % 4294967296 ||| twc A bit k) &&& 65535 = dig (2 * A + bit) k := by
  rw [tw_or A bit k hb, and_ffff]
  have e : (2 * A + bit) / 65536 ^ k = 2 * (A / 65536 ^ k) + twc A bit k := by
    have h := Nat.div_add_mod A (65536 ^ k)
    have : 2 * A + bit = 2 * (A % 65536 ^ k) + bit + 65536 ^ k * (2 * (A / 65536 ^ k)) := by
      rw [Nat.mul_left_comm]; omega
    rw [this, div_add_mul, twc]; omega
  unfold dig
  rw [e]
  omega
theorem twf_zero (A bit : Nat) : twf A bit 0 = dig A := by funext i; simp [twf]
theorem twf_succ (A bit k : Nat) : upd (twf A bit k) k (dig (2 * A + bit) k) = twf A bit (k + 1) := by
  funext j
  unfold twf upd
  by_cases h : j = k
  · subst h; simp
  · by_cases h2 : j < k
    · simp [h, h2, show j < k + 1 by omega]
    · simp [h, h2, show ¬ j < k + 1 by omega]

/-! less -/
def D17 : Nat := 65536 ^ 17
def D32 : Nat := 256 ^ 32
def lsb (A N k : Nat) : Nat := if A % 65536 ^ k < N % 65536 ^ k then 1 else 0
def lsf (A N k : Nat) : Nat → Nat := fun i => if i < k then dig (A + (D17 - N)) i else dig A i
theorem lsb_lt (A N k : Nat) : lsb A N k < 2 := by unfold lsb; split <;> omega
theorem lsb_zero (A N : Nat) : lsb A N 0 = 0 := by simp [lsb, Nat.mod_one]
theorem lsf_zero (A N : Nat) : lsf A N 0 = dig A := by funext i; simp [lsf]
theorem lsf_succ (A N k : Nat) : upd (lsf A N k) k (dig (A + (D17 - N)) k) = lsf A N (k + 1) := by
  funext j
  unfold lsf upd
  by_cases h : j = k
  · subst h; simp
  · by_cases h2 : j < k
    · simp [h, h2, show j < k + 1 by omega]
    · simp [h, h2, show ¬ j < k + 1 by omega]
theorem lsb_succ (A N k : Nat) : lsb A N (k + 1) = if dig A k < dig N k + lsb A N k then 1 else 0 := by
  unfold lsb
  rw [mod_succ, mod_succ]
  have h1 : A % 65536 ^ k < 65536 ^ k := Nat.mod_lt _ (B_pos k)
  have h2 : N % 65536 ^ k < 65536 ^ k := Nat.mod_lt _ (B_pos k)
  generalize A % 65536 ^ k = a at *
  generalize N % 65536 ^ k = b at *
  generalize 65536 ^ k = P at *
  generalize dig A k = x
  generalize dig N k = y
  rcases Nat.lt_trichotomy x y with h | h | h
  · have h3 : P * (x + 1) ≤ P * y := Nat.mul_le_mul_left P h
    rw [Nat.mul_add] at h3
    have h4 : a + P * x < b + P * y := by omega
    rw [if_pos h4, if_pos (by omega)]
  · subst h
    by_cases hab : a < b
    · rw [if_pos (by omega), if_pos (by simp [hab])]
    · rw [if_neg (by omega), if_neg (by simp [hab])]
  · have h3 : P * (y + 1) ≤ P * x := Nat.mul_le_mul_left P h
    rw [Nat.mul_add] at h3
    have h4 : ¬ a + P * x < b + P * y := by omega
    rw [if_neg h4, if_neg (by split <;> omega)]
theorem ls_carry (A N k : Nat) : ((dig A k + (4294967296 - dig N k)) % 4294967296 + (4294967296 - lsb A N k)) % 4294967296 / 2147483648 = lsb A N (k + 1) := by
  have h1 := dig_lt A k
  have h2 := dig_lt N k
  have h3 := lsb_lt A N k
  rw [lsb_succ]
  generalize lsb A N k = c at *
  generalize dig A k = x at *
  generalize dig N k = y at *
  split <;> omega
theorem ls_dig (A N k : Nat) (hN : N ≤ D17) (hk : k < 17) : ((dig A k + (4294967296 - dig N k)) % 4294967296 + (4294967296 - lsb A N k)) % 4294967296 &&& 65535 = dig (A + (D17 - N)) k := by
  rw [and_ffff]
  have h1 := dig_lt A k
  have h2 := dig_lt N k
  have e : dig (A + (D17 - N)) k = (dig A k + 65536 - dig N k + 65536 - lsb A N k) % 65536 := by
    obtain ⟨d, hd⟩ : ∃ d, k + (d + 1) = 17 := ⟨16 - k, by omega⟩
    have hp : D17 = 65536 ^ k * (65536 * 65536 ^ d) := by rw [D17, ← hd, Nat.pow_add, Nat.pow_succ, Nat.mul_comm (65536 ^ d)]
    rw [hp] at hN ⊢
    have hm1 : A % 65536 ^ k < 65536 ^ k := Nat.mod_lt _ (B_pos k)
    have hm2 : N % 65536 ^ k < 65536 ^ k := Nat.mod_lt _ (B_pos k)
    have ha := Nat.div_add_mod A (65536 ^ k)
    have hb := Nat.div_add_mod N (65536 ^ k)
    unfold lsb dig
    have hB := B_pos k
    generalize 65536 ^ d = Q at *
    generalize 65536 ^ k = R at *
    generalize A % R = a at *
    generalize N % R = b at *
    have hxy : N / R ≤ 65536 * Q := by
      have := Nat.div_le_div_right (c := R) hN
      rwa [Nat.mul_div_cancel_left _ hB] at this
    generalize A / R = x at *
    generalize N / R = y at *
    subst ha
    subst hb
    by_cases hab : a < b
    · rw [if_pos hab]
      have hlt : y < 65536 * Q := by
        refine Nat.lt_of_le_of_ne hxy fun e => ?_
        rw [e] at hN; omega
      have : R * x + a + (R * (65536 * Q) - (R * y + b)) = (R + a - b) + R * (x + (65536 * Q - y - 1)) := by
        have h3 : R * (65536 * Q) = R * y + R * 1 + R * (65536 * Q - y - 1) := by rw [← Nat.mul_add, ← Nat.mul_add]; congr 1; omega
        rw [Nat.mul_add]; omega
      rw [this, Nat.add_mul_div_left _ _ hB, Nat.div_eq_of_lt (show R + a - b < R by omega)]
      omega
    · rw [if_neg hab]
      have : R * x + a + (R * (65536 * Q) - (R * y + b)) = (a - b) + R * (x + (65536 * Q - y)) := by
        have h3 : R * (65536 * Q) = R * y + R * (65536 * Q - y) := by rw [← Nat.mul_add]; congr 1; omega
        have h4 : b ≤ R * (65536 * Q - y) := by
          have : R * y + b ≤ R * (65536 * Q) := hN
          omega
        rw [Nat.mul_add]; omega
      rw [this, Nat.add_mul_div_left _ _ hB, Nat.div_eq_of_lt (show a - b < R by omega)]
      omega
  rw [e]
  have h3 := lsb_lt A N k
  omega
theorem ls_last (A N : Nat) (hN : N < D17) (hA : A < D17) : decide (lsb A N 17 = 0) = decide (N ≤ A) := by
  unfold lsb
  rw [Nat.mod_eq_of_lt (show N < 65536 ^ 17 from hN), Nat.mod_eq_of_lt (show A < 65536 ^ 17 from hA)]
  by_cases h : A < N
  · rw [if_pos h]; simp; omega
  · rw [if_neg h]; simp; omega

/-! bytes -/
def byt (V i : Nat) : Nat := V / 256 ^ i % 256
theorem byt_lt (V i : Nat) : byt V i < 256 := Nat.mod_lt _ (by decide)
theorem pow2 (k : Nat) : 65536 ^ k = 256 ^ (2 * k) := by rw [Nat.pow_mul]
theorem dig_byt (V k : Nat) : dig V k = byt V (2 * k) + 256 * byt V (2 * k + 1) := by
  unfold dig byt
  rw [pow2, Nat.pow_succ, ← Nat.div_div_eq_div_mul]
  generalize V / 256 ^ (2 * k) = x
  omega
theorem of_step (N k : Nat) : upd (fun i => if i < k then dig N i else 0) k (byt N (2 * k) ||| byt N (2 * k + 1) * 256 % 4294967296) = fun j => if j < k + 1 then dig N j else 0 := by
  have h1 := byt_lt N (2 * k)
  have h2 := byt_lt N (2 * k + 1)
  have h3 := or_shift (byt N (2 * k + 1)) (byt N (2 * k)) 8 (by omega)
  funext j
  unfold upd
  dsimp only
  by_cases h : j = k
  · subst h
    rw [if_pos rfl, if_pos (by omega), dig_byt, Nat.mod_eq_of_lt (by omega), show (256 : Nat) = 2 ^ 8 from rfl, h3]
    omega
  · rw [if_neg h]
    by_cases h4 : j < k
    · rw [if_pos h4, if_pos (by omega)]
    · rw [if_neg h4, if_neg (by omega)]
theorem of_last (N : Nat) (hN : N < D32) (i : Nat) (hi : i < 17) : (if i < 16 then dig N i else 0) = dig N i := by
  split
  · rfl
  · obtain rfl : i = 16 := by omega
    unfold dig
    rw [Nat.div_eq_of_lt (by rw [pow2]; exact hN)]
theorem bytes_step (N k : Nat) : upd (upd (fun i => if i < 2 * k then byt N i else 0) (2 * k) (dig N k % 256)) (2 * k + 1) (dig N k / 256 % 256) = fun j => if j < 2 * (k + 1) then byt N j else 0 := by
  have h1 := byt_lt N (2 * k)
  have h2 := byt_lt N (2 * k + 1)
  have h3 := dig_byt N k
  funext j
  unfold upd
  dsimp only
  by_cases h : j = 2 * k + 1
  · subst h; rw [if_pos rfl, if_pos (by omega)]; omega
  · rw [if_neg h]
    by_cases h4 : j = 2 * k
    · subst h4; rw [if_pos rfl, if_pos (by omega)]; omega
    · rw [if_neg h4]
      by_cases h5 : j < 2 * k
      · rw [if_pos h5, if_pos (by omega)]
      · rw [if_neg h5, if_neg (by omega)]

/-! the order, and numbers out of bytes -/
def Qn : Nat := 2 ^ 252 + 27742317777372353535851937790883648493
theorem Qn_pos : 0 < Qn := by decide
theorem dig_add_D17 (x i : Nat) (hi : i < 17) : dig (x + D17) i = dig x i := by
  obtain ⟨d, hd⟩ : ∃ d, i + (d + 1) = 17 := ⟨16 - i, by omega⟩
  have hp : D17 = 65536 ^ i * (65536 * 65536 ^ d) := by rw [D17, ← hd, Nat.pow_add, Nat.pow_succ, Nat.mul_comm (65536 ^ d)]
  unfold dig
  rw [hp, div_add_mul]
  omega
theorem dig_less (A N i : Nat) (h : N ≤ A) (hN : N ≤ D17) (hi : i < 17) : dig (A + (D17 - N)) i = dig (A - N) i := by
  rw [show A + (D17 - N) = (A - N) + D17 by omega, dig_add_D17 _ _ hi]
theorem once_mod (A : Nat) (h : Qn ≤ A) (h2 : A < 2 * Qn) : A % Qn = A - Qn := by
  rw [Nat.mod_eq_sub_mod h, Nat.mod_eq_of_lt (by omega)]

/-- The number of bytes, the lowest first. -/
def lev (f : Nat → Nat) : Nat → Nat
  | 0 => 0
  | n + 1 => lev f n + f n * 256 ^ n
theorem lev_lt (f : Nat → Nat) (n : Nat) (hf : ∀ i, i < n → f i < 256) : lev f n < 256 ^ n := by
  induction n with
  | zero => simp [lev]
  | succ n ih =>
    have h1 := ih fun i hi => hf i (by omega)
    have h2 := hf n (by omega)
    have h3 : f n * 256 ^ n ≤ 255 * 256 ^ n := Nat.mul_le_mul_right _ (by omega)
    simp only [lev, Nat.pow_succ]
    omega
theorem byt_lev (f : Nat → Nat) (n : Nat) (hf : ∀ i, i < n → f i < 256) (i : Nat) (hi : i < n) : byt (lev f n) i = f i := by
  induction n with
  | zero => omega
  | succ n ih =>
    have h1 := lev_lt f n fun i hi => hf i (by omega)
    unfold byt
    simp only [lev]
    by_cases h : i = n
    · subst h
      rw [Nat.add_mul_div_right _ _ (Nat.pow_pos (by decide)), Nat.div_eq_of_lt h1, Nat.zero_add, Nat.mod_eq_of_lt (hf i (by omega))]
    · have h2 := ih (fun i hi => hf i (by omega)) (by omega)
      obtain ⟨d, hd⟩ : ∃ d, n = i + (d + 1) := ⟨n - i - 1, by omega⟩
      have hp : f n * 256 ^ n = 256 ^ i * (256 * (f n * 256 ^ d)) := by rw [hd, Nat.pow_add, Nat.pow_succ]; simp only [Nat.mul_comm, Nat.mul_left_comm]
      rw [hp, Nat.add_mul_div_left _ _ (Nat.pow_pos (by decide))]
      unfold byt at h2
      omega
theorem lev_ext {f g : Nat → Nat} (n : Nat) (h : ∀ i, i < n → f i = g i) : lev f n = lev g n := by
  induction n with
  | zero => rfl
  | succ n ih => simp only [lev]; rw [ih fun i hi => h i (by omega), h n (by omega)]
theorem lev_byt (V n : Nat) : lev (byt V) n = V % 256 ^ n := by
  induction n with
  | zero => simp [lev, Nat.mod_one]
  | succ n ih => simp only [lev]; rw [ih, Nat.pow_succ, Nat.mod_mul, byt, Nat.mul_comm (256 ^ n)]
theorem lev_byt32 (V : Nat) (h : V < D32) : lev (byt V) 32 = V := by rw [lev_byt, Nat.mod_eq_of_lt (show V < 256 ^ 32 from h)]
theorem bit_byte (x r : Nat) (hr : r < 8) : x % 256 / 2 ^ r % 2 = x / 2 ^ r % 2 := by
  have : r = 0 ∨ r = 1 ∨ r = 2 ∨ r = 3 ∨ r = 4 ∨ r = 5 ∨ r = 6 ∨ r = 7 := by omega
  rcases this with rfl | rfl | rfl | rfl | rfl | rfl | rfl | rfl <;> simp only [Nat.reducePow] <;> omega
theorem bit_byt (V j : Nat) : V / 2 ^ j % 2 = byt V (j / 8) / 2 ^ (j % 8) % 2 := by
  have h : 2 ^ j = 256 ^ (j / 8) * 2 ^ (j % 8) := by
    rw [show (256 : Nat) = 2 ^ 8 from rfl, ← Nat.pow_mul, ← Nat.pow_add]; congr 1; omega
  rw [h, ← Nat.div_div_eq_div_mul, byt, bit_byte _ _ (Nat.mod_lt _ (by decide))]
theorem bit_lev (f : Nat → Nat) (n j : Nat) (hf : ∀ i, i < n → f i < 256) (hj : j < 8 * n) : lev f n / 2 ^ j % 2 = (f (j / 8) / 2 ^ (j % 8)) &&& 1 := by
  rw [bit_byt, byt_lev f n hf _ (by omega)]
  exact (Nat.and_two_pow_sub_one_eq_mod _ 1).symm
theorem tk_step (V Q j bit : Nat) (hb : V / 2 ^ j % 2 = bit) : (2 * (V / 2 ^ (j + 1) % Q) + bit) % Q = V / 2 ^ j % Q := by
  have h : V / 2 ^ j = 2 * (V / 2 ^ (j + 1)) + bit := by
    rw [← hb, Nat.pow_succ, ← Nat.div_div_eq_div_mul]; omega
  rw [h, Nat.add_mod, Nat.mul_mod_mod, ← Nat.add_mod]
theorem dig_ext {A N : Nat} (n : Nat) (hA : A < 65536 ^ n) (hN : N < 65536 ^ n) (h : ∀ i, i < n → dig A i = dig N i) : A = N := by
  have key : ∀ k, k ≤ n → A % 65536 ^ k = N % 65536 ^ k := by
    intro k
    induction k with
    | zero => simp [Nat.mod_one]
    | succ k ih => intro hk; rw [mod_succ, mod_succ, ih (by omega), h k (by omega)]
  have := key n (Nat.le_refl n)
  rwa [Nat.mod_eq_of_lt hA, Nat.mod_eq_of_lt hN] at this
theorem dig_zero (i : Nat) : dig 0 i = 0 := by simp [dig]
theorem byt_zero (i : Nat) : byt 0 i = 0 := by simp [byt]
theorem byt_small (V i : Nat) (h : V < 256 ^ i) : byt V i = 0 := by simp [byt, Nat.div_eq_of_lt h]

/-! sums -/
def adc (A N k : Nat) : Nat := (A % 65536 ^ k + N % 65536 ^ k) / 65536 ^ k
def adf (A N k : Nat) : Nat → Nat := fun i => if i < k then dig (A + N) i else dig A i
theorem adc_zero (A N : Nat) : adc A N 0 = 0 := by simp [adc, Nat.mod_one]
theorem adf_zero (A N : Nat) : adf A N 0 = dig A := by funext i; simp [adf]
theorem adc_lt (A N k : Nat) : adc A N k < 2 := by
  unfold adc
  have h : A % 65536 ^ k < 65536 ^ k := Nat.mod_lt _ (B_pos k)
  have h2 : N % 65536 ^ k < 65536 ^ k := Nat.mod_lt _ (B_pos k)
  rw [Nat.div_lt_iff_lt_mul (B_pos k)]
  omega
theorem ad_sum (A N k : Nat) : (A % 65536 ^ (k + 1) + N % 65536 ^ (k + 1)) / 65536 ^ k = dig A k + dig N k + adc A N k := by
  rw [mod_succ, mod_succ, show A % 65536 ^ k + 65536 ^ k * dig A k + (N % 65536 ^ k + 65536 ^ k * dig N k) = A % 65536 ^ k + N % 65536 ^ k + 65536 ^ k * (dig A k + dig N k) by rw [Nat.mul_add]; omega, div_add_mul, adc]
  omega
theorem ad_carry (A N k : Nat) : (dig A k + dig N k + adc A N k) / 65536 = adc A N (k + 1) := by
  rw [← ad_sum, Nat.div_div_eq_div_mul, adc, Nat.pow_succ]
theorem ad_dig (A N k : Nat) : (dig A k + dig N k + adc A N k) &&& 65535 = dig (A + N) k := by
  rw [and_ffff]
  have e : (A + N) / 65536 ^ k = A / 65536 ^ k + N / 65536 ^ k + adc A N k := by
    have h := Nat.div_add_mod A (65536 ^ k)
    have h2 := Nat.div_add_mod N (65536 ^ k)
    have : A + N = A % 65536 ^ k + N % 65536 ^ k + 65536 ^ k * (A / 65536 ^ k + N / 65536 ^ k) := by rw [Nat.mul_add]; omega
    rw [this, div_add_mul, adc]; omega
  unfold dig
  rw [e]
  omega
theorem adf_succ (A N k : Nat) : upd (adf A N k) k (dig (A + N) k) = adf A N (k + 1) := by
  funext j
  unfold adf upd
  by_cases h : j = k
  · subst h; simp
  · by_cases h2 : j < k
    · simp [h, h2, show j < k + 1 by omega]
    · simp [h, h2, show ¬ j < k + 1 by omega]

/-! products -/
def psum (t : Nat → Nat) : Nat → Nat
  | 0 => 0
  | k + 1 => psum t k + t k * 65536 ^ k
def rowp (x : Nat) (g : Nat → Nat) (i j : Nat) (p : Nat) : Nat := if i ≤ p ∧ p < i + j then x * g (p - i) else 0
def mulf (f g : Nat → Nat) : Nat → Nat → Nat
  | 0, _ => 0
  | i + 1, p => mulf f g i p + rowp (f i) g i 17 p
theorem rowp_zero (x : Nat) (g : Nat → Nat) (i p : Nat) : rowp x g i 0 p = 0 := by unfold rowp; rw [if_neg (by omega)]
theorem row_step (m : Nat → Nat) (x : Nat) (g : Nat → Nat) (i j : Nat) : upd (fun p => m p + rowp x g i j p) (i + j) (m (i + j) + rowp x g i j (i + j) + x * g j) = fun p => m p + rowp x g i (j + 1) p := by
  funext p
  unfold upd rowp
  by_cases h : p = i + j
  · subst h
    rw [if_pos rfl, if_neg (by omega), if_pos (by omega), show i + j - i = j by omega]
    omega
  · rw [if_neg h]
    dsimp only
    congr 1
    by_cases h2 : i ≤ p ∧ p < i + j
    · rw [if_pos h2, if_pos (by omega)]
    · rw [if_neg h2, if_neg (by omega)]
theorem rowp_le (x : Nat) (g : Nat → Nat) (i j p : Nat) (hx : x < 65536) (hg : ∀ q, g q < 65536) : rowp x g i j p ≤ 4294836225 := by
  unfold rowp
  split
  · have := hg (p - i)
    calc x * g (p - i) ≤ 65535 * 65535 := Nat.mul_le_mul (by omega) (by omega)
      _ = 4294836225 := by decide
  · omega
theorem mulf_le (f g : Nat → Nat) (i p : Nat) (hf : ∀ q, f q < 65536) (hg : ∀ q, g q < 65536) : mulf f g i p ≤ i * 4294836225 := by
  induction i with
  | zero => simp [mulf]
  | succ i ih =>
    have := rowp_le (f i) g i 17 p (hf i) hg
    simp only [mulf]
    omega
theorem psum_add (s t : Nat → Nat) (k : Nat) : psum (fun p => s p + t p) k = psum s k + psum t k := by
  induction k with
  | zero => rfl
  | succ k ih => simp only [psum, ih, Nat.add_mul]; omega
theorem psum_zero (k : Nat) : psum (fun _ => 0) k = 0 := by
  induction k with
  | zero => rfl
  | succ k ih => simp [psum, ih]
theorem psum_rowp (x : Nat) (g : Nat → Nat) (i : Nat) : ∀ k, psum (rowp x g i 17) (i + k) = x * 65536 ^ i * psum g (min k 17) := by
  have h0 : ∀ k, k ≤ i → psum (rowp x g i 17) k = 0 := by
    intro k
    induction k with
    | zero => intro _; rfl
    | succ k ih => intro hk; simp only [psum, ih (by omega)]; unfold rowp; rw [if_neg (by omega)]; simp
  intro k
  induction k with
  | zero => rw [Nat.add_zero, h0 i (Nat.le_refl _)]; simp [psum]
  | succ k ih =>
    rw [← Nat.add_assoc]
    simp only [psum, ih]
    unfold rowp
    by_cases hk : k < 17
    · rw [if_pos (by omega), show min k 17 = k by omega, show min (k + 1) 17 = k + 1 by omega, show i + k - i = k by omega]
      simp only [psum, Nat.mul_add, Nat.pow_add]
      congr 1
      ac_rfl
    · rw [if_neg (by omega), show min k 17 = 17 by omega, show min (k + 1) 17 = 17 by omega]
      omega
theorem psum_dig (A k : Nat) : psum (dig A) k = A % 65536 ^ k := by
  induction k with
  | zero => simp [psum, Nat.mod_one]
  | succ k ih => simp only [psum]; rw [ih, mod_succ, Nat.mul_comm]
theorem psum_mulf (f g : Nat → Nat) (i : Nat) (hi : i ≤ 17) : psum (mulf f g i) 34 = psum f i * psum g 17 := by
  induction i with
  | zero => simp only [psum, Nat.zero_mul]; exact psum_zero 34
  | succ i ih =>
    have h1 : psum (mulf f g (i + 1)) 34 = psum (mulf f g i) 34 + psum (rowp (f i) g i 17) 34 := psum_add _ _ _
    have h2 := psum_rowp (f i) g i (34 - i)
    rw [show i + (34 - i) = 34 by omega, show min (34 - i) 17 = 17 by omega] at h2
    rw [h1, ih (by omega), h2]
    simp only [psum]
    rw [← Nat.add_mul]
theorem mul_val (X Y : Nat) (hX : X < D17) (hY : Y < D17) : psum (mulf (dig X) (dig Y) 17) 34 = X * Y := by
  rw [psum_mulf _ _ 17 (Nat.le_refl _), psum_dig, psum_dig, Nat.mod_eq_of_lt (show X < 65536 ^ 17 from hX), Nat.mod_eq_of_lt (show Y < 65536 ^ 17 from hY)]

/-! carrying -/
def crr (t : Nat → Nat) (k : Nat) : Nat := psum t k / 65536 ^ k
theorem crr_zero (t : Nat → Nat) : crr t 0 = 0 := by simp [crr, psum]
theorem crr_sum (t : Nat → Nat) (k : Nat) : psum t (k + 1) / 65536 ^ k = t k + crr t k := by
  simp only [psum]; rw [Nat.mul_comm, div_add_mul, crr]; omega
theorem crr_succ (t : Nat → Nat) (k : Nat) : (t k + crr t k) / 65536 = crr t (k + 1) := by
  rw [← crr_sum, Nat.div_div_eq_div_mul, crr, Nat.pow_succ]
theorem crr_le (t : Nat → Nat) (M k : Nat) (h : ∀ p, t p ≤ M) : crr t k ≤ M := by
  induction k with
  | zero => rw [crr_zero]; omega
  | succ k ih => rw [← crr_succ]; have := h k; omega
theorem psum_split (t : Nat → Nat) (k n : Nat) : ∃ r, psum t (k + n) = psum t k + 65536 ^ k * r := by
  induction n with
  | zero => exact ⟨0, by simp⟩
  | succ n ih =>
    obtain ⟨r, hr⟩ := ih
    refine ⟨r + t (k + n) * 65536 ^ n, ?_⟩
    rw [← Nat.add_assoc]
    simp only [psum]
    rw [hr, Nat.pow_add, Nat.mul_add]
    simp only [Nat.mul_comm, Nat.mul_left_comm]
    omega
theorem carry_dig (t : Nat → Nat) (k n : Nat) (hk : k < n) : dig (psum t n) k = (t k + crr t k) % 65536 := by
  obtain ⟨r, hr⟩ := psum_split t (k + 1) (n - (k + 1))
  rw [show k + 1 + (n - (k + 1)) = n by omega] at hr
  have e : psum t n / 65536 ^ k = t k + crr t k + 65536 * r := by
    rw [hr, ← crr_sum, Nat.pow_succ, Nat.mul_assoc, div_add_mul]
  unfold dig
  rw [e]; omega
theorem out_step (t : Nat → Nat) (k : Nat) (hk : k < 34) : upd (upd (fun i => if i < 2 * k then byt (psum t 34) i else 0) (2 * k) ((t k + crr t k) % 256)) (2 * k + 1) ((t k + crr t k) / 256 % 256) = fun i => if i < 2 * (k + 1) then byt (psum t 34) i else 0 := by
  have h3 := dig_byt (psum t 34) k
  rw [carry_dig t k 34 hk] at h3
  have h1 := byt_lt (psum t 34) (2 * k)
  have h2 := byt_lt (psum t 34) (2 * k + 1)
  funext j
  unfold upd
  dsimp only
  by_cases h : j = 2 * k + 1
  · subst h; rw [if_pos rfl, if_pos (by omega)]; omega
  · rw [if_neg h]
    by_cases h4 : j = 2 * k
    · subst h4; rw [if_pos rfl, if_pos (by omega)]; omega
    · rw [if_neg h4]
      by_cases h5 : j < 2 * k
      · rw [if_pos h5, if_pos (by omega)]
      · rw [if_neg h5, if_neg (by omega)]
theorem neg_mod (N : Nat) (h : N % Qn ≠ 0) : (Qn - N % Qn) % Qn = Qn - N % Qn := Nat.mod_eq_of_lt (by have := Nat.mod_lt N Qn_pos; omega)
theorem mul_bytes (A N : Nat) (hA : A < D32) (hN : N < D32) (h : psum (mulf (dig A) (dig N) 17) 34 = A * N) : lev (byt (psum (mulf (dig A) (dig N) 17) 34)) 68 = A * N := by
  rw [h, lev_byt, Nat.mod_eq_of_lt]
  have h1 : A * N < D32 * D32 := Nat.mul_lt_mul'' hA hN
  exact Nat.lt_of_lt_of_le h1 (by decide)

/-! times a small number, and a small number more -/
def mcc (x A c k : Nat) : Nat := (x * (A % 65536 ^ k) + c) / 65536 ^ k
def mcf (x A c k : Nat) : Nat → Nat := fun i => if i < k then dig (x * A + c) i else dig A i
theorem mcc_zero (x A c : Nat) : mcc x A c 0 = c := by simp [mcc, Nat.mod_one]
theorem mcf_zero (x A c : Nat) : mcf x A c 0 = dig A := by funext i; simp [mcf]
theorem mcc_lt (x A c k : Nat) (hc : c < x) : mcc x A c k < x := by
  unfold mcc
  have h : A % 65536 ^ k < 65536 ^ k := Nat.mod_lt _ (B_pos k)
  rw [Nat.div_lt_iff_lt_mul (B_pos k)]
  have h2 : x * (A % 65536 ^ k + 1) ≤ x * 65536 ^ k := Nat.mul_le_mul_left x h
  rw [Nat.mul_add] at h2
  omega
theorem mc_sum (x A c k : Nat) : (x * (A % 65536 ^ (k + 1)) + c) / 65536 ^ k = x * dig A k + mcc x A c k := by
  rw [mod_succ, show x * (A % 65536 ^ k + 65536 ^ k * dig A k) + c = x * (A % 65536 ^ k) + c + 65536 ^ k * (x * dig A k) by rw [Nat.mul_add, Nat.mul_left_comm x]; omega, div_add_mul, mcc]
  omega
theorem mc_carry (x A c k : Nat) : (x * dig A k + mcc x A c k) / 65536 = mcc x A c (k + 1) := by
  rw [← mc_sum, Nat.div_div_eq_div_mul, mcc, Nat.pow_succ]
theorem mc_dig (x A c k : Nat) : (x * dig A k + mcc x A c k) % 65536 = dig (x * A + c) k := by
  have e : (x * A + c) / 65536 ^ k = x * (A / 65536 ^ k) + mcc x A c k := by
    have h := Nat.div_add_mod A (65536 ^ k)
    have h2 : x * A = x * (65536 ^ k * (A / 65536 ^ k)) + x * (A % 65536 ^ k) := by rw [← Nat.mul_add, h]
    have : x * A + c = x * (A % 65536 ^ k) + c + 65536 ^ k * (x * (A / 65536 ^ k)) := by
      rw [h2, Nat.mul_left_comm x]; omega
    rw [this, div_add_mul, mcc]; omega
  unfold dig
  rw [e, Nat.add_mod, Nat.mul_mod_mod, ← Nat.add_mod]
theorem mcf_succ (x A c k : Nat) : upd (mcf x A c k) k (dig (x * A + c) k) = mcf x A c (k + 1) := by
  funext j
  unfold mcf upd
  by_cases h : j = k
  · subst h; simp
  · by_cases h2 : j < k
    · simp [h, h2, show j < k + 1 by omega]
    · simp [h, h2, show ¬ j < k + 1 by omega]
theorem mcf_at (x A c k : Nat) : mcf x A c k k = dig A k := by simp [mcf]

/-! comparing, and taking away -/
theorem div_succ (A j : Nat) : A / 65536 ^ j = 65536 * (A / 65536 ^ (j + 1)) + dig A j := by
  unfold dig
  rw [Nat.pow_succ, ← Nat.div_div_eq_div_mul]
  omega
theorem al_eq {A N j : Nat} (h : A / 65536 ^ (j + 1) = N / 65536 ^ (j + 1)) (hd : dig A j = dig N j) : A / 65536 ^ j = N / 65536 ^ j := by
  rw [div_succ, div_succ N, h, hd]
theorem al_ne {A N j : Nat} (h : A / 65536 ^ (j + 1) = N / 65536 ^ (j + 1)) (hd : dig A j ≠ dig N j) : decide (dig N j < dig A j) = decide (N ≤ A) := by
  have h1 := div_succ A j
  have h2 := div_succ N j
  have h3 := Nat.div_add_mod A (65536 ^ j)
  have h4 := Nat.div_add_mod N (65536 ^ j)
  have h5 : A % 65536 ^ j < 65536 ^ j := Nat.mod_lt _ (B_pos j)
  have h6 : N % 65536 ^ j < 65536 ^ j := Nat.mod_lt _ (B_pos j)
  rw [h] at h1
  by_cases hlt : dig N j < dig A j
  · have h7 : N / 65536 ^ j + 1 ≤ A / 65536 ^ j := by omega
    have h8 := Nat.mul_le_mul_left (65536 ^ j) h7
    rw [Nat.mul_add] at h8
    simp [hlt]; omega
  · have h7 : A / 65536 ^ j + 1 ≤ N / 65536 ^ j := by omega
    have h8 := Nat.mul_le_mul_left (65536 ^ j) h7
    rw [Nat.mul_add] at h8
    simp [hlt]; omega
theorem sub_dig (A N k : Nat) (h : N ≤ A) : dig (A - N) k = (dig A k + 65536 - dig N k + 65536 - lsb A N k) % 65536 := by
  have hm1 : A % 65536 ^ k < 65536 ^ k := Nat.mod_lt _ (B_pos k)
  have hm2 : N % 65536 ^ k < 65536 ^ k := Nat.mod_lt _ (B_pos k)
  have ha := Nat.div_add_mod A (65536 ^ k)
  have hb := Nat.div_add_mod N (65536 ^ k)
  unfold lsb dig
  have hB := B_pos k
  have hxy : N / 65536 ^ k ≤ A / 65536 ^ k := Nat.div_le_div_right h
  generalize 65536 ^ k = R at *
  generalize A % R = a at *
  generalize N % R = b at *
  generalize A / R = x at *
  generalize N / R = y at *
  subst ha
  subst hb
  by_cases hab : a < b
  · rw [if_pos hab]
    have hlt : y < x := by
      refine Nat.lt_of_le_of_ne hxy fun e => ?_
      subst e; omega
    have : R * x + a - (R * y + b) = (R + a - b) + R * (x - y - 1) := by
      have h3 : R * x = R * y + R * 1 + R * (x - y - 1) := by rw [← Nat.mul_add, ← Nat.mul_add]; congr 1; omega
      omega
    rw [this, Nat.add_mul_div_left _ _ hB, Nat.div_eq_of_lt (show R + a - b < R by omega)]
    omega
  · rw [if_neg hab]
    have : R * x + a - (R * y + b) = (a - b) + R * (x - y) := by
      have h3 : R * x = R * y + R * (x - y) := by rw [← Nat.mul_add]; congr 1; omega
      omega
    rw [this, Nat.add_mul_div_left _ _ hB, Nat.div_eq_of_lt (show a - b < R by omega)]
    omega
theorem sub_neg (A N k : Nat) (h : N ≤ A) (hlt : (dig A k : Int) - (dig N k : Int) - (lsb A N k : Int) < 0) : ((dig A k : Int) - (dig N k : Int) - (lsb A N k : Int) + 65536 = (dig (A - N) k : Int)) ∧ lsb A N (k + 1) = 1 := by
  have h1 := dig_lt A k
  have h2 := dig_lt N k
  have h3 := lsb_lt A N k
  rw [sub_dig A N k h, lsb_succ]
  refine ⟨by omega, ?_⟩
  rw [if_pos (by omega)]
theorem sub_pos' (A N k : Nat) (h : N ≤ A) (hlt : ¬ (dig A k : Int) - (dig N k : Int) - (lsb A N k : Int) < 0) : ((dig A k : Int) - (dig N k : Int) - (lsb A N k : Int) = (dig (A - N) k : Int)) ∧ lsb A N (k + 1) = 0 := by
  have h1 := dig_lt A k
  have h2 := dig_lt N k
  have h3 := lsb_lt A N k
  rw [sub_dig A N k h, lsb_succ]
  refine ⟨by omega, ?_⟩
  rw [if_neg (by omega)]

/-! the order by its decimal digits -/
def qs : ByteArray := ⟨#[50, 55, 55, 52, 50, 51, 49, 55, 55, 55, 55, 51, 55, 50, 51, 53, 51, 53, 51, 53, 56, 53, 49, 57, 51, 55, 55, 57, 48, 56, 56, 51, 54, 52, 56, 52, 57, 51]⟩
def qb (j : Nat) : Nat := (qs.data.getD j 0).toNat
def qD : Nat → Nat
  | 0 => 0
  | j + 1 => 10 * qD j + (qb j - 48)
theorem qs_size : qs.size = 38 := rfl
theorem qb_rng : ∀ j, j < 38 → 48 ≤ qb j ∧ qb j ≤ 57 := by decide
theorem qD_38 : qD 38 = 27742317777372353535851937790883648493 := by decide +kernel
theorem q_last : ∀ i, i < 16 → upd (dig (qD 38)) 15 (dig (qD 38) 15 + 4096) i = dig Qn i := by rw [qD_38]; decide +kernel
theorem q_top : ∀ i, 16 ≤ i → dig Qn i = 0 := by
  intro i hi
  unfold dig
  have h1 : Qn < 65536 ^ 16 := by decide +kernel
  have h2 : 65536 ^ 16 ≤ 65536 ^ i := Nat.pow_le_pow_right (by decide) hi
  rw [Nat.div_eq_of_lt (by omega)]
theorem qs_at (j : Nat) (h : j < 38) : ∃ u, qs[j]? = some u ∧ u.toNat = qb j := by
  refine ⟨qs.data[j]'h, ?_, ?_⟩
  · rw [getElem?_pos qs j h]; rfl
  · unfold qb
    rw [Array.getD_eq_getD_getElem?, Array.getElem?_eq_getElem h]; rfl

/-! digits that are given -/
theorem psum_lt (f : Nat → Nat) (n : Nat) (hf : ∀ i, i < n → f i < 65536) : psum f n < 65536 ^ n := by
  induction n with
  | zero => simp [psum]
  | succ n ih =>
    have h1 := ih fun i hi => hf i (by omega)
    have h2 := hf n (by omega)
    have h3 : f n * 65536 ^ n ≤ 65535 * 65536 ^ n := Nat.mul_le_mul_right _ (by omega)
    simp only [psum, Nat.pow_succ]
    omega
theorem dig_psum (f : Nat → Nat) (n : Nat) (hf : ∀ i, i < n → f i < 65536) (i : Nat) (hi : i < n) : dig (psum f n) i = f i := by
  obtain ⟨r, hr⟩ := psum_split f (i + 1) (n - (i + 1))
  rw [show i + 1 + (n - (i + 1)) = n by omega] at hr
  have h1 := psum_lt f i fun j hj => hf j (by omega)
  have h2 := hf i hi
  unfold dig
  rw [hr, Nat.pow_succ, Nat.mul_assoc, div_add_mul]
  simp only [psum]
  rw [Nat.add_mul_div_right _ _ (B_pos i), Nat.div_eq_of_lt h1]
  omega
theorem psum_ext {f g : Nat → Nat} (n : Nat) (h : ∀ i, i < n → f i = g i) : psum f n = psum g n := by
  induction n with
  | zero => rfl
  | succ n ih => simp only [psum]; rw [ih fun i hi => h i (by omega), h n (by omega)]
theorem bit_word (x r : Nat) (hr : r < 16) : x % 65536 / 2 ^ r % 2 = x / 2 ^ r % 2 := by
  have : r = 0 ∨ r = 1 ∨ r = 2 ∨ r = 3 ∨ r = 4 ∨ r = 5 ∨ r = 6 ∨ r = 7 ∨ r = 8 ∨ r = 9 ∨ r = 10 ∨ r = 11 ∨ r = 12 ∨ r = 13 ∨ r = 14 ∨ r = 15 := by omega
  rcases this with rfl | rfl | rfl | rfl | rfl | rfl | rfl | rfl | rfl | rfl | rfl | rfl | rfl | rfl | rfl | rfl <;> simp only [Nat.reducePow] <;> omega
theorem bit_dig (V i r : Nat) (hr : r < 16) : V / 2 ^ (16 * i + r) % 2 = dig V i / 2 ^ r % 2 := by
  have h : 2 ^ (16 * i + r) = 65536 ^ i * 2 ^ r := by
    rw [show (65536 : Nat) = 2 ^ 16 from rfl, ← Nat.pow_mul, ← Nat.pow_add]
  rw [h, ← Nat.div_div_eq_div_mul, dig, bit_word _ _ hr]
theorem bit_psum (f : Nat → Nat) (n i r : Nat) (hf : ∀ i, i < n → f i < 65536) (hi : i < n) (hr : r < 16) : psum f n / 2 ^ (16 * i + r) % 2 = f i / 2 ^ r % 2 := by
  rw [bit_dig _ _ _ hr, dig_psum f n hf i hi]
/-- The bit that is looked at when t are left. -/
def bt (t : Nat) : Nat := 2 ^ t / 2
theorem bt_succ (t : Nat) : bt (t + 1) = 2 ^ t := by unfold bt; rw [Nat.pow_succ]; omega
theorem bt_half (t : Nat) : bt (t + 1) / 2 = bt t := by rw [bt_succ, bt]
theorem psum_small (f : Nat → Nat) (n : Nat) (hf : ∀ i, i < n → f i < 65536) : psum f n / 2 ^ (16 * n) = 0 := by
  rw [Nat.pow_mul]; exact Nat.div_eq_of_lt (psum_lt f n hf)
end Go.MW
