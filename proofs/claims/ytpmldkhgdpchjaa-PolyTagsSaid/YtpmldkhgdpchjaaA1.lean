/- Plain arithmetic: long multiplication, row by row, in base 65536; digits of a number told by its bytes. Conditions: none. -/
import Derived.Test.YtpmldkhgdpchjaaA0
namespace Go.MW

/-- The carry after j digits of B + x * N. -/
def mac (B x N j : Nat) : Nat := (B % 65536 ^ j + x * (N % 65536 ^ j)) / 65536 ^ j
theorem mac_zero (B x N : Nat) : mac B x N 0 = 0 := by simp [mac, Nat.mod_one]
theorem mac_lt (B x N j : Nat) (hx : x < 65536) : mac B x N j < 65536 := by
  unfold mac
  have h1 : B % 65536 ^ j < 65536 ^ j := Nat.mod_lt _ (B_pos j)
  have h2 : N % 65536 ^ j < 65536 ^ j := Nat.mod_lt _ (B_pos j)
  rw [Nat.div_lt_iff_lt_mul (B_pos j)]
  have h3 : x * (N % 65536 ^ j) ≤ 65535 * 65536 ^ j := Nat.mul_le_mul (by omega) (by omega)
  omega
theorem mac_sum (B x N j : Nat) : (B % 65536 ^ (j + 1) + x * (N % 65536 ^ (j + 1))) / 65536 ^ j = dig B j + x * dig N j + mac B x N j := by
  rw [mod_succ, mod_succ N, show B % 65536 ^ j + 65536 ^ j * dig B j + x * (N % 65536 ^ j + 65536 ^ j * dig N j) = B % 65536 ^ j + x * (N % 65536 ^ j) + 65536 ^ j * (dig B j + x * dig N j) by rw [Nat.mul_add, Nat.mul_add, Nat.mul_left_comm x]; omega, div_add_mul, mac]
  omega
theorem mac_carry (B x N j : Nat) : (dig B j + x * dig N j + mac B x N j) / 65536 = mac B x N (j + 1) := by
  rw [← mac_sum, Nat.div_div_eq_div_mul, mac, Nat.pow_succ]
theorem mac_top (B x N j : Nat) (hN : N < 65536 ^ j) : dig B j + mac B x N j = dig B j + (B % 65536 ^ j + x * N) / 65536 ^ j := by
  rw [mac, Nat.mod_eq_of_lt hN]
theorem mac_dig (B x N j : Nat) : (dig B j + x * dig N j + mac B x N j) % 65536 = dig (B + x * N) j := by
  have e : (B + x * N) / 65536 ^ j = B / 65536 ^ j + x * (N / 65536 ^ j) + mac B x N j := by
    have h := Nat.div_add_mod B (65536 ^ j)
    have h2 := Nat.div_add_mod N (65536 ^ j)
    have h3 : x * N = x * (65536 ^ j * (N / 65536 ^ j)) + x * (N % 65536 ^ j) := by rw [← Nat.mul_add, h2]
    have : B + x * N = B % 65536 ^ j + x * (N % 65536 ^ j) + 65536 ^ j * (B / 65536 ^ j + x * (N / 65536 ^ j)) := by
      rw [h3, Nat.mul_left_comm x, Nat.mul_add]; omega
    rw [this, div_add_mul, mac]; omega
  unfold dig
  rw [e, Nat.add_mod, Nat.add_mod (B / _ % _), Nat.mul_mod_mod, Nat.mod_mod, ← Nat.add_mod (B / _), ← Nat.add_mod]

/-- The product's digits after i rows, and within row i after j digits. -/
def prw (A N i : Nat) : Nat := A % 65536 ^ i * N
def prf (A N i j : Nat) : Nat → Nat := fun p => if p < i + j then dig (prw A N (i + 1)) p else dig (prw A N i) p
def prc (A N i j : Nat) : Nat := mac (prw A N i / 65536 ^ i) (dig A i) N j
theorem prw_succ (A N i : Nat) : prw A N (i + 1) = prw A N i + 65536 ^ i * (dig A i * N) := by
  unfold prw; rw [mod_succ, Nat.add_mul, Nat.mul_assoc]
theorem prw_div (A N i : Nat) : prw A N (i + 1) / 65536 ^ i = prw A N i / 65536 ^ i + dig A i * N := by
  rw [prw_succ, div_add_mul]
theorem dig_div (V i j : Nat) : dig (V / 65536 ^ i) j = dig V (i + j) := by
  unfold dig; rw [Nat.div_div_eq_div_mul, ← Nat.pow_add]
theorem dig_addhi (V X i p : Nat) (h : p < i) : dig (V + 65536 ^ i * X) p = dig V p := by
  unfold dig
  obtain ⟨r, rfl⟩ : ∃ r, i = p + 1 + r := ⟨i - (p + 1), by omega⟩
  rw [Nat.pow_add, Nat.pow_succ, Nat.mul_assoc, Nat.mul_assoc, div_add_mul, Nat.add_mul_mod_self_left]
theorem prf_zero (A N i : Nat) : prf A N i 0 = dig (prw A N i) := by
  funext p
  unfold prf
  split
  · rw [prw_succ, dig_addhi _ _ _ _ (by omega)]
  · rfl
theorem prf_at (A N i j : Nat) : prf A N i j (i + j) = dig (prw A N i / 65536 ^ i) j := by
  unfold prf; rw [if_neg (by omega), dig_div]
theorem pr_dig (A N i j : Nat) : (prf A N i j (i + j) + dig A i * dig N j + prc A N i j) % 65536 = dig (prw A N (i + 1)) (i + j) := by
  rw [prf_at, prc, mac_dig, ← dig_div, prw_div]
theorem pr_carry (A N i j : Nat) : (prf A N i j (i + j) + dig A i * dig N j + prc A N i j) / 65536 = prc A N i (j + 1) := by
  rw [prf_at, prc, mac_carry, prc]
theorem prf_succ (A N i j : Nat) : upd (prf A N i j) (i + j) (dig (prw A N (i + 1)) (i + j)) = prf A N i (j + 1) := by
  funext p
  unfold upd prf
  by_cases h : p = i + j
  · subst h; simp
  · by_cases h2 : p < i + j
    · simp [h, h2, show p < i + (j + 1) by omega]
    · simp [h, h2, show ¬ p < i + (j + 1) by omega]
theorem prw_lt (A N i : Nat) {l : Nat} (hN : N < 65536 ^ l) : prw A N i < 65536 ^ (i + l) := by
  unfold prw
  rw [Nat.pow_add]
  exact Nat.mul_lt_mul_of_lt_of_le (Nat.mod_lt _ (B_pos i)) (Nat.le_of_lt hN) (B_pos l)
theorem dig_small (V i : Nat) (h : V < 65536 ^ i) : dig V i = 0 := by simp [dig, Nat.div_eq_of_lt h]
/-- The row's last carry. -/
theorem pr_last (A N i : Nat) {l : Nat} (hN : N < 65536 ^ l) : upd (prf A N i l) (i + l) (prf A N i l (i + l) + prc A N i l) = dig (prw A N (i + 1)) := by
  have hB : dig (prw A N i / 65536 ^ i) l = 0 := by rw [dig_div]; exact dig_small _ _ (prw_lt A N i hN)
  have hlt : prc A N i l < 65536 := mac_lt _ _ _ _ (dig_lt A i)
  have h16 : prf A N i l (i + l) + prc A N i l = dig (prw A N (i + 1)) (i + l) := by
    have hd := pr_dig A N i l
    rw [dig_small N l hN, Nat.mul_zero, prf_at, hB] at hd
    rw [prf_at, hB, ← hd, Nat.mod_eq_of_lt (by omega)]
  rw [h16, prf_succ]
  funext p
  unfold prf
  split
  · rfl
  · have h1 : p ≥ i + l + 1 := by omega
    have h2 : 65536 ^ (i + l + 1) ≤ 65536 ^ p := Nat.pow_le_pow_right (by decide) h1
    have h3 := prw_lt A N i hN
    have h4 := prw_lt A N (i + 1) hN
    have h5 : 65536 ^ (i + l) ≤ 65536 ^ (i + l + 1) := Nat.pow_le_pow_right (by decide) (by omega)
    rw [show i + 1 + l = i + l + 1 by omega] at h4
    rw [dig_small _ _ (Nat.lt_of_lt_of_le h4 h2), dig_small _ _ (by omega)]
theorem prw_full (A N : Nat) {l : Nat} (hA : A < 65536 ^ l) : prw A N l = A * N := by unfold prw; rw [Nat.mod_eq_of_lt hA]
theorem prw_zero (A N : Nat) : prw A N 0 = 0 := by simp [prw, Nat.mod_one]

theorem dig_lev (f : Nat → Nat) (n : Nat) (hf : ∀ i, i < n → f i < 256) (k : Nat) (hk : 2 * k < n) : dig (lev f n) k = f (2 * k) + 256 * (if 2 * k + 1 < n then f (2 * k + 1) else 0) := by
  rw [dig_byt, byt_lev f n hf _ hk]
  split
  · rename_i h; rw [byt_lev f n hf _ h]
  · rw [byt_small _ _ (Nat.lt_of_lt_of_le (lev_lt f n hf) (Nat.pow_le_pow_right (by decide) (by omega)))]
theorem bt_pos {t : Nat} (h : 0 < bt t) : ∃ u, t = u + 1 := by
  cases t with
  | zero => exact absurd h (by decide)
  | succ u => exact ⟨u, rfl⟩
theorem bt_none {t : Nat} (h : ¬ 0 < bt t) : t = 0 := by
  cases t with
  | zero => rfl
  | succ u => rw [bt_succ] at h; exact absurd (Nat.two_pow_pos u) h
theorem ad_top {A N l : Nat} (hA : A < 65536 ^ l) (hN : N < 65536 ^ l) : adc A N l = dig (A + N) l := by
  have h := adc_lt A N l
  unfold adc at h ⊢
  rw [Nat.mod_eq_of_lt hA, Nat.mod_eq_of_lt hN] at h ⊢
  unfold dig
  exact (Nat.mod_eq_of_lt (by omega)).symm
theorem psum_digA (A k : Nat) (h : A < 65536 ^ k) : psum (dig A) k = A := by rw [psum_dig, Nat.mod_eq_of_lt h]
theorem dig_D32 {N : Nat} (h : N < D32) : N < 65536 ^ 16 := Nat.lt_of_lt_of_le h (by decide)
end Go.MW
