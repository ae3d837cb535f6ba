/- The operations of a function, one law each, for the small logic of walks. Conditions: none. -/
import Derived.Test.YtpmldkhgdpchjaaM0
import Derived.Test.YtpmldkhgdpchjaaA0
namespace Go.MW
open Go.RowKit

/-- A natural number as an integer value. -/
abbrev vn (k : IntKind) (p : Nat) : Value := .int k (p : Int)

/-- The cells of an array of integers. -/
def arr (k : IntKind) (n : Nat) (f : Nat → Nat) : Array Value := ((List.range n).map fun i => vn k (f i)).toArray

theorem arr_size (k : IntKind) (n : Nat) (f : Nat → Nat) : (arr k n f).size = n := by simp [arr]
theorem arr_get (k : IntKind) (n : Nat) (f : Nat → Nat) {i : Nat} (h : i < n) : (arr k n f)[i]? = some (vn k (f i)) := by simp [arr, h]
theorem arr_get_none (k : IntKind) (n : Nat) (f : Nat → Nat) {i : Nat} (h : n ≤ i) : (arr k n f)[i]? = none := by simp [arr, h]
theorem arr_ext {a : Array Value} {k : IntKind} {n : Nat} {f : Nat → Nat} (hs : a.size = n) (h : ∀ i, i < n → a[i]? = some (vn k (f i))) : a = arr k n f := by
  apply Array.ext_getElem?
  intro i
  by_cases hi : i < n
  · rw [h i hi, arr_get k n f hi]
  · rw [arr_get_none k n f (by omega)]; simp; omega
theorem arr_congr {k : IntKind} {n : Nat} {f g : Nat → Nat} (h : ∀ i, i < n → f i = g i) : arr k n f = arr k n g :=
  arr_ext (arr_size _ _ _) fun i hi => by rw [arr_get k n f hi, h i hi]
theorem arr_set (k : IntKind) (n : Nat) (f : Nat → Nat) (i v : Nat) : (arr k n f).setIfInBounds i (vn k v) = arr k n (upd f i v) := by
  refine arr_ext (by simp [arr_size]) fun j hj => ?_
  rw [Array.getElem?_setIfInBounds]
  by_cases hij : i = j
  · subst hij
    rw [if_pos rfl, if_pos (by simpa [arr_size] using hj)]
    simp [upd]
  · rw [if_neg hij, arr_get k n f hj]
    have : ¬ j = i := fun e => hij e.symm
    simp [upd, this]
theorem arr_one (k : IntKind) (n : Nat) (f : Nat → Nat) : ∀ v ∈ (arr k n f).toList, v.oneCell' = true := by
  intro v hv
  simp only [arr, List.mem_map] at hv
  obtain ⟨i, _, rfl⟩ := hv
  rfl
theorem arr_toList (k : IntKind) (n : Nat) (f : Nat → Nat) : (arr k n f).toList = (List.range n).map fun i => vn k (f i) := by simp [arr]
theorem arr_inj {k : IntKind} {n : Nat} {f g : Nat → Nat} (h : arr k n f = arr k n g) {i : Nat} (hi : i < n) : f i = g i := by
  have h1 := arr_get k n f hi
  rw [h, arr_get k n g hi] at h1
  simp only [Option.some.injEq, Value.int.injEq, true_and] at h1
  omega

/-- How many values an unsigned kind has. -/
def md : IntKind → Nat
  | .u8 => 256 | .u16 => 65536 | .u32 => 4294967296 | .u64 => 18446744073709551616 | _ => 0

theorem wrap_u {k : IntKind} (h : k.signed = false) (n : Int) : k.wrap n = n % (md k : Int) := by
  cases k <;> first | (simp [IntKind.signed] at h; done) | (simp [IntKind.wrap, IntKind.bits, IntKind.signed, md])
theorem wrap_un {k : IntKind} (h : k.signed = false) (n : Nat) : k.wrap (n : Int) = ((n % md k : Nat) : Int) := by rw [wrap_u h]; omega
theorem md_pow {k : IntKind} (h : k.signed = false) : 2 ^ k.bits = md k := by
  cases k <;> first | (simp [IntKind.signed] at h; done) | rfl
theorem wrap_i {n : Nat} (h : n < 9223372036854775808) : IntKind.i64.wrap (n : Int) = (n : Int) := IntWalk.i64_in _ (by omega)

section
variable {P : Program} {w0 : World} {m : Mem} {ρ : Operand → Value} {dst : Option Tmp} {ty : TypeId} {pos : String} {after : Array Edge} {gd : Option (Nat × Bool)}
variable {x y : Operand} {k : IntKind} {p q : Nat} {T T' : TypeId}

theorem det_move : Det P w0 m ρ ⟨dst, .move x, ty, pos, after, gd⟩ (ρ x) := fun w _ => by simp [execOp]
theorem det_assign : Det P w0 m ρ ⟨dst, .assign x, ty, pos, after, gd⟩ (ρ x) := fun w _ => by simp [execOp]
theorem det_pick_true {a b : Operand} (h : ρ x = .bool true) : Det P w0 m ρ ⟨dst, .pick x a b, ty, pos, after, gd⟩ (ρ a) := fun w _ => by simp [execOp, h, asBool]
theorem det_pick_false {a b : Operand} (h : ρ x = .bool false) : Det P w0 m ρ ⟨dst, .pick x a b, ty, pos, after, gd⟩ (ρ b) := fun w _ => by simp [execOp, h, asBool]
theorem det_pick {a b : Operand} {t u v : Bool} (h : ρ x = .bool t) (ha : ρ a = .bool u) (hb : ρ b = .bool v) : Det P w0 m ρ ⟨dst, .pick x a b, ty, pos, after, gd⟩ (.bool (if t then u else v)) := fun w _ => by
  cases t <;> simp [execOp, h, ha, hb, asBool]

theorem det_bin {op : BinOp} {a b : Int} {v : Value} (hx : ρ x = .int k a) (hy : ρ y = .int k b) (h : ∀ w, (binOp op T (.int k a) (.int k b)).run P w = .ok v w) :
    Det P w0 m ρ ⟨dst, .binOp op T x y T', ty, pos, after, gd⟩ v := fun w _ => by
  simp [execOp, hx, hy, eqGuard_at_int, h]

theorem det_add (hk : k.signed = false) (hx : ρ x = vn k p) (hy : ρ y = vn k q) : Det P w0 m ρ ⟨dst, .binOp .add T x y T', ty, pos, after, gd⟩ (vn k ((p + q) % md k)) :=
  det_bin hx hy fun w => by
    have h : ((p : Int) + (q : Int)) = ((p + q : Nat) : Int) := by omega
    rw [binOp_add]; simp only [Op.intArith]; rw [h, wrap_un hk]; rfl
theorem det_add' (hk : k.signed = false) (hx : ρ x = vn k p) (hy : ρ y = vn k q) (h : p + q < md k) : Det P w0 m ρ ⟨dst, .binOp .add T x y T', ty, pos, after, gd⟩ (vn k (p + q)) := by
  have := det_add (P := P) (w0 := w0) (m := m) (dst := dst) (ty := ty) (pos := pos) (after := after) (gd := gd) (T := T) (T' := T') hk hx hy
  rwa [Nat.mod_eq_of_lt h] at this
theorem det_mul (hk : k.signed = false) (hx : ρ x = vn k p) (hy : ρ y = vn k q) : Det P w0 m ρ ⟨dst, .binOp .mul T x y T', ty, pos, after, gd⟩ (vn k ((p * q) % md k)) :=
  det_bin hx hy fun w => by
    have h : ((p : Int) * (q : Int)) = ((p * q : Nat) : Int) := by simp
    rw [binOp_mul]; simp only [Op.intArith]; rw [h, wrap_un hk]; rfl
theorem det_mul' (hk : k.signed = false) (hx : ρ x = vn k p) (hy : ρ y = vn k q) (h : p * q < md k) : Det P w0 m ρ ⟨dst, .binOp .mul T x y T', ty, pos, after, gd⟩ (vn k (p * q)) := by
  have := det_mul (P := P) (w0 := w0) (m := m) (dst := dst) (ty := ty) (pos := pos) (after := after) (gd := gd) (T := T) (T' := T') hk hx hy
  rwa [Nat.mod_eq_of_lt h] at this
theorem det_sub (hk : k.signed = false) (hx : ρ x = vn k p) (hy : ρ y = vn k q) (hq : q ≤ md k) : Det P w0 m ρ ⟨dst, .binOp .sub T x y T', ty, pos, after, gd⟩ (vn k ((p + (md k - q)) % md k)) :=
  det_bin hx hy fun w => by
    rw [binOp_sub]; simp only [Op.intArith]; rw [wrap_u hk]
    have h : ((p : Int) - (q : Int)) % (md k : Int) = (((p + (md k - q)) % md k : Nat) : Int) := by
      have h1 : ((p + (md k - q) : Nat) : Int) = (p : Int) - (q : Int) + (md k : Int) := by omega
      rw [Int.natCast_emod, h1, Int.add_emod_right]
    rw [h]; rfl
theorem det_sub' (hk : k.signed = false) (hx : ρ x = vn k p) (hy : ρ y = vn k q) (hq : q ≤ p) (hp : p < md k) : Det P w0 m ρ ⟨dst, .binOp .sub T x y T', ty, pos, after, gd⟩ (vn k (p - q)) := by
  have := det_sub (P := P) (w0 := w0) (m := m) (dst := dst) (ty := ty) (pos := pos) (after := after) (gd := gd) (T := T) (T' := T') hk hx hy (by omega)
  have e : (p + (md k - q)) % md k = p - q := by
    have : p + (md k - q) = (p - q) + md k := by omega
    rw [this, Nat.add_mod_right, Nat.mod_eq_of_lt (by omega)]
  rwa [e] at this

theorem bits_u (hk : k.signed = false) (hp : p < md k) : (BitVec.ofInt k.bits (p : Int)).toNat = p := by
  rw [BitVec.ofInt_natCast, BitVec.toNat_ofNat, md_pow hk, Nat.mod_eq_of_lt hp]
theorem det_and (hk : k.signed = false) (hx : ρ x = vn k p) (hy : ρ y = vn k q) (hp : p < md k) (hq : q < md k) : Det P w0 m ρ ⟨dst, .binOp .and T x y T', ty, pos, after, gd⟩ (vn k (p &&& q)) :=
  det_bin hx hy fun w => by
    have h : p &&& q < md k := Nat.lt_of_le_of_lt Nat.and_le_left hp
    rw [binOp_and]; simp only [Op.intBits, BitVec.toNat_and]; rw [bits_u hk hp, bits_u hk hq, wrap_un hk, Nat.mod_eq_of_lt h]; rfl
theorem det_or (hk : k.signed = false) (hx : ρ x = vn k p) (hy : ρ y = vn k q) (hp : p < md k) (hq : q < md k) : Det P w0 m ρ ⟨dst, .binOp .or T x y T', ty, pos, after, gd⟩ (vn k (p ||| q)) :=
  det_bin hx hy fun w => by
    have h : p ||| q < md k := by rw [← md_pow hk] at hp hq ⊢; exact Nat.or_lt_two_pow hp hq
    rw [binOp_or]; simp only [Op.intBits, BitVec.toNat_or]; rw [bits_u hk hp, bits_u hk hq, wrap_un hk, Nat.mod_eq_of_lt h]; rfl
theorem det_xor (hk : k.signed = false) (hx : ρ x = vn k p) (hy : ρ y = vn k q) (hp : p < md k) (hq : q < md k) : Det P w0 m ρ ⟨dst, .binOp .xor T x y T', ty, pos, after, gd⟩ (vn k (p ^^^ q)) :=
  det_bin hx hy fun w => by
    have h : p ^^^ q < md k := by rw [← md_pow hk] at hp hq ⊢; exact Nat.xor_lt_two_pow hp hq
    rw [binOp_xor]; simp only [Op.intBits, BitVec.toNat_xor]; rw [bits_u hk hp, bits_u hk hq, wrap_un hk, Nat.mod_eq_of_lt h]; rfl

theorem det_shl {k' : IntKind} {s : Nat} (hk : k.signed = false) (hx : ρ x = vn k p) (hy : ρ y = vn k' s) (hs : s ≤ k.bits) : Det P w0 m ρ ⟨dst, .binOp .shl T x y T', ty, pos, after, gd⟩ (vn k ((p * 2 ^ s) % md k)) := fun w _ => by
  have h := shift_shl k k' (p : Int) (s : Int) (by omega) (by omega)
  have e : ((p : Int) * 2 ^ ((s : Int).toNat)) = ((p * 2 ^ s : Nat) : Int) := by simp
  simp only [execOp, hx, hy, eqGuard_shl, binOp_shl, h, e, wrap_un hk]
  simp
theorem det_shr {k' : IntKind} {s : Nat} (hx : ρ x = vn k p) (hy : ρ y = vn k' s) (hs : s ≤ k.bits) : Det P w0 m ρ ⟨dst, .binOp .shr T x y T', ty, pos, after, gd⟩ (vn k (p / 2 ^ s)) := fun w _ => by
  have h := shift_shr k k' (p : Int) (s : Int) (by omega) (by omega)
  have e : ((p : Int) / 2 ^ ((s : Int).toNat)) = ((p / 2 ^ s : Nat) : Int) := by simp
  simp only [execOp, hx, hy, eqGuard_shr, binOp_shr, h, e]
  simp

/-! int -/
theorem det_addi (hx : ρ x = vn .i64 p) (hy : ρ y = vn .i64 q) (h : p + q < 9223372036854775808) : Det P w0 m ρ ⟨dst, .binOp .add T x y T', ty, pos, after, gd⟩ (vn .i64 (p + q)) :=
  det_bin hx hy fun w => by
    have e : ((p : Int) + (q : Int)) = ((p + q : Nat) : Int) := by omega
    rw [binOp_add]; simp only [Op.intArith]; rw [e, wrap_i h]; rfl
theorem det_subi (hx : ρ x = vn .i64 p) (hy : ρ y = vn .i64 q) (hq : q ≤ p) (h : p < 9223372036854775808) : Det P w0 m ρ ⟨dst, .binOp .sub T x y T', ty, pos, after, gd⟩ (vn .i64 (p - q)) :=
  det_bin hx hy fun w => by
    have e : ((p : Int) - (q : Int)) = ((p - q : Nat) : Int) := by omega
    rw [binOp_sub]; simp only [Op.intArith]; rw [e, wrap_i (by omega)]; rfl
theorem det_muli (hx : ρ x = vn .i64 p) (hy : ρ y = vn .i64 q) (h : p * q < 9223372036854775808) : Det P w0 m ρ ⟨dst, .binOp .mul T x y T', ty, pos, after, gd⟩ (vn .i64 (p * q)) :=
  det_bin hx hy fun w => by
    have e : ((p : Int) * (q : Int)) = ((p * q : Nat) : Int) := by simp
    rw [binOp_mul]; simp only [Op.intArith]; rw [e, wrap_i h]; rfl
theorem det_arithi {op : BinOp} {a b r : Int} (hx : ρ x = .int .i64 a) (hy : ρ y = .int .i64 b) (hr : (Op.intArith op .i64 a b).run P w0 = .ok (.int .i64 r) w0) (hop : op = .add ∨ op = .sub ∨ op = .mul) :
    Det P w0 m ρ ⟨dst, .binOp op T x y T', ty, pos, after, gd⟩ (.int .i64 r) :=
  det_bin hx hy fun w => by
    rcases hop with rfl | rfl | rfl
    · rw [binOp_add]; simp [Op.intArith] at hr ⊢; exact hr
    · rw [binOp_sub]; simp [Op.intArith] at hr ⊢; exact hr
    · rw [binOp_mul]; simp [Op.intArith] at hr ⊢; exact hr
theorem det_addz {a b r : Int} (hx : ρ x = .int .i64 a) (hy : ρ y = .int .i64 b) (hr : a + b = r) (h1 : -9223372036854775808 ≤ r) (h2 : r ≤ 9223372036854775807) :
    Det P w0 m ρ ⟨dst, .binOp .add T x y T', ty, pos, after, gd⟩ (.int .i64 r) :=
  det_bin hx hy fun w => by rw [binOp_add]; simp only [Op.intArith]; rw [hr, IntWalk.i64_in _ ⟨h1, h2⟩]; rfl
theorem det_subz {a b r : Int} (hx : ρ x = .int .i64 a) (hy : ρ y = .int .i64 b) (hr : a - b = r) (h1 : -9223372036854775808 ≤ r) (h2 : r ≤ 9223372036854775807) :
    Det P w0 m ρ ⟨dst, .binOp .sub T x y T', ty, pos, after, gd⟩ (.int .i64 r) :=
  det_bin hx hy fun w => by rw [binOp_sub]; simp only [Op.intArith]; rw [hr, IntWalk.i64_in _ ⟨h1, h2⟩]; rfl
theorem det_quoi (hx : ρ x = vn k p) (hy : ρ y = vn k q) (hq : 0 < q) (hk : k.signed = false ∨ k = .i64 ∧ p < 9223372036854775808) (hp : k = .i64 ∨ p < md k) : Det P w0 m ρ ⟨dst, .binOp .quo T x y T', ty, pos, after, gd⟩ (vn k (p / q)) :=
  det_bin hx hy fun w => by
    rw [binOp_quo]; simp only [Op.intDiv]
    rw [if_neg (by omega)]
    have e : (p : Int).tdiv (q : Int) = ((p / q : Nat) : Int) := by rw [Int.tdiv_eq_ediv_of_nonneg (by omega)]; simp
    have hle : p / q ≤ p := Nat.div_le_self p q
    rw [e]
    rcases hk with hk | ⟨rfl, hk⟩
    · rcases hp with rfl | hp
      · simp [IntKind.signed] at hk
      · rw [wrap_un hk, Nat.mod_eq_of_lt (by omega)]; rfl
    · rw [wrap_i (by omega)]; rfl
theorem det_remi (hx : ρ x = vn k p) (hy : ρ y = vn k q) (hq : 0 < q) : Det P w0 m ρ ⟨dst, .binOp .rem T x y T', ty, pos, after, gd⟩ (vn k (p % q)) :=
  det_bin hx hy fun w => by
    rw [binOp_rem]; simp only [Op.intDiv]
    rw [if_neg (by omega)]
    have e : (p : Int).tmod (q : Int) = ((p % q : Nat) : Int) := by rw [Int.tmod_eq_emod_of_nonneg (by omega)]; simp
    rw [e]; rfl

/-! comparisons -/
theorem det_lss (hx : ρ x = vn k p) (hy : ρ y = vn k q) : Det P w0 m ρ ⟨dst, .binOp .lss T x y T', ty, pos, after, gd⟩ (.bool (decide (p < q))) :=
  det_bin hx hy fun w => by rw [binOp_lss]; simp
theorem det_leq (hx : ρ x = vn k p) (hy : ρ y = vn k q) : Det P w0 m ρ ⟨dst, .binOp .leq T x y T', ty, pos, after, gd⟩ (.bool (decide (p ≤ q))) :=
  det_bin hx hy fun w => by rw [binOp_leq]; simp
theorem det_gtr (hx : ρ x = vn k p) (hy : ρ y = vn k q) : Det P w0 m ρ ⟨dst, .binOp .gtr T x y T', ty, pos, after, gd⟩ (.bool (decide (q < p))) :=
  det_bin hx hy fun w => by rw [binOp_gtr]; simp
theorem det_geq (hx : ρ x = vn k p) (hy : ρ y = vn k q) : Det P w0 m ρ ⟨dst, .binOp .geq T x y T', ty, pos, after, gd⟩ (.bool (decide (q ≤ p))) :=
  det_bin hx hy fun w => by rw [binOp_geq]; simp
theorem det_eql (hx : ρ x = vn k p) (hy : ρ y = vn k q) : Det P w0 m ρ ⟨dst, .binOp .eql T x y T', ty, pos, after, gd⟩ (.bool (decide (p = q))) :=
  det_bin hx hy fun w => by
    rw [binOp_eql]
    have e : ((p : Int) == (q : Int)) = decide (p = q) := by
      by_cases h : p = q
      · subst h; simp
      · rw [decide_eq_false h]; simp; omega
    rw [e]; rfl
theorem det_neq (hx : ρ x = vn k p) (hy : ρ y = vn k q) : Det P w0 m ρ ⟨dst, .binOp .neq T x y T', ty, pos, after, gd⟩ (.bool (!decide (p = q))) :=
  det_bin hx hy fun w => by
    rw [binOp_neq]
    have e : ((p : Int) != (q : Int)) = !decide (p = q) := by
      by_cases h : p = q
      · subst h; simp
      · rw [decide_eq_false h]; simp; omega
    rw [e]; rfl
/-! comparisons of whole numbers -/
theorem det_lssz {a b : Int} (hx : ρ x = .int k a) (hy : ρ y = .int k b) : Det P w0 m ρ ⟨dst, .binOp .lss T x y T', ty, pos, after, gd⟩ (.bool (decide (a < b))) :=
  det_bin hx hy fun w => by rw [binOp_lss]; simp
theorem det_geqz {a b : Int} (hx : ρ x = .int k a) (hy : ρ y = .int k b) : Det P w0 m ρ ⟨dst, .binOp .geq T x y T', ty, pos, after, gd⟩ (.bool (decide (b ≤ a))) :=
  det_bin hx hy fun w => by rw [binOp_geq]; simp
theorem det_gtrz {a b : Int} (hx : ρ x = .int k a) (hy : ρ y = .int k b) : Det P w0 m ρ ⟨dst, .binOp .gtr T x y T', ty, pos, after, gd⟩ (.bool (decide (b < a))) :=
  det_bin hx hy fun w => by rw [binOp_gtr]; simp
theorem det_leqz {a b : Int} (hx : ρ x = .int k a) (hy : ρ y = .int k b) : Det P w0 m ρ ⟨dst, .binOp .leq T x y T', ty, pos, after, gd⟩ (.bool (decide (a ≤ b))) :=
  det_bin hx hy fun w => by rw [binOp_leq]; simp
theorem det_eqlz {a b : Int} (hx : ρ x = .int k a) (hy : ρ y = .int k b) : Det P w0 m ρ ⟨dst, .binOp .eql T x y T', ty, pos, after, gd⟩ (.bool (a == b)) :=
  det_bin hx hy fun w => by rw [binOp_eql]; rfl
theorem det_neqz {a b : Int} (hx : ρ x = .int k a) (hy : ρ y = .int k b) : Det P w0 m ρ ⟨dst, .binOp .neq T x y T', ty, pos, after, gd⟩ (.bool (a != b)) :=
  det_bin hx hy fun w => by rw [binOp_neq]; rfl

theorem det_not {b : Bool} (hx : ρ x = .bool b) : Det P w0 m ρ ⟨dst, .unOp .not T x, ty, pos, after, gd⟩ (.bool (!b)) := fun w _ => by simp [execOp, hx, Op.unary]

/-! conversions -/
theorem det_conv {k' : IntKind} (hd : P.underlying T' = some (.int k')) {d : TypeDesc} (hs : P.underlying T = some d) (hk : k'.signed = false) (hx : ρ x = vn k p) :
    Det P w0 m ρ ⟨dst, .convert T T' x, ty, pos, after, gd⟩ (vn k' (p % md k')) := fun w _ => by
  simp [execOp, hx, convert, run_underlying hs, run_underlying hd, Conv.intToInt, wrap_un hk]
theorem det_conv' {k' : IntKind} (hd : P.underlying T' = some (.int k')) {d : TypeDesc} (hs : P.underlying T = some d) (hk : k'.signed = false) (hx : ρ x = vn k p) (h : p < md k') :
    Det P w0 m ρ ⟨dst, .convert T T' x, ty, pos, after, gd⟩ (vn k' p) := by
  have := det_conv (P := P) (w0 := w0) (m := m) (dst := dst) (ty := ty) (pos := pos) (after := after) (gd := gd) hd hs hk hx
  rwa [Nat.mod_eq_of_lt h] at this
theorem det_convi (hd : P.underlying T' = some (.int .i64)) {d : TypeDesc} (hs : P.underlying T = some d) (hx : ρ x = vn k p) (h : p < 9223372036854775808) :
    Det P w0 m ρ ⟨dst, .convert T T' x, ty, pos, after, gd⟩ (vn .i64 p) := fun w _ => by
  simp [execOp, hx, convert, run_underlying hs, run_underlying hd, Conv.intToInt, wrap_i h]

/-! tuples -/
theorem det_extract {vs : Array Value} {v : Value} {i : Nat} (hx : ρ x = .tuple vs) (hi : vs[i]? = some v) : Det P w0 m ρ ⟨dst, .extract x i, ty, pos, after, gd⟩ v := fun w _ => by
  simp [execOp, hx, Instr.extract, hi]

/-! addresses -/
theorem det_idxA {b n j e : Nat} {a : Int} {k : IntKind} (hu : P.underlying T = some (.array n e)) (hz : ∀ w, (sizeOf e).run P w = .ok 1 w) (hx : ρ x = .pointer (some ⟨b, 0, none⟩)) (hy : ρ y = .int k a) (hj : a = (j : Int)) (h : j < n) :
    Det P w0 m ρ ⟨dst, .indexAddr T x y, ty, pos, after, gd⟩ (.pointer (some ⟨b, j, none⟩)) := fun w _ => by
  subst hj
  have h0 : (0 : Int) ≤ (j : Int) ∧ (j : Int) < (n : Int) := by omega
  have e1 : (⟨b, 0, none⟩ : Addr).add j = ⟨b, j, none⟩ := by simp [Addr.add_lit]
  simp [execOp, hx, hy, Instr.indexAt, run_underlying hu, asIntOf, Instr.sureAddr, hz, h, e1]
theorem det_idxS {b o n c j e : Nat} {a : Int} {k : IntKind} {ad : Option Addr} (hu : P.underlying T = some (.slice e)) (hz : ∀ w, (sizeOf e).run P w = .ok 1 w) (hx : ρ x = .slice ad n c) (hy : ρ y = .int k a) (hj : a = (j : Int)) (h : j < n) (ha : ad = some ⟨b, o, none⟩) :
    Det P w0 m ρ ⟨dst, .indexAddr T x y, ty, pos, after, gd⟩ (.pointer (some ⟨b, o + j, none⟩)) := fun w _ => by
  subst hj ha
  have h0 : (0 : Int) ≤ (j : Int) ∧ (j : Int) < (n : Int) := by omega
  simp [execOp, hx, hy, Instr.indexAt, run_underlying hu, asIntOf, hz, h, Addr.add_lit]
theorem det_index {n j e : Nat} {f : Nat → Nat} {a : Int} {k k' : IntKind} (hu : P.underlying T = some (.array n e)) (hz : ∀ w, (sizeOf e).run P w = .ok 1 w) (hg : ∀ w, (isAgg e).run P w = .ok false w) (hx : ρ x = .agg (arr k' n f)) (hy : ρ y = .int k a) (hj : a = (j : Int)) (h : j < n) :
    Det P w0 m ρ ⟨dst, .index T x y, ty, pos, after, gd⟩ (vn k' (f j)) := fun w _ => by
  subst hj
  have h0 : (0 : Int) ≤ (j : Int) ∧ (j : Int) < (n : Int) := by omega
  simp [execOp, hx, hy, Instr.index, run_underlying hu, asIntOf, hz, h, part, hg, arr_get k' n f h]

/-! loads -/
theorem det_loadAt {a : Addr} {v : Value} (hg : ∀ w, (isAgg T).run P w = .ok false w) (hx : ρ x = .pointer (some a)) (h : ∀ w, Has w0 m w → w.cell? a = some v) : Det P w0 m ρ ⟨dst, .load T x, ty, pos, after, gd⟩ v := fun w hw => by
  simp [execOp, hx, Instr.loadAt, Instr.sureAddr, loadVar, hg, h w hw]
/-- out of a block of one's own -/
theorem det_load (i : Nat) {b off : Nat} {c : Array Value} {t : TypeId} {fz : Nat × Nat} {v : Value} (hg : ∀ w, (isAgg T).run P w = .ok false w) (hx : ρ x = .pointer (some ⟨b, off, none⟩)) (hm : m[i]? = some (some b, .cells c t fz)) (hc : c[off]? = some v) :
    Det P w0 m ρ ⟨dst, .load T x, ty, pos, after, gd⟩ v :=
  det_loadAt hg hx fun w hw => by simp [World.cell?, hw.at i hm, hc]
theorem det_loadA (i : Nat) {b n off : Nat} {f : Nat → Nat} {k : IntKind} {t : TypeId} {fz : Nat × Nat} (hg : ∀ w, (isAgg T).run P w = .ok false w) (hx : ρ x = .pointer (some ⟨b, off, none⟩)) (hm : m[i]? = some (some b, .cells (arr k n f) t fz)) (h : off < n) :
    Det P w0 m ρ ⟨dst, .load T x, ty, pos, after, gd⟩ (vn k (f off)) :=
  det_load i hg hx hm (arr_get k n f h)
/-- out of memory that was there when the call began -/
theorem det_loadF {a : Addr} {v : Value} (hg : ∀ w, (isAgg T).run P w = .ok false w) (hx : ρ x = .pointer (some a)) (h : w0.cell? a = some v) : Det P w0 m ρ ⟨dst, .load T x, ty, pos, after, gd⟩ v :=
  det_loadAt hg hx fun _ hw => hw.far h
/-- a whole array -/
theorem det_loadW (i : Nat) {b : Nat} {c : Array Value} {t : TypeId} {fz : Nat × Nat} {d : TypeDesc} (hu : P.underlying T = some d) (hd : (match d with | .struct _ | .array _ _ => true | _ => false) = true) (hi : (P.info? T).map (·.size) = some c.size)
    (hx : ρ x = .pointer (some ⟨b, 0, none⟩)) (hm : m[i]? = some (some b, .cells c t fz)) : Det P w0 m ρ ⟨dst, .load T x, ty, pos, after, gd⟩ (.agg c) := fun w hw => by
  have := run_loadVar_row (P := P) w b t T c fz d (hw.at i hm) hu hd hi
  simp [execOp, hx, Instr.loadAt, Instr.sureAddr, this]

theorem det_loadWA (i : Nat) {b n : Nat} {k : IntKind} {f : Nat → Nat} {t : TypeId} {fz : Nat × Nat} {d : TypeDesc} (hu : P.underlying T = some d) (hd : (match d with | .struct _ | .array _ _ => true | _ => false) = true) (hi : (P.info? T).map (·.size) = some n)
    (hx : ρ x = .pointer (some ⟨b, 0, none⟩)) (hm : m[i]? = some (some b, .cells (arr k n f) t fz)) : Det P w0 m ρ ⟨dst, .load T x, ty, pos, after, gd⟩ (.agg (arr k n f)) :=
  det_loadW i hu hd (by rw [arr_size]; exact hi) hx hm

/-! slices -/
theorem det_sliceA {b n e : Nat} (hu : P.underlying T = some (.array n e)) (hz : ∀ w, (sizeOf e).run P w = .ok 1 w) (hx : ρ x = .pointer (some ⟨b, 0, none⟩)) :
    Det P w0 m ρ ⟨dst, .slice T x none none none, ty, pos, after, gd⟩ (.slice (some ⟨b, 0, none⟩) n n) := fun w _ => by
  by_cases h : n = 0
  · subst h; simp [execOp, hx, Instr.sliceAt, run_underlying hu, Instr.sureAddr, Instr.sliceBounds, hz]
  · simp [execOp, hx, Instr.sliceAt, run_underlying hu, Instr.sureAddr, Instr.sliceBounds, hz, Addr.add_lit]

theorem det_len {n c : Nat} {ad : Option Addr} {e : TypeId} {x : Operand} (hu : P.underlying T = some (.slice e)) (hx : ρ x = .slice ad n c) :
    Det P w0 m ρ ⟨dst, .call { callee := .builtin .len, args := #[x], argTypes := #[T] }, ty, pos, after, gd⟩ (vn .i64 n) := fun w _ => by
  simp [execOp, resolve, invoke, builtin, hx, Builtin.len_, run_underlying hu, goInt]

/-! whole values -/
/-- Are two arrays of integers the same? -/
def eqA (n : Nat) (f g : Nat → Nat) : Bool := (List.range n).all fun i => decide (f i = g i)
theorem eqA_iff {n : Nat} {f g : Nat → Nat} : eqA n f g = true ↔ ∀ i, i < n → f i = g i := by simp [eqA]
theorem eqA_arr {k : IntKind} {n : Nat} {f g : Nat → Nat} : eqA n f g = true ↔ arr k n f = arr k n g :=
  ⟨fun h => arr_congr (eqA_iff.1 h), fun h => eqA_iff.2 fun _ hi => arr_inj h hi⟩
theorem eqA_refl (n : Nat) (f : Nat → Nat) : eqA n f f = true := eqA_iff.2 fun _ _ => rfl

theorem run_equalIn_arr {P : Program} (w : World) (d : Nat) {T e n : Nat} {k : IntKind} {f g : Nat → Nat} (hu : P.underlying T = some (.array n e)) (hz : ∀ w, (sizeOf e).run P w = .ok 1 w) (hg : ∀ w, (isAgg e).run P w = .ok false w) (he : P.underlying e = some (.int k)) :
    (Op.equalIn (d + 2) T (.agg (arr k n f)) (.agg (arr k n g))).run P w = .ok (eqA n f g) w := by
  have hp : ∀ (h : Nat → Nat) (i : Nat), i < n → (part e (arr k n h) (i * 1)).run P w = .ok (vn k (h i)) w := fun h i hi => by
    simp [part, hg, arr_get k n h hi]
  have key : ∀ (l : List Nat), (∀ i ∈ l, i < n) →
      (forIn l ((none, ()) : Option Bool × Unit) fun i _ => (do
        if !(← Op.equalIn (d + 1) e (← part e (arr k n f) (i * 1)) (← part e (arr k n g) (i * 1))) then pure (ForInStep.done (some false, ())) else pure (ForInStep.yield (none, ())) : Sem (ForInStep (Option Bool × Unit)))).run P w =
        .ok (if l.all fun i => decide (f i = g i) then (none, ()) else (some false, ())) w := by
    intro l
    induction l with
    | nil => intro _; simp
    | cons i l ih =>
      intro hl
      have hi := hl i (by simp)
      have hb : (((f i : Int)) == ((g i : Int))) = decide (f i = g i) := by
        by_cases h : f i = g i
        · rw [h]; simp
        · rw [decide_eq_false h]; simp; omega
      rw [List.forIn_cons, Sem.run_bind]
      have h1 : ((do
        if !(← Op.equalIn (d + 1) e (← part e (arr k n f) (i * 1)) (← part e (arr k n g) (i * 1))) then pure (ForInStep.done (some false, ())) else pure (ForInStep.yield (none, ())) : Sem (ForInStep (Option Bool × Unit)))).run P w =
          .ok (if f i = g i then .yield (none, ()) else .done (some false, ())) w := by
        simp only [Sem.run_bind, hp f i hi, hp g i hi, Result.andThen_ok, run_equalIn_int w d e k k _ _ he, hb]
        by_cases h : f i = g i <;> simp [h]
      rw [h1]
      by_cases h : f i = g i
      · simp only [h, if_true, Result.andThen_ok]
        rw [ih (fun j hj => hl j (by simp [hj]))]
        simp [h]
      · simp [h]
  have hr := key (List.range' 0 n) (fun i hi => by simpa using hi)
  rw [Op.equalIn]
  simp only [Sem.run_bind, run_underlying hu, Result.andThen_ok, hz]
  simp only [Std.Legacy.Range.forIn_eq_forIn_range', Std.Legacy.Range.size]
  simp only [Nat.sub_zero, Nat.add_sub_cancel, Nat.div_one]
  rw [hr]
  simp only [Result.andThen_ok, eqA, ← List.range_eq_range']
  cases (List.range n).all fun i => decide (f i = g i) <;> rfl

theorem det_eqlA {n e : Nat} {f g : Nat → Nat} {k : IntKind} (hu : P.underlying T = some (.array n e)) (hz : ∀ w, (sizeOf e).run P w = .ok 1 w) (hg : ∀ w, (isAgg e).run P w = .ok false w) (he : P.underlying e = some (.int k))
    (hq : P.eqGuardType P.depth T = false) (hx : ρ x = .agg (arr k n f)) (hy : ρ y = .agg (arr k n g)) :
    Det P w0 m ρ ⟨dst, .binOp .eql T x y T', ty, pos, after, gd⟩ (.bool (eqA n f g)) := fun w _ => by
  simp [execOp, hx, hy, run_eqGuard_agg w .eql T x y _ _ hq, run_eql_struct, run_equalIn_arr w 9998 hu hz hg he]
theorem det_neqA {n e : Nat} {f g : Nat → Nat} {k : IntKind} (hu : P.underlying T = some (.array n e)) (hz : ∀ w, (sizeOf e).run P w = .ok 1 w) (hg : ∀ w, (isAgg e).run P w = .ok false w) (he : P.underlying e = some (.int k))
    (hq : P.eqGuardType P.depth T = false) (hx : ρ x = .agg (arr k n f)) (hy : ρ y = .agg (arr k n g)) :
    Det P w0 m ρ ⟨dst, .binOp .neq T x y T', ty, pos, after, gd⟩ (.bool (!eqA n f g)) := fun w _ => by
  simp [execOp, hx, hy, run_eqGuard_agg w .neq T x y _ _ hq, run_neq_struct, run_equalIn_arr w 9998 hu hz hg he]
theorem det_eqlB {a b : Bool} (hx : ρ x = .bool a) (hy : ρ y = .bool b) (hu : P.underlying T = some .bool) : Det P w0 m ρ ⟨dst, .binOp .eql T x y T', ty, pos, after, gd⟩ (.bool (a == b)) := fun w _ => by
  simp [execOp, hx, hy, eqGuard_at_bool, binOp, Op.equal, Op.maxDepth, run_equalIn_bool w 9999 T a b hu]
theorem det_neqB {a b : Bool} (hx : ρ x = .bool a) (hy : ρ y = .bool b) (hu : P.underlying T = some .bool) : Det P w0 m ρ ⟨dst, .binOp .neq T x y T', ty, pos, after, gd⟩ (.bool (!(a == b))) := fun w _ => by
  simp [execOp, hx, hy, eqGuard_at_bool, binOp, Op.equal, Op.maxDepth, run_equalIn_bool w 9999 T a b hu]

theorem det_build0 {n e : Nat} {c : Array Value} (hz : ∀ w, (zeroValue T).run P w = .ok (.agg c) w) (hu : P.underlying T = some (.array n e)) (hs : ∀ w, (sizeOf e).run P w = .ok 1 w) : Det P w0 m ρ ⟨dst, .build T #[], ty, pos, after, gd⟩ (.agg c) := fun w _ => by
  simp [execOp, Instr.build, hz, run_underlying hu, hs, Instr.fill, Value.cells]

theorem Has.cellA {w : World} (hw : Has w0 m w) (i : Nat) {b n : Nat} {f : Nat → Nat} {k : IntKind} {t : TypeId} {fz : Nat × Nat} (hm : m[i]? = some (some b, .cells (arr k n f) t fz)) : ∀ j, j < n → w.cell? ⟨b, 0 + j, none⟩ = some (vn k (f j)) := fun j hj => by
  simp [World.cell?, hw.at i hm, arr_get k n f hj]

/-! memory that is made -/
theorem rel_alloc {z : Value} {c : Array Value} (hz : ∀ w, (zeroValue T).run P w = .ok z w) (hc : z.cells = c) :
    Rel P w0 m ρ ⟨dst, .alloc T, ty, pos, after, gd⟩ (fun v mi => ∃ b, v = .pointer (some ⟨b, 0, none⟩) ∧ mi = [(some b, .cells c T (0, 0))]) := by
  intro w _
  subst hc
  have h : (execOp ρ ⟨dst, .alloc T, ty, pos, after, gd⟩).run P w = .ok (.value (.pointer (some ⟨w.heap.size, 0, none⟩))) (w.alloc (.cells z.cells T (0, 0))) := by
    simp [execOp, Instr.alloc, hz, newVar, newRow]
  unfold Runs
  rw [h]
  exact ⟨_, ⟨_, rfl, rfl⟩, Has.alloc w _⟩
theorem rel_box {v : Value} {c : Array Value} (hx : ρ x = v) (hc : v.cells = c) :
    Rel P w0 m ρ ⟨dst, .box T x, ty, pos, after, gd⟩ (fun v mi => ∃ b, v = .pointer (some ⟨b, 0, none⟩) ∧ mi = [(some b, .cells c T (0, 0))]) := by
  intro w _
  subst hc hx
  have h : (execOp ρ ⟨dst, .box T x, ty, pos, after, gd⟩).run P w = .ok (.value (.pointer (some ⟨w.heap.size, 0, none⟩))) (w.alloc (.cells (ρ x).cells T (0, 0))) := by
    simp [execOp, Instr.box, newVar, newRow]
  unfold Runs
  rw [h]
  exact ⟨_, ⟨_, rfl, rfl⟩, Has.alloc w _⟩

/-! stores -/
theorem modify_other {a : Array Obj} {b k : Nat} (f : Obj → Obj) (h : k ≠ b) : (a.modify b f)[k]? = a[k]? := by
  rw [Array.getElem?_modify, if_neg (fun e => h e.symm)]
theorem Has.setCell {w : World} (hw : Has w0 m w) (i : Nat) {b off : Nat} {c : Array Value} {t : TypeId} (hm : m[i]? = some (some b, .cells c t (0, 0))) (v : Value) :
    Has w0 (m.set i (some b, .cells (c.setIfInBounds off v) t (0, 0))) (w.setCell ⟨b, off, none⟩ v) := by
  have hb := hw.at i hm
  refine hw.set i hm _ rfl rfl rfl (by simp) ?_ ?_
  · exact heap_setCell_same w b off c t v hb
  · intro k hk; exact heap_setCell_other w ⟨b, off, none⟩ k v hk

theorem chg_store (i : Nat) {b off : Nat} {c : Array Value} {t : TypeId} {v : Value} (hz : ∀ w, (sizeOf T).run P w = .ok 1 w) (hx : ρ x = .pointer (some ⟨b, off, none⟩)) (hm : m[i]? = some (some b, .cells c t (0, 0))) (h : off < c.size) (hy : ρ y = v) (hv : v.oneCell' = true) :
    Chg P w0 m ρ ⟨dst, .store T x y, ty, pos, after, gd⟩ (fun _ m' => m' = m.set i (some b, .cells (c.setIfInBounds off v) t (0, 0))) := by
  intro w hw
  have hb := hw.at i hm
  have hcell : w.cell? ⟨b, off, none⟩ = some c[off] := by simp [World.cell?, hb, h]
  have hfz : w.frozen? ⟨b, off, none⟩ = false := by simp [World.frozen?, hb]
  have hc1 : v.cells = #[v] := by cases v <;> first | rfl | simp [Value.oneCell'] at hv
  have he : (execOp ρ ⟨dst, .store T x y, ty, pos, after, gd⟩).run P w = .ok .skip (w.setCell ⟨b, off, none⟩ v) := by
    simp [execOp, hx, hy, Instr.storeAt, Instr.sureAddr, storeVar, hc1, hz, storeCells, run_store P w _ v _ hv, hcell, hfz, Addr.add]
  unfold Runs
  rw [he]
  exact ⟨_, rfl, hw.setCell i hm v⟩
theorem chg_storeA (i : Nat) {b n off p : Nat} {f : Nat → Nat} {k : IntKind} {t : TypeId} (hz : ∀ w, (sizeOf T).run P w = .ok 1 w) (hx : ρ x = .pointer (some ⟨b, off, none⟩)) (hm : m[i]? = some (some b, .cells (arr k n f) t (0, 0))) (h : off < n) (hy : ρ y = vn k p) :
    Chg P w0 m ρ ⟨dst, .store T x y, ty, pos, after, gd⟩ (fun _ m' => m' = m.set i (some b, .cells (arr k n (upd f off p)) t (0, 0))) := by
  have := chg_store (P := P) (w0 := w0) (dst := dst) (ty := ty) (pos := pos) (after := after) (gd := gd) i hz hx hm (by rw [arr_size]; exact h) hy rfl
  rwa [arr_set] at this

theorem setRow_eq_modify {w : World} {g : Nat} {c c' : Array Value} {t : TypeId} (hg : w.heap[g]? = some (.cells c t (0, 0))) : (w.setRow g c').heap[g]? = some (.cells c' t (0, 0)) := setRow_heap w g c c' t _ hg
theorem Has.setRow {w : World} (hw : Has w0 m w) (i : Nat) {b : Nat} {c : Array Value} {t : TypeId} (hm : m[i]? = some (some b, .cells c t (0, 0))) (c' : Array Value) :
    Has w0 (m.set i (some b, .cells c' t (0, 0))) (w.setRow b c') :=
  hw.set i hm _ rfl rfl rfl (by simp) (setRow_heap w b c c' t _ (hw.at i hm)) fun k hk => setRow_other w b k c' hk

/-- a whole array -/
theorem chg_storeW (i : Nat) {b : Nat} {c c' : Array Value} {t : TypeId} {v : Value} (hz : ∀ w, (sizeOf T).run P w = .ok c.size w) (hx : ρ x = .pointer (some ⟨b, 0, none⟩)) (hm : m[i]? = some (some b, .cells c t (0, 0))) (hy : ρ y = v) (hc : v.cells = c') (hs : c'.size = c.size) (hv : ∀ u ∈ c'.toList, u.oneCell' = true) :
    Chg P w0 m ρ ⟨dst, .store T x y, ty, pos, after, gd⟩ (fun _ m' => m' = m.set i (some b, .cells c' t (0, 0))) := by
  intro w hw
  subst hc
  have hb := hw.at i hm
  have hst := run_storeCells_at P b 0 t v.cells.toList 0 c w hb (by simp [hs]) hv
  have he : (execOp ρ ⟨dst, .store T x y, ty, pos, after, gd⟩).run P w = .ok .skip (w.setRow b v.cells) := by
    have e0 : (v.cells.toList ++ List.drop v.cells.toList.length c.toList).toArray = v.cells := by
      have : List.drop v.cells.toList.length c.toList = [] := List.drop_eq_nil_of_le (by simp [hs])
      rw [this]; simp
    simp only [Nat.add_zero, Nat.zero_add, List.take_zero, List.nil_append, e0] at hst
    simp [execOp, hx, hy, Instr.storeAt, Instr.sureAddr, storeVar, hs, hz, hst]
  unfold Runs
  rw [he]
  exact ⟨_, rfl, hw.setRow i hm _⟩
theorem chg_storeWA (i : Nat) {b n : Nat} {k : IntKind} {f f' : Nat → Nat} {t : TypeId} (hz : ∀ w, (sizeOf T).run P w = .ok n w) (hx : ρ x = .pointer (some ⟨b, 0, none⟩)) (hm : m[i]? = some (some b, .cells (arr k n f) t (0, 0))) (hy : ρ y = .agg (arr k n f')) :
    Chg P w0 m ρ ⟨dst, .store T x y, ty, pos, after, gd⟩ (fun _ m' => m' = m.set i (some b, .cells (arr k n f') t (0, 0))) :=
  chg_storeW i (by rw [arr_size]; exact hz) hx hm hy rfl (by simp [arr_size]) (arr_one _ _ _)

/-! how a body ends -/
theorem fin_tmp {fn : Func} {L : List Value} {R : Value → Mem → Prop} {t : Nat} {v : Value} (h : fn.results = #[.tmp t]) (hL : nth L t = v) (mi : Mem) (hs : mi.Sublist m) (hR : R v mi) : Fin P fn w0 R L m := by
  intro w hw
  exact ⟨v, mi, by rw [results_tmp h, nth_eq, hL], hR, hw.sub hs⟩
theorem fin_tmp2 {fn : Func} {L : List Value} {R : Value → Mem → Prop} {t u : Nat} {v v' : Value} (h : fn.results = #[.tmp t, .tmp u]) (hL : nth L t = v) (hL' : nth L u = v') (mi : Mem) (hs : mi.Sublist m) (hR : R (.tuple #[v, v']) mi) : Fin P fn w0 R L m := by
  intro w hw
  exact ⟨_, mi, by rw [results_tmp2 h, nth_eq, nth_eq, hL, hL'], hR, hw.sub hs⟩
theorem fin_none {fn : Func} {L : List Value} {R : Value → Mem → Prop} (h : fn.results = #[]) (mi : Mem) (hs : mi.Sublist m) (hR : R (.tuple #[]) mi) : Fin P fn w0 R L m := by
  intro w hw
  exact ⟨_, mi, results_none h _ _ _, hR, hw.sub hs⟩
theorem fin_cell {fn : Func} {L : List Value} {R : Value → Mem → Prop} {t : Nat} (i : Nat) {b : Nat} {c : Array Value} {et : TypeId} {fz : Nat × Nat} {d : TypeDesc} {n : Nat} (h : fn.results = #[.cell t T]) (hL : nth L t = .pointer (some ⟨b, 0, none⟩)) (hm : m[i]? = some (some b, .cells c et fz))
    (hu : P.underlying T = some d) (hd : (match d with | .struct _ | .array _ _ => true | _ => false) = true) (hi : (P.info? T).map (·.size) = some n) (hn : c.size = n) (mi : Mem) (hs : mi.Sublist m) (hR : R (.agg c) mi) : Fin P fn w0 R L m := by
  intro w hw
  exact ⟨.agg c, mi, results_cell_row h _ w b et c fz d (by rw [nth_eq]; exact hL) (hw.at i hm) hu hd (by rw [hn]; exact hi), hR, hw.sub hs⟩
theorem fin_cell_tmp {fn : Func} {L : List Value} {R : Value → Mem → Prop} {t u : Nat} (i : Nat) {b : Nat} {c : Array Value} {et : TypeId} {fz : Nat × Nat} {d : TypeDesc} {n : Nat} {v : Value} (h : fn.results = #[.cell t T, .tmp u]) (hL : nth L t = .pointer (some ⟨b, 0, none⟩)) (hm : m[i]? = some (some b, .cells c et fz))
    (hu : P.underlying T = some d) (hd : (match d with | .struct _ | .array _ _ => true | _ => false) = true) (hi : (P.info? T).map (·.size) = some n) (hn : c.size = n) (hL' : nth L u = v) (mi : Mem) (hs : mi.Sublist m) (hR : R (.tuple #[.agg c, v]) mi) : Fin P fn w0 R L m := by
  intro w hw
  have hl := run_loadVar_row (P := P) w b et T c fz d (hw.at i hm) hu hd (by rw [hn]; exact hi)
  have hp' : L.toArray[t]?.getD undef = .pointer (some ⟨b, 0, none⟩) := by have := nth_eq L t; rw [hL] at this; simpa using this
  have hq' : L.toArray[u]?.getD undef = v := by have := nth_eq L u; rw [hL'] at this; simpa using this
  refine ⟨.tuple #[.agg c, v], mi, ?_, hR, hw.sub hs⟩
  simp only [List.getElem?_toArray] at hp' hq'
  simp [results, h, hp', hq', asAddr, hl]
end
end Go.MW
