/- The plain arithmetic of the draws: the three steps of mixing keep 64 bits and are one to one; no program in sight. -/
import Derived.Laws.Bits64
import Derived.Laws.BitsAllLaws
namespace Go.Proofs.Ytjdfgefmjiiojaa

def xs30 (x : Int) : Int := bits .xor .u64 x (x / 1073741824)
def xs27 (x : Int) : Int := bits .xor .u64 x (x / 134217728)
def xs31 (x : Int) : Int := bits .xor .u64 x (x / 2147483648)
def stp0 (x : Int) : Int := IntKind.u64.wrap (x + 11400714819323198485)
def stp1 (x : Int) : Int := IntKind.u64.wrap (xs30 x * 13787848793156543929)
def stp2 (x : Int) : Int := IntKind.u64.wrap (xs27 x * 10723151780598845931)
def mixv (x : Int) : Int := xs31 (stp2 (stp1 (stp0 x)))
def In64 (x : Int) : Prop := 0 ≤ x ∧ x < 18446744073709551616
def atv (seed self n : Int) : Int := mixv (IntKind.u64.wrap (mixv (IntKind.u64.wrap (mixv seed + IntKind.u64.wrap self)) + IntKind.u64.wrap n))

theorem wrap_in (x : Int) : In64 (IntKind.u64.wrap x) := by rw [IntKind.wrap_u64]; unfold In64; omega

theorem xor_zero {x y : Nat} (h : x ^^^ y = 0) : x = y := by
  have e : x ^^^ y ^^^ y = x := by rw [Nat.xor_assoc, Nat.xor_self, Nat.xor_zero]
  rw [h, Nat.zero_xor] at e; exact e.symm

/-- xor with itself shifted, on naturals: one to one. -/
theorem xs_inj (s x y : Nat) (hs : 0 < s) (h : x ^^^ x / 2 ^ s = y ^^^ y / 2 ^ s) : x = y := by
  have h1 : x ^^^ y = (x ^^^ y) / 2 ^ s := by
    have e : (x ^^^ y) / 2 ^ s = x / 2 ^ s ^^^ y / 2 ^ s := by
      rw [← Nat.shiftRight_eq_div_pow, ← Nat.shiftRight_eq_div_pow, ← Nat.shiftRight_eq_div_pow, Nat.shiftRight_xor_distrib]
    rw [e]
    have : x ^^^ y ^^^ (x / 2 ^ s ^^^ y / 2 ^ s) = 0 := by
      have : x ^^^ y ^^^ (x / 2 ^ s ^^^ y / 2 ^ s) = (x ^^^ x / 2 ^ s) ^^^ (y ^^^ y / 2 ^ s) := by ac_rfl
      rw [this, h, Nat.xor_self]
    exact xor_zero this
  have h2 : x ^^^ y = 0 := by
    generalize x ^^^ y = z at h1
    rcases Nat.eq_zero_or_pos z with h | h
    · exact h
    · exact absurd h1 (Nat.ne_of_gt (Nat.div_lt_self h (Nat.one_lt_two_pow (by omega))))
  exact xor_zero h2

theorem xs_lt (s x : Nat) (h : x < 2 ^ 64) : x ^^^ x / 2 ^ s < 2 ^ 64 :=
  Nat.xor_lt_two_pow h (Nat.lt_of_le_of_lt (Nat.div_le_self _ _) h)

theorem xs_nat (s : Nat) (x : Int) (h : In64 x) : bits .xor .u64 x (x / ((2 ^ s : Nat) : Int)) = ((x.toNat ^^^ x.toNat / 2 ^ s : Nat) : Int) := by
  obtain ⟨n, rfl⟩ := Int.eq_ofNat_of_zero_le h.1
  rw [xorShift_u64 n (2 ^ s) (by have := h.2; omega), Int.toNat_natCast]

theorem xs_in (s : Nat) (x : Int) (h : In64 x) : In64 (bits .xor .u64 x (x / ((2 ^ s : Nat) : Int))) := by
  rw [xs_nat s x h]
  have := xs_lt s x.toNat (by have := h.1; have := h.2; omega)
  unfold In64
  generalize x.toNat ^^^ x.toNat / 2 ^ s = z at *
  omega

theorem xs_one (s : Nat) (hs : 0 < s) (x y : Int) (hx : In64 x) (hy : In64 y) (h : bits .xor .u64 x (x / ((2 ^ s : Nat) : Int)) = bits .xor .u64 y (y / ((2 ^ s : Nat) : Int))) : x = y := by
  rw [xs_nat s x hx, xs_nat s y hy] at h
  have := xs_inj s x.toNat y.toNat hs (by exact Int.ofNat.inj h)
  have := hx.1; have := hy.1
  omega

theorem xs30_in {x : Int} (h : In64 x) : In64 (xs30 x) := xs_in 30 x h
theorem xs27_in {x : Int} (h : In64 x) : In64 (xs27 x) := xs_in 27 x h
theorem xs31_in {x : Int} (h : In64 x) : In64 (xs31 x) := xs_in 31 x h
theorem mixv_in (x : Int) : In64 (mixv x) := xs31_in (wrap_in _)
theorem atv_in (s a n : Int) : In64 (atv s a n) := mixv_in _

/-- a product with an odd number, modulo 2^64, tells its factor: by the inverse. -/
theorem mul_one (c d x y : Int) (hcd : (c * d) % 18446744073709551616 = 1) (hx : In64 x) (hy : In64 y) (h : IntKind.u64.wrap (x * c) = IntKind.u64.wrap (y * c)) : x = y := by
  rw [IntKind.wrap_u64, IntKind.wrap_u64] at h
  have e : ∀ z : Int, In64 z → (z * c) % 18446744073709551616 * d % 18446744073709551616 = z := by
    intro z hz
    rw [Int.mul_emod, Int.emod_emod, ← Int.mul_emod, Int.mul_assoc, Int.mul_emod, hcd, Int.mul_one, Int.emod_emod]
    exact Int.emod_eq_of_lt hz.1 hz.2
  rw [← e x hx, ← e y hy, h]

theorem stp1_one (x y : Int) (hx : In64 x) (hy : In64 y) (h : stp1 x = stp1 y) : x = y :=
  xs_one 30 (by omega) x y hx hy (mul_one 13787848793156543929 10871156337175269513 _ _ (by decide +kernel) (xs_in 30 x hx) (xs_in 30 y hy) h)
theorem stp2_one (x y : Int) (hx : In64 x) (hy : In64 y) (h : stp2 x = stp2 y) : x = y :=
  xs_one 27 (by omega) x y hx hy (mul_one 10723151780598845931 3573116690164977347 _ _ (by decide +kernel) (xs_in 27 x hx) (xs_in 27 y hy) h)
theorem add_one (c x y : Int) (hx : In64 x) (hy : In64 y) (h : IntKind.u64.wrap (x + c) = IntKind.u64.wrap (y + c)) : x = y := by
  rw [IntKind.wrap_u64, IntKind.wrap_u64] at h; unfold In64 at hx hy; omega
theorem add_two (c x y : Int) (hx : In64 x) (hy : In64 y) (h : IntKind.u64.wrap (c + x) = IntKind.u64.wrap (c + y)) : x = y := by
  rw [IntKind.wrap_u64, IntKind.wrap_u64] at h; unfold In64 at hx hy; omega

/-- MIX IS ONE TO ONE on 64 bits. -/
theorem mixv_one (x y : Int) (hx : In64 x) (hy : In64 y) (h : mixv x = mixv y) : x = y :=
  add_one _ x y hx hy (stp1_one _ _ (wrap_in _) (wrap_in _) (stp2_one _ _ (wrap_in _) (wrap_in _) (xs_one 31 (by omega) _ _ (wrap_in _) (wrap_in _) h)))

def In63 (x : Int) : Prop := -9223372036854775808 ≤ x ∧ x ≤ 9223372036854775807
theorem u64_one (x y : Int) (hx : In63 x) (hy : In63 y) (h : IntKind.u64.wrap x = IntKind.u64.wrap y) : x = y := by
  rw [IntKind.wrap_u64, IntKind.wrap_u64] at h; unfold In63 at hx hy; omega

theorem atv_n (s a n m : Int) (hn : In63 n) (hm : In63 m) (h : atv s a n = atv s a m) : n = m :=
  u64_one n m hn hm (add_two _ _ _ (wrap_in _) (wrap_in _) (mixv_one _ _ (wrap_in _) (wrap_in _) h))
theorem atv_a (s a b n : Int) (ha : In63 a) (hb : In63 b) (h : atv s a n = atv s b n) : a = b :=
  u64_one a b ha hb (add_two _ _ _ (wrap_in _) (wrap_in _) (mixv_one _ _ (wrap_in _) (wrap_in _) (add_one _ _ _ (mixv_in _) (mixv_in _) (mixv_one _ _ (wrap_in _) (wrap_in _) h))))

theorem mixv_zero : mixv 0 = 16294208416658607535 := by decide +kernel
end Go.Proofs.Ytjdfgefmjiiojaa
