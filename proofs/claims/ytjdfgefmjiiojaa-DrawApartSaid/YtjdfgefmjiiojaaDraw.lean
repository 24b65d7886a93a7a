/- Contracts of the functions of package draw and of its reference: what each call returns, in words of YtjdfgefmjiiojaaMix; each makes at most new memory. -/
import Derived.Test.YtjdfgefmjiiojaaRows
import Derived.Test.YtjdfgefmjiiojaaMix
import Derived.Test.YtjdfgefmjiiojaaUp
import Derived.WalkKit
import Derived.WalkSpells
import Derived.WalkLawsBesides
namespace Go.Proofs.Ytjdfgefmjiiojaa
open Go.RowKit

set_option maxHeartbeats 400000 in
theorem fold30 (x : Int) (w : World) :
    Calls Try.prog 33 #[.agg #[.int .u64 x], .int .u64 30] w fun e w' => e = .returned (.int .u64 (xs30 x)) ∧ Up w w' := by
  go_enter Try.func33, Try.ntmps33
  go_wp2
  go_ret
  exact ⟨rfl, (Up.refl _).alloc _ _⟩

set_option maxHeartbeats 400000 in
theorem fold27 (x : Int) (w : World) :
    Calls Try.prog 33 #[.agg #[.int .u64 x], .int .u64 27] w fun e w' => e = .returned (.int .u64 (xs27 x)) ∧ Up w w' := by
  go_enter Try.func33, Try.ntmps33
  go_wp2
  go_ret
  exact ⟨rfl, (Up.refl _).alloc _ _⟩

set_option maxHeartbeats 400000 in
theorem fold31 (x : Int) (w : World) :
    Calls Try.prog 33 #[.agg #[.int .u64 x], .int .u64 31] w fun e w' => e = .returned (.int .u64 (xs31 x)) ∧ Up w w' := by
  go_enter Try.func33, Try.ntmps33
  go_wp2
  go_ret
  exact ⟨rfl, (Up.refl _).alloc _ _⟩

set_option maxHeartbeats 400000 in
theorem times30 (x f : Int) (w : World) :
    Calls Try.prog 32 #[.agg #[.int .u64 x], .int .u64 30, .int .u64 f] w fun e w' => e = .returned (.agg #[.int .u64 (IntKind.u64.wrap (xs30 x * f))]) ∧ Up w w' := by
  go_enter Try.func32, Try.ntmps32
  go_wp2_with fail
  refine (fold30 _ _).mono ?_
  rintro e w' ⟨rfl, hg⟩
  obtain ⟨hc, hf, hz⟩ := hg.facts
  go_wp2
  refine bodyPost_ret (v := .agg #[.int .u64 (IntKind.u64.wrap (xs30 x * f))]) (by simp [results, Try.results32, go_sem, hc]) rfl ⟨rfl, ?_⟩
  exact ((((Up.refl w).alloc _ _).alloc _ _).trans hg).setCell (by simp) _

set_option maxHeartbeats 400000 in
theorem times27 (x f : Int) (w : World) :
    Calls Try.prog 32 #[.agg #[.int .u64 x], .int .u64 27, .int .u64 f] w fun e w' => e = .returned (.agg #[.int .u64 (IntKind.u64.wrap (xs27 x * f))]) ∧ Up w w' := by
  go_enter Try.func32, Try.ntmps32
  go_wp2_with fail
  refine (fold27 _ _).mono ?_
  rintro e w' ⟨rfl, hg⟩
  obtain ⟨hc, hf, hz⟩ := hg.facts
  go_wp2
  refine bodyPost_ret (v := .agg #[.int .u64 (IntKind.u64.wrap (xs27 x * f))]) (by simp [results, Try.results32, go_sem, hc]) rfl ⟨rfl, ?_⟩
  exact ((((Up.refl w).alloc _ _).alloc _ _).trans hg).setCell (by simp) _

set_option maxHeartbeats 400000 in
theorem mix_any (x : Int) (w : World) :
    Calls Try.prog 16 #[.int .u64 x] w fun e w' => e = .returned (.int .u64 (mixv x)) ∧ Up w w' := by
  have hfl : ∀ (y : Int) (W : World), (Instr.field 52 (.agg #[.int .u64 y]) 0).run Try.prog W = .ok (.agg #[.int .u64 y]) W := fun _ _ => by kernel_rfl
  go_enter Try.func16, Try.ntmps16
  go_wp2_with fail
  refine (times30 _ _ _).mono ?_
  rintro e w1 ⟨rfl, h1⟩
  go_wp2_with fail
  refine (times27 _ _ _).mono ?_
  rintro e w2 ⟨rfl, h2⟩
  go_wp2_with fail
  refine (fold31 _ _).mono ?_
  rintro e w3 ⟨rfl, h3⟩
  go_wp2
  go_ret
  exact ⟨rfl, ((h1.alloc _ _).trans h2).trans h3⟩

set_option maxHeartbeats 400000 in
theorem refmix_any (x : Int) (w : World) :
    Calls Try.prog 17 #[.int .u64 x] w fun e w' => e = .returned (.int .u64 (mixv x)) ∧ Up w w' := by
  go_enter Try.func17, Try.ntmps17
  go_wp2
  go_ret
  exact ⟨rfl, Up.refl _⟩

set_option maxHeartbeats 400000 in
theorem awake_any (w : World) :
    Calls Try.prog 18 #[] w fun e w' => e = .returned (.bool true) ∧ Up w w' := by
  go_enter Try.func18, Try.ntmps18
  go_wp2_with fail
  refine (mix_any _ _).mono ?_
  rintro e w1 ⟨rfl, h1⟩
  rw [mixv_zero]
  go_wp2
  go_ret
  exact ⟨rfl, h1⟩

set_option maxHeartbeats 400000 in
theorem refat_any (s a n : Int) (w : World) :
    Calls Try.prog 20 #[.int .u64 s, .int .i64 a, .int .i64 n] w fun e w' => e = .returned (.int .u64 (atv s a n)) ∧ Up w w' := by
  go_enter Try.func20, Try.ntmps20
  go_wp2_with fail
  refine (refmix_any _ _).mono ?_
  rintro e w1 ⟨rfl, h1⟩
  go_wp2_with fail
  refine (refmix_any _ _).mono ?_
  rintro e w2 ⟨rfl, h2⟩
  go_wp2_with fail
  refine (refmix_any _ _).mono ?_
  rintro e w3 ⟨rfl, h3⟩
  go_wp2
  go_ret
  exact ⟨rfl, (h1.trans h2).trans h3⟩

def atk (s a n : Int) : Nat → Int
  | 0 => mixv s
  | 1 => mixv (IntKind.u64.wrap (mixv s + IntKind.u64.wrap a))
  | _ => atv s a n

set_option maxHeartbeats 400000 in
theorem at_any (s a n : Int) (w : World) :
    Calls Try.prog 19 #[.int .u64 s, .int .i64 a, .int .i64 n] w fun e w' => e = .returned (.int .u64 (atv s a n)) ∧ Up w w' := by
  go_enter Try.func19, Try.ntmps19
  go_wp2_with fail
  refine (mix_any _ _).mono ?_
  rintro e w1 ⟨rfl, h1⟩
  have i0 : ∀ W : World, (Instr.index 55 (.agg #[.int .i64 a, .int .i64 n]) (.int .i64 0)).run Try.prog W = .ok (.int .i64 a) W := fun _ => by kernel_rfl
  have i1 : ∀ W : World, (Instr.index 55 (.agg #[.int .i64 a, .int .i64 n]) (.int .i64 1)).run Try.prog W = .ok (.int .i64 n) W := fun _ => by kernel_rfl
  go_wp2_with fail
  go_loopw [7, 15] (fun x i wr => Up w wr ∧ ∃ k : Nat, k ≤ 2 ∧ i = .int .i64 k ∧ x = .int .u64 (atk s a n k)) (fun _ i _ => 2 - (intOf i).toNat)
  case atStart => exact ⟨h1, 0, Nat.zero_le _, rfl, rfl⟩
  case round =>
    obtain ⟨hu, k, hk, rfl, rfl⟩ := hrel
    have hk5 : k = 0 ∨ k = 1 ∨ k = 2 := by omega
    rcases hk5 with rfl | rfl | rfl
    · go_wp2_with fail
      refine (mix_any _ _).mono ?_
      rintro e w2 ⟨rfl, h2⟩
      go_wp2
      go_roundw
      case rel => exact ⟨hu.trans h2, 1, by omega, rfl, rfl⟩
      case measure => simp [intOf]
    · go_wp2_with fail
      refine (mix_any _ _).mono ?_
      rintro e w2 ⟨rfl, h2⟩
      go_wp2
      go_roundw
      case rel => exact ⟨hu.trans h2, 2, by omega, rfl, rfl⟩
      case measure => simp [intOf]
    · go_wp2
      go_ret
      exact ⟨rfl, hu⟩

theorem rest_of (x k : Int) (hx : In64 x) (hk : 1 ≤ k) (hm : k ≤ 9223372036854775807) : wrap64 (x.tmod k) = x % k := by
  rw [Int.tmod_eq_emod_of_nonneg hx.1]
  have h1 := Int.emod_nonneg x (show k ≠ 0 by omega)
  have h2 := Int.emod_lt_of_pos x (show 0 < k by omega)
  generalize x % k = z at *
  unfold wrap64
  omega

theorem ret_int {k : IntKind} {a b : Int} (h : a = b) : Ending.returned (.int k a) = .returned (.int k b) := by rw [h]

set_option maxHeartbeats 400000 in
theorem below_no (s a n k : Int) (w : World) (hk : k ≤ 0) :
    Calls Try.prog 21 #[.int .u64 s, .int .i64 a, .int .i64 n, .int .i64 k] w fun e w' => e = .returned (.int .i64 0) ∧ Up w w' := by
  go_enter Try.func21, Try.ntmps21
  go_wp2
  go_ret
  exact ⟨rfl, Up.refl _⟩

set_option maxHeartbeats 400000 in
theorem refbelow_no (s a n k : Int) (w : World) (hk : k < 1) :
    Calls Try.prog 22 #[.int .u64 s, .int .i64 a, .int .i64 n, .int .i64 k] w fun e w' => e = .returned (.int .i64 0) ∧ Up w w' := by
  go_enter Try.func22, Try.ntmps22
  go_wp2
  go_ret
  exact ⟨rfl, Up.refl _⟩

set_option maxHeartbeats 400000 in
theorem below_yes (s a n k : Int) (w : World) (hk : 1 ≤ k) (hm : k ≤ 9223372036854775807) :
    Calls Try.prog 21 #[.int .u64 s, .int .i64 a, .int .i64 n, .int .i64 k] w fun e w' => e = .returned (.int .i64 (atv s a n % k)) ∧ Up w w' := by
  have hk0 : ¬ k ≤ 0 := by omega
  go_enter Try.func21, Try.ntmps21
  go_wp2_with fail
  refine (at_any _ _ _ _).mono ?_
  rintro e w2 ⟨rfl, h2⟩
  go_wp2
  go_ret
  exact ⟨ret_int (rest_of _ _ (atv_in _ _ _) hk hm), h2⟩

set_option maxHeartbeats 400000 in
theorem refbelow_yes (s a n k : Int) (w : World) (hk : 1 ≤ k) (hm : k ≤ 9223372036854775807) :
    Calls Try.prog 22 #[.int .u64 s, .int .i64 a, .int .i64 n, .int .i64 k] w fun e w' => e = .returned (.int .i64 (atv s a n % k)) ∧ Up w w' := by
  have hk0 : ¬ k < 1 := by omega
  go_enter Try.func22, Try.ntmps22
  go_wp2_with fail
  refine (refat_any _ _ _ _).mono ?_
  rintro e w2 ⟨rfl, h2⟩
  go_wp2
  go_ret
  exact ⟨ret_int (rest_of _ _ (atv_in _ _ _) hk hm), h2⟩

theorem in64_of {x : Int} (h : (Lit.int .u64 x).wf = true) : In64 x := by
  have : 0 ≤ x ∧ x ≤ 18446744073709551615 := by simpa [Lit.wf, IntKind.min, IntKind.max, IntKind.signed, IntKind.bits] using h
  unfold In64; omega
theorem in63_of {x : Int} (h : (Lit.int .i64 x).wf = true) : In63 x := by
  simpa [In63, Lit.wf, IntKind.min, IntKind.max, IntKind.signed, IntKind.bits] using h
theorem mix_beq (x y : Int) (hx : In64 x) (hy : In64 y) : (mixv x == mixv y) = (x == y) := by
  by_cases h : x = y
  · rw [h]; simp
  · rw [beq_eq_false_iff_ne.2 h, beq_eq_false_iff_ne.2 fun e => h (mixv_one _ _ hx hy e)]
theorem at_beq_n (s a n m : Int) (hn : In63 n) (hm : In63 m) : (atv s a n == atv s a m) = (n == m) := by
  by_cases h : n = m
  · rw [h]; simp
  · rw [beq_eq_false_iff_ne.2 h, beq_eq_false_iff_ne.2 fun e => h (atv_n _ _ _ _ hn hm e)]
theorem at_beq_a (s a b n : Int) (ha : In63 a) (hb : In63 b) : (atv s a n == atv s b n) = (a == b) := by
  by_cases h : a = b
  · rw [h]; simp
  · rw [beq_eq_false_iff_ne.2 h, beq_eq_false_iff_ne.2 fun e => h (atv_a _ _ _ _ ha hb e)]
theorem rest_beq (x k : Int) (hx : In64 x) (hk : 1 ≤ k) (hm : k ≤ 9223372036854775807) : (IntKind.u64.wrap (x % k) == x.tmod k) = true := by
  rw [Int.tmod_eq_emod_of_nonneg hx.1, IntKind.wrap_u64]
  have h1 := Int.emod_nonneg x (show k ≠ 0 by omega)
  have h2 := Int.emod_lt_of_pos x (show 0 < k by omega)
  generalize x % k = z at *
  rw [beq_iff_eq]
  omega
end Go.Proofs.Ytjdfgefmjiiojaa
