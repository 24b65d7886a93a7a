/- Contracts and plain laws for the statement of this claim; no condition. Here: The contract of code.may: may an instruction be? The contract of code.check: what is wrong with a program that lies as a row of instructions. Contracts of errors.Is at the three errors that code.check answers, and of code.Check. The contract of code.Check: the number of what is wrong with a program. The contract of vm.Check: may a world be? The plain arithmetic of the draws: the three steps of mixing keep 64 bits and are one to one; no program in sight. Contracts of the functions of package draw: what each call returns, in words of YtalmjdlcogdpmaaGreatDoorMix; each makes at most new memory. 'Chg S w w'': of the blocks that were there at most those of S have turned; what comes anew is free; the marks are as they were. -/
import Derived.Test.YtalmjdlcogdpmaaGreatDoorR1
import Derived.Deep.QuietTactic
import Derived.BigQuiet
import Derived.LaidEql
import Derived.Stop.Asserts
import Derived.RowKitTokens
import Derived.Laws.Bits64
import Derived.Laws.BitsAllLaws
import Derived.Test.YtalmjdlcogdpmaaGreatDoorRows
import Derived.WalkKit
import Derived.WalkSpells
import Derived.WalkLawsBesides
set_option linter.unusedVariables false
set_option linter.unusedSimpArgs false

namespace Go.Proofs.YtalmjdlcogdpmaaGreatDoor
open Go.RowKit

theorem may_no (op a b c many : Int) (w : World) (h : op < 0 ∨ 17 ≤ op) : Calls Tryz.prog 48 #[.agg #[.int .i64 op, .int .i64 a, .int .i64 b, .int .i64 c], .int .i64 many] w fun e w' => e = .returned (.bool false) ∧ Up w w' := by
  rcases h with h | h
  · go_enter Tryz.func48, Tryz.ntmps48
    go_wp2
    go_ret
    exact ⟨rfl, (Up.refl _).alloc _ _⟩
  · have h0 : ¬ op < 0 := by omega
    go_enter Tryz.func48, Tryz.ntmps48
    go_wp2
    go_ret
    exact ⟨rfl, (Up.refl _).alloc _ _⟩

set_option maxHeartbeats 1000000 in
theorem may_core (op a b c many k0 k1 k2 : Int) (s : ByteArray) (w : World) (h0 : 0 ≤ op) (h1 : op < 17)
    (hk0 : k0 = 110 ∨ k0 = 112 ∨ k0 = 114 ∨ k0 = 45) (hk1 : k1 = 110 ∨ k1 = 112 ∨ k1 = 114 ∨ k1 = 45) (hk2 : k2 = 110 ∨ k2 = 112 ∨ k2 = 114 ∨ k2 = 45)
    (hi : ∀ W : World, (Instr.index 147 shapesV (.int .i64 op)).run Tryz.prog W = .ok (.string s) W)
    (hs0 : ∀ W : World, (Instr.index 9 (.string s) (.int .i64 0)).run Tryz.prog W = .ok (.int .u8 k0) W)
    (hs1 : ∀ W : World, (Instr.index 9 (.string s) (.int .i64 1)).run Tryz.prog W = .ok (.int .u8 k1) W)
    (hs2 : ∀ W : World, (Instr.index 9 (.string s) (.int .i64 2)).run Tryz.prog W = .ok (.int .u8 k2) W) :
    Calls Tryz.prog 48 #[.agg #[.int .i64 op, .int .i64 a, .int .i64 b, .int .i64 c], .int .i64 many] w fun e w' => e = .returned (.bool (rightB a k0 many && (rightB b k1 many && rightB c k2 many))) ∧ Up w w' := by
  have hn0 : ¬ op < 0 := by omega
  have hn1 : ¬ 17 ≤ op := by omega
  have K0 := Lib.hid hk0
  have K1 := Lib.hid hk1
  have K2 := Lib.hid hk2
  clear hk0 hk1 hk2
  have h2 : Up w (w.alloc (.cells #[.int .i64 op, .int .i64 a, .int .i64 b, .int .i64 c] 123)).drew := ((Up.refl w).alloc _ _).drew
  go_enter Tryz.func48, Tryz.ntmps48
  go_wp2_with fail
  go_region_held3 (fun w' => Up w w' ∧ w'.cell? ⟨w.heap.size, 0, none⟩ = some (.int .i64 op) ∧ w'.cell? ⟨w.heap.size, 1, none⟩ = some (.int .i64 a) ∧ w'.cell? ⟨w.heap.size, 2, none⟩ = some (.int .i64 b) ∧ w'.cell? ⟨w.heap.size, 3, none⟩ = some (.int .i64 c))
    (first | assumption | exact keep4 (by assumption) (by assumption) | exact keep4 (alloc_up_d _ _ _) (by assumption) | go_keep)
    (first | (go_at_call 57; refine (shapes_any _).mono ?_; rintro x wn ⟨rfl, hg⟩))
  have hh := ‹Up w wn ∧ _›
  have hwn : Up w wn := hh.1
  clear h2 hg
  obtain ⟨-, c0, c1, c2, c3⟩ := hh
  cases q0 : rightB a k0 many
  · go_wp2_with fail
    go_quiet ((go_at_call 58; exact Calls.quiet_of_same ((right_any _ _ _ _ (by first | exact K0.out | exact K1.out | exact K2.out)).mono fun _ _ h => ⟨h.1, h.2.symm⟩)))
    clear hs0 hs1 hs2 hi
    go_wp2
    go_ret
    exact ⟨ret_bool (by simp [q0]), hwn.trans (up_drewN _)⟩
  · cases q1 : rightB b k1 many
    · go_wp2_with fail
      go_quiet ((go_at_call 58; exact Calls.quiet_of_same ((right_any _ _ _ _ (by first | exact K0.out | exact K1.out | exact K2.out)).mono fun _ _ h => ⟨h.1, h.2.symm⟩)))
      clear hs0 hs1 hs2 hi
      go_wp2
      go_ret
      exact ⟨ret_bool (by simp [q0, q1]), hwn.trans (up_drewN _)⟩
    · cases q2 : rightB c k2 many
      · go_wp2_with fail
        go_quiet ((go_at_call 58; exact Calls.quiet_of_same ((right_any _ _ _ _ (by first | exact K0.out | exact K1.out | exact K2.out)).mono fun _ _ h => ⟨h.1, h.2.symm⟩)))
        clear hs0 hs1 hs2 hi
        go_wp2
        go_ret
        exact ⟨ret_bool (by simp [q0, q1, q2]), hwn.trans (up_drewN _)⟩
      · go_wp2_with fail
        go_quiet ((go_at_call 58; exact Calls.quiet_of_same ((right_any _ _ _ _ (by first | exact K0.out | exact K1.out | exact K2.out)).mono fun _ _ h => ⟨h.1, h.2.symm⟩)))
        clear hs0 hs1 hs2 hi
        go_wp2
        go_ret
        exact ⟨ret_bool (by simp [q0, q1, q2]), hwn.trans (up_drewN _)⟩


theorem mayB_of (op a b c many k0 k1 k2 : Int) (h : decide (0 ≤ op ∧ op < 17) = true) (hk : kindsOf op.toNat = (k0, k1, k2)) : (rightB a k0 many && (rightB b k1 many && rightB c k2 many)) = mayB op a b c many := by
  unfold mayB; rw [h, hk]; rfl
theorem may_0 (a b c many : Int) (w : World) : Calls Tryz.prog 48 #[.agg #[.int .i64 0, .int .i64 a, .int .i64 b, .int .i64 c], .int .i64 many] w fun e w' => e = .returned (.bool (mayB 0 a b c many)) ∧ Up w w' :=
  (may_core 0 a b c many 45 45 45 ⟨#[45, 45, 45]⟩ w (by decide) (by decide) (by decide) (by decide) (by decide) (fun _ => by kernel_rfl) (fun _ => by kernel_rfl) (fun _ => by kernel_rfl) (fun _ => by kernel_rfl)).mono
    fun _ _ h => ⟨h.1.trans (ret_bool (mayB_of 0 a b c many 45 45 45 (by decide) (by decide))), h.2⟩
theorem may_1 (a b c many : Int) (w : World) : Calls Tryz.prog 48 #[.agg #[.int .i64 1, .int .i64 a, .int .i64 b, .int .i64 c], .int .i64 many] w fun e w' => e = .returned (.bool (mayB 1 a b c many)) ∧ Up w w' :=
  (may_core 1 a b c many 114 110 45 ⟨#[114, 110, 45]⟩ w (by decide) (by decide) (by decide) (by decide) (by decide) (fun _ => by kernel_rfl) (fun _ => by kernel_rfl) (fun _ => by kernel_rfl) (fun _ => by kernel_rfl)).mono
    fun _ _ h => ⟨h.1.trans (ret_bool (mayB_of 1 a b c many 114 110 45 (by decide) (by decide))), h.2⟩
theorem may_2 (a b c many : Int) (w : World) : Calls Tryz.prog 48 #[.agg #[.int .i64 2, .int .i64 a, .int .i64 b, .int .i64 c], .int .i64 many] w fun e w' => e = .returned (.bool (mayB 2 a b c many)) ∧ Up w w' :=
  (may_core 2 a b c many 114 114 45 ⟨#[114, 114, 45]⟩ w (by decide) (by decide) (by decide) (by decide) (by decide) (fun _ => by kernel_rfl) (fun _ => by kernel_rfl) (fun _ => by kernel_rfl) (fun _ => by kernel_rfl)).mono
    fun _ _ h => ⟨h.1.trans (ret_bool (mayB_of 2 a b c many 114 114 45 (by decide) (by decide))), h.2⟩
theorem may_3 (a b c many : Int) (w : World) : Calls Tryz.prog 48 #[.agg #[.int .i64 3, .int .i64 a, .int .i64 b, .int .i64 c], .int .i64 many] w fun e w' => e = .returned (.bool (mayB 3 a b c many)) ∧ Up w w' :=
  (may_core 3 a b c many 114 114 114 ⟨#[114, 114, 114]⟩ w (by decide) (by decide) (by decide) (by decide) (by decide) (fun _ => by kernel_rfl) (fun _ => by kernel_rfl) (fun _ => by kernel_rfl) (fun _ => by kernel_rfl)).mono
    fun _ _ h => ⟨h.1.trans (ret_bool (mayB_of 3 a b c many 114 114 114 (by decide) (by decide))), h.2⟩
theorem may_4 (a b c many : Int) (w : World) : Calls Tryz.prog 48 #[.agg #[.int .i64 4, .int .i64 a, .int .i64 b, .int .i64 c], .int .i64 many] w fun e w' => e = .returned (.bool (mayB 4 a b c many)) ∧ Up w w' :=
  (may_core 4 a b c many 114 114 114 ⟨#[114, 114, 114]⟩ w (by decide) (by decide) (by decide) (by decide) (by decide) (fun _ => by kernel_rfl) (fun _ => by kernel_rfl) (fun _ => by kernel_rfl) (fun _ => by kernel_rfl)).mono
    fun _ _ h => ⟨h.1.trans (ret_bool (mayB_of 4 a b c many 114 114 114 (by decide) (by decide))), h.2⟩
theorem may_5 (a b c many : Int) (w : World) : Calls Tryz.prog 48 #[.agg #[.int .i64 5, .int .i64 a, .int .i64 b, .int .i64 c], .int .i64 many] w fun e w' => e = .returned (.bool (mayB 5 a b c many)) ∧ Up w w' :=
  (may_core 5 a b c many 114 114 114 ⟨#[114, 114, 114]⟩ w (by decide) (by decide) (by decide) (by decide) (by decide) (fun _ => by kernel_rfl) (fun _ => by kernel_rfl) (fun _ => by kernel_rfl) (fun _ => by kernel_rfl)).mono
    fun _ _ h => ⟨h.1.trans (ret_bool (mayB_of 5 a b c many 114 114 114 (by decide) (by decide))), h.2⟩
theorem may_6 (a b c many : Int) (w : World) : Calls Tryz.prog 48 #[.agg #[.int .i64 6, .int .i64 a, .int .i64 b, .int .i64 c], .int .i64 many] w fun e w' => e = .returned (.bool (mayB 6 a b c many)) ∧ Up w w' :=
  (may_core 6 a b c many 114 114 114 ⟨#[114, 114, 114]⟩ w (by decide) (by decide) (by decide) (by decide) (by decide) (fun _ => by kernel_rfl) (fun _ => by kernel_rfl) (fun _ => by kernel_rfl) (fun _ => by kernel_rfl)).mono
    fun _ _ h => ⟨h.1.trans (ret_bool (mayB_of 6 a b c many 114 114 114 (by decide) (by decide))), h.2⟩
theorem may_7 (a b c many : Int) (w : World) : Calls Tryz.prog 48 #[.agg #[.int .i64 7, .int .i64 a, .int .i64 b, .int .i64 c], .int .i64 many] w fun e w' => e = .returned (.bool (mayB 7 a b c many)) ∧ Up w w' :=
  (may_core 7 a b c many 114 114 114 ⟨#[114, 114, 114]⟩ w (by decide) (by decide) (by decide) (by decide) (by decide) (fun _ => by kernel_rfl) (fun _ => by kernel_rfl) (fun _ => by kernel_rfl) (fun _ => by kernel_rfl)).mono
    fun _ _ h => ⟨h.1.trans (ret_bool (mayB_of 7 a b c many 114 114 114 (by decide) (by decide))), h.2⟩
theorem may_8 (a b c many : Int) (w : World) : Calls Tryz.prog 48 #[.agg #[.int .i64 8, .int .i64 a, .int .i64 b, .int .i64 c], .int .i64 many] w fun e w' => e = .returned (.bool (mayB 8 a b c many)) ∧ Up w w' :=
  (may_core 8 a b c many 114 114 114 ⟨#[114, 114, 114]⟩ w (by decide) (by decide) (by decide) (by decide) (by decide) (fun _ => by kernel_rfl) (fun _ => by kernel_rfl) (fun _ => by kernel_rfl) (fun _ => by kernel_rfl)).mono
    fun _ _ h => ⟨h.1.trans (ret_bool (mayB_of 8 a b c many 114 114 114 (by decide) (by decide))), h.2⟩
theorem may_9 (a b c many : Int) (w : World) : Calls Tryz.prog 48 #[.agg #[.int .i64 9, .int .i64 a, .int .i64 b, .int .i64 c], .int .i64 many] w fun e w' => e = .returned (.bool (mayB 9 a b c many)) ∧ Up w w' :=
  (may_core 9 a b c many 114 114 114 ⟨#[114, 114, 114]⟩ w (by decide) (by decide) (by decide) (by decide) (by decide) (fun _ => by kernel_rfl) (fun _ => by kernel_rfl) (fun _ => by kernel_rfl) (fun _ => by kernel_rfl)).mono
    fun _ _ h => ⟨h.1.trans (ret_bool (mayB_of 9 a b c many 114 114 114 (by decide) (by decide))), h.2⟩
theorem may_10 (a b c many : Int) (w : World) : Calls Tryz.prog 48 #[.agg #[.int .i64 10, .int .i64 a, .int .i64 b, .int .i64 c], .int .i64 many] w fun e w' => e = .returned (.bool (mayB 10 a b c many)) ∧ Up w w' :=
  (may_core 10 a b c many 112 45 45 ⟨#[112, 45, 45]⟩ w (by decide) (by decide) (by decide) (by decide) (by decide) (fun _ => by kernel_rfl) (fun _ => by kernel_rfl) (fun _ => by kernel_rfl) (fun _ => by kernel_rfl)).mono
    fun _ _ h => ⟨h.1.trans (ret_bool (mayB_of 10 a b c many 112 45 45 (by decide) (by decide))), h.2⟩
theorem may_11 (a b c many : Int) (w : World) : Calls Tryz.prog 48 #[.agg #[.int .i64 11, .int .i64 a, .int .i64 b, .int .i64 c], .int .i64 many] w fun e w' => e = .returned (.bool (mayB 11 a b c many)) ∧ Up w w' :=
  (may_core 11 a b c many 114 112 45 ⟨#[114, 112, 45]⟩ w (by decide) (by decide) (by decide) (by decide) (by decide) (fun _ => by kernel_rfl) (fun _ => by kernel_rfl) (fun _ => by kernel_rfl) (fun _ => by kernel_rfl)).mono
    fun _ _ h => ⟨h.1.trans (ret_bool (mayB_of 11 a b c many 114 112 45 (by decide) (by decide))), h.2⟩
theorem may_12 (a b c many : Int) (w : World) : Calls Tryz.prog 48 #[.agg #[.int .i64 12, .int .i64 a, .int .i64 b, .int .i64 c], .int .i64 many] w fun e w' => e = .returned (.bool (mayB 12 a b c many)) ∧ Up w w' :=
  (may_core 12 a b c many 114 114 114 ⟨#[114, 114, 114]⟩ w (by decide) (by decide) (by decide) (by decide) (by decide) (fun _ => by kernel_rfl) (fun _ => by kernel_rfl) (fun _ => by kernel_rfl) (fun _ => by kernel_rfl)).mono
    fun _ _ h => ⟨h.1.trans (ret_bool (mayB_of 12 a b c many 114 114 114 (by decide) (by decide))), h.2⟩
theorem may_13 (a b c many : Int) (w : World) : Calls Tryz.prog 48 #[.agg #[.int .i64 13, .int .i64 a, .int .i64 b, .int .i64 c], .int .i64 many] w fun e w' => e = .returned (.bool (mayB 13 a b c many)) ∧ Up w w' :=
  (may_core 13 a b c many 114 114 45 ⟨#[114, 114, 45]⟩ w (by decide) (by decide) (by decide) (by decide) (by decide) (fun _ => by kernel_rfl) (fun _ => by kernel_rfl) (fun _ => by kernel_rfl) (fun _ => by kernel_rfl)).mono
    fun _ _ h => ⟨h.1.trans (ret_bool (mayB_of 13 a b c many 114 114 45 (by decide) (by decide))), h.2⟩
theorem may_14 (a b c many : Int) (w : World) : Calls Tryz.prog 48 #[.agg #[.int .i64 14, .int .i64 a, .int .i64 b, .int .i64 c], .int .i64 many] w fun e w' => e = .returned (.bool (mayB 14 a b c many)) ∧ Up w w' :=
  (may_core 14 a b c many 114 45 45 ⟨#[114, 45, 45]⟩ w (by decide) (by decide) (by decide) (by decide) (by decide) (fun _ => by kernel_rfl) (fun _ => by kernel_rfl) (fun _ => by kernel_rfl) (fun _ => by kernel_rfl)).mono
    fun _ _ h => ⟨h.1.trans (ret_bool (mayB_of 14 a b c many 114 45 45 (by decide) (by decide))), h.2⟩
theorem may_15 (a b c many : Int) (w : World) : Calls Tryz.prog 48 #[.agg #[.int .i64 15, .int .i64 a, .int .i64 b, .int .i64 c], .int .i64 many] w fun e w' => e = .returned (.bool (mayB 15 a b c many)) ∧ Up w w' :=
  (may_core 15 a b c many 114 45 45 ⟨#[114, 45, 45]⟩ w (by decide) (by decide) (by decide) (by decide) (by decide) (fun _ => by kernel_rfl) (fun _ => by kernel_rfl) (fun _ => by kernel_rfl) (fun _ => by kernel_rfl)).mono
    fun _ _ h => ⟨h.1.trans (ret_bool (mayB_of 15 a b c many 114 45 45 (by decide) (by decide))), h.2⟩
theorem may_16 (a b c many : Int) (w : World) : Calls Tryz.prog 48 #[.agg #[.int .i64 16, .int .i64 a, .int .i64 b, .int .i64 c], .int .i64 many] w fun e w' => e = .returned (.bool (mayB 16 a b c many)) ∧ Up w w' :=
  (may_core 16 a b c many 114 45 45 ⟨#[114, 45, 45]⟩ w (by decide) (by decide) (by decide) (by decide) (by decide) (fun _ => by kernel_rfl) (fun _ => by kernel_rfl) (fun _ => by kernel_rfl) (fun _ => by kernel_rfl)).mono
    fun _ _ h => ⟨h.1.trans (ret_bool (mayB_of 16 a b c many 114 45 45 (by decide) (by decide))), h.2⟩
theorem may_any (op a b c many : Int) (w : World) : Calls Tryz.prog 48 #[.agg #[.int .i64 op, .int .i64 a, .int .i64 b, .int .i64 c], .int .i64 many] w fun e w' => e = .returned (.bool (mayB op a b c many)) ∧ Up w w' := by
  by_cases h : op < 0 ∨ 17 ≤ op
  · refine (may_no op a b c many w h).mono fun _ _ k => ⟨k.1.trans (ret_bool ?_), k.2⟩
    unfold mayB
    rw [decide_eq_false (by omega)]; rfl
  · rcases (show op = 0 ∨ op = 1 ∨ op = 2 ∨ op = 3 ∨ op = 4 ∨ op = 5 ∨ op = 6 ∨ op = 7 ∨ op = 8 ∨ op = 9 ∨ op = 10 ∨ op = 11 ∨ op = 12 ∨ op = 13 ∨ op = 14 ∨ op = 15 ∨ op = 16 by omega) with rfl | rfl | rfl | rfl | rfl | rfl | rfl | rfl | rfl | rfl | rfl | rfl | rfl | rfl | rfl | rfl | rfl
    · exact may_0 a b c many w
    · exact may_1 a b c many w
    · exact may_2 a b c many w
    · exact may_3 a b c many w
    · exact may_4 a b c many w
    · exact may_5 a b c many w
    · exact may_6 a b c many w
    · exact may_7 a b c many w
    · exact may_8 a b c many w
    · exact may_9 a b c many w
    · exact may_10 a b c many w
    · exact may_11 a b c many w
    · exact may_12 a b c many w
    · exact may_13 a b c many w
    · exact may_14 a b c many w
    · exact may_15 a b c many w
    · exact may_16 a b c many w
end Go.Proofs.YtalmjdlcogdpmaaGreatDoor

namespace Go.Proofs.YtalmjdlcogdpmaaGreatDoor
open Go.RowKit

structure Ins where
  op : Int
  a : Int
  b : Int
  c : Int
/-- A row of n instructions from ⟨b, o⟩ on. -/
def InsRow (w : World) (b o n : Nat) (l : Nat → Ins) : Prop := ∀ i, i < n →
  w.cell? ⟨b, o + i * 4, none⟩ = some (.int .i64 (l i).op) ∧ w.cell? ⟨b, o + i * 4 + 1, none⟩ = some (.int .i64 (l i).a) ∧ w.cell? ⟨b, o + i * 4 + 2, none⟩ = some (.int .i64 (l i).b) ∧ w.cell? ⟨b, o + i * 4 + 3, none⟩ = some (.int .i64 (l i).c)
theorem InsRow.up {w w' : World} {b o n : Nat} {l : Nat → Ins} (h : InsRow w b o n l) (hu : Up w w') : InsRow w' b o n l :=
  fun i hi => ⟨cell_up hu (h i hi).1, cell_up hu (h i hi).2.1, cell_up hu (h i hi).2.2.1, cell_up hu (h i hi).2.2.2⟩
def insB (l : Nat → Ins) (n : Nat) (i : Nat) : Bool := mayB (l i).op (l i).a (l i).b (l i).c n

set_option maxHeartbeats 1000000 in
theorem check_ok (b o n cap : Nat) (l : Nat → Ins) (w : World) (hn : n ≤ 256) (hr : InsRow w b o n l) (hok : ∀ i, i < n → insB l n i = true) :
    Calls Tryz.prog 36 #[.slice (some ⟨b, o, none⟩) n cap] w fun e w' => e = .returned .nilIface ∧ Up w w' := by
  have hn0 : decide (256 < (n : Int)) = false := decide_eq_false (by omega)
  go_enter Tryz.func36, Tryz.ntmps36
  go_wp2_with fail
  go_loopw [11] (fun i wr => Up w wr ∧ ∃ k : Nat, k ≤ n ∧ i = .int .i64 k) (fun i _ => n - (intOf i).toNat)
  case atStart => exact ⟨Up.refl _, 0, Nat.zero_le _, rfl⟩
  case round =>
    obtain ⟨hu, k, hk, rfl⟩ := hrel
    by_cases hlt : k < n
    · obtain ⟨c0, c1, c2, c3⟩ := hr.up hu k hlt
      have hm : mayB (l k).op (l k).a (l k).b (l k).c n = true := hok k hlt
      clear hr hok
      go_wp2_with fail
      refine (may_any _ _ _ _ _ _).mono ?_
      rintro x w2 ⟨rfl, h2⟩
      go_wp2
      go_roundw
      case rel => exact ⟨(hu.alloc _ _).trans h2, k + 1, by omega, by go_num⟩
      case measure => simp [intOf]; omega
    · clear hr hok
      go_wp2
      go_ret
      exact ⟨rfl, hu⟩

theorem check_nil (w : World) :
    Calls Tryz.prog 36 #[.slice none 0 0] w fun e w' => e = .returned .nilIface ∧ Up w w' := by
  go_enter Tryz.func36, Tryz.ntmps36
  go_wp2_with fail
  go_loopw [11] (fun i wr => Up w wr ∧ i = .int .i64 0) (fun i _ => 0)
  case atStart => exact ⟨Up.refl _, rfl⟩
  case round =>
    obtain ⟨hu, rfl⟩ := hrel
    go_wp2
    go_ret
    exact ⟨rfl, hu⟩

theorem check_long (v : Option Addr) (n cap : Nat) (w : World) (hn : 256 < n) :
    Calls Tryz.prog 36 #[.slice v n cap] w fun e w' => e = .returned (.iface 29 (.int .i64 2)) ∧ Up w w' := by
  have hn0 : decide (256 < (n : Int)) = true := decide_eq_true (by omega)
  go_enter Tryz.func36, Tryz.ntmps36
  go_wp2
  go_ret
  exact ⟨rfl, Up.refl _⟩

/-- What an error that a place is wrong leaves in memory. -/
def WrongAt (w : World) (e : Ending) (w' : World) : Prop := ∃ p i : Nat, e = .returned (.iface 125 (.pointer (some ⟨p, 0, none⟩))) ∧ w'.cell? ⟨p, 0, none⟩ = some (.int .i64 i) ∧ w'.cell? ⟨p, 1, none⟩ = some (.iface 29 (.int .i64 130)) ∧ Up w w'

set_option maxHeartbeats 1000000 in
theorem check_bad (b o n cap j : Nat) (l : Nat → Ins) (w : World) (hn : n ≤ 256) (hj : j < n) (hr : InsRow w b o n l) (hok : ∀ i, i < j → insB l n i = true) (hbad : insB l n j = false) :
    Calls Tryz.prog 36 #[.slice (some ⟨b, o, none⟩) n cap] w (WrongAt w) := by
  have hn0 : decide (256 < (n : Int)) = false := decide_eq_false (by omega)
  go_enter Tryz.func36, Tryz.ntmps36
  go_wp2_with fail
  go_loopw [11] (fun i wr => Up w wr ∧ ∃ k : Nat, k ≤ j ∧ i = .int .i64 k) (fun i _ => n - (intOf i).toNat)
  case atStart => exact ⟨Up.refl _, 0, Nat.zero_le _, rfl⟩
  case round =>
    obtain ⟨hu, k, hk, rfl⟩ := hrel
    have hlt : k < n := by omega
    obtain ⟨c0, c1, c2, c3⟩ := hr.up hu k hlt
    by_cases hkj : k < j
    · have hm : mayB (l k).op (l k).a (l k).b (l k).c n = true := hok k hkj
      clear hr hok hbad
      go_wp2_with fail
      refine (may_any _ _ _ _ _ _).mono ?_
      rintro x w2 ⟨rfl, h2⟩
      go_wp2
      go_roundw
      case rel => exact ⟨(hu.alloc _ _).trans h2, k + 1, by omega, by go_num⟩
      case measure => simp [intOf]; omega
    · have hm : mayB (l k).op (l k).a (l k).b (l k).c n = false := by
        obtain rfl : k = j := by omega
        exact hbad
      clear hr hok hbad
      go_wp2_with fail
      refine (may_any _ _ _ _ _ _).mono ?_
      rintro x w2 ⟨rfl, h2⟩
      go_wp2
      go_ret
      exact ⟨w2.heap.size, k, rfl, World.cell?_alloc_new _ _ _ _, World.cell?_alloc_new _ _ _ _, ((hu.alloc _ _).trans h2).alloc _ _⟩
end Go.Proofs.YtalmjdlcogdpmaaGreatDoor

namespace Go
section
variable {P : Program} (w : World)
theorem run_equalIn_iface_int' (d : Nat) {ti tn : TypeId} {ms : Array (String × TypeId)} {i : TypeInfo} {k : IntKind} (a b : Int)
    (hi : P.underlying ti = some (.interface ms)) (hn : P.underlying tn = some (.int k)) (hinfo : P.info? tn = some i) (hcomp : i.comparable = true) :
    (Op.equalIn (d + 2) ti (.iface tn (.int k a)) (.iface tn (.int k b))).run P w = .ok (a == b) w := by
  simp [Op.equalIn, run_underlying hi, run_underlying hn, typeInfo, hinfo, hcomp]
/-- 'x == y', both interface values of ONE integer type: as the numbers are. -/
theorem run_eql_iface_int' {ti tn : TypeId} {ms : Array (String × TypeId)} {i : TypeInfo} {k : IntKind} (a b : Int)
    (hi : P.underlying ti = some (.interface ms)) (hn : P.underlying tn = some (.int k)) (hinfo : P.info? tn = some i) (hcomp : i.comparable = true) :
    (binOp .eql ti (.iface tn (.int k a)) (.iface tn (.int k b))).run P w = .ok (.bool (a == b)) w := by
  simp only [binOp]
  simp [Op.equal, Op.maxDepth, run_equalIn_iface_int' w 9998 a b hi hn hinfo hcomp]
end
end Go
namespace Go.Proofs.YtalmjdlcogdpmaaGreatDoor
open Go.RowKit Go.Extern.Stop Go.Stop Go.Extern

theorem isTypeOf (v : Value) (w : World) : (Extern.ReflectliteType.typeOf #[.iface 29 v]).run Tryz.prog w = .ok (.iface 151 (.agg #[.pointer (some ⟨1, 29, none⟩)])) w := by kernel_rfl
theorem isComparable (w : World) : (callFunc 167 #[.agg #[.pointer (some ⟨1, 29, none⟩)]]).run Tryz.prog w = .ok (.value (.bool true)) w := by
  rw [@run_callFunc_extern Tryz.prog 167 _ (Extern.ReflectliteType.method fun t => do Extern.Rtype.noPackHeld "Comparable" t; pure (.bool (← typeInfo t).comparable)) Tryz.func167 (by kernel_rfl) (by kernel_rfl) (by kernel_rfl) (by kernel_rfl)]
  kernel_rfl
theorem isMethodComparable (v : Value) (w : World) : (Go.method 355 151 v "Comparable").run Tryz.prog w = .ok (167, v) w := by kernel_rfl
theorem methodUnwrap (v : Value) (w : World) : (Go.method 355 125 v "Unwrap").run Tryz.prog w = .ok (163, v) w := by kernel_rfl
theorem isComp : (Tryz.prog.info? 29).map (·.comparable) = some true := by kernel_rfl
theorem noIsN (v : Value) (xT : TypeId) (w : World) : (Instr.typeAssert (.iface 29 v) xT 153 true).run Tryz.prog w = .ok (.tuple #[.nilIface, .bool false]) w := run_typeAssert_lacksB Tryz.underlying153 (by kernel_rfl) (by kernel_rfl) v xT w
theorem noUnwrapN (v : Value) (xT : TypeId) (w : World) : (Instr.typeAssert (.iface 29 v) xT 156 true).run Tryz.prog w = .ok (.tuple #[.nilIface, .bool false]) w := run_typeAssert_lacksB Tryz.underlying156 (by kernel_rfl) (by kernel_rfl) v xT w
theorem noUnwrapsN (v : Value) (xT : TypeId) (w : World) : (Instr.typeAssert (.iface 29 v) xT 157 true).run Tryz.prog w = .ok (.tuple #[.nilIface, .bool false]) w := run_typeAssert_lacksB Tryz.underlying157 (by kernel_rfl) (by kernel_rfl) v xT w
theorem noIsW (v : Value) (xT : TypeId) (w : World) : (Instr.typeAssert (.iface 125 v) xT 153 true).run Tryz.prog w = .ok (.tuple #[.nilIface, .bool false]) w := run_typeAssert_lacksB Tryz.underlying153 (by kernel_rfl) (by kernel_rfl) v xT w
theorem hasUnwrapW (v : Value) (xT : TypeId) (w : World) : (Instr.typeAssert (.iface 125 v) xT 156 true).run Tryz.prog w = .ok (.tuple #[.iface 125 v, .bool true]) w := run_typeAssert_hasB Tryz.underlying156 (by kernel_rfl) v xT w

/-- errors.Is(nil, ErrLong). -/
theorem is_nil (w : World) : Calls Tryz.prog 37 #[.nilIface, .iface 29 (.int .i64 2)] w fun e w' => e = .returned (.bool false) ∧ w = w' := by
  have hn := run_eql_iface_nil_left (P := Tryz.prog) w 29 (.int .i64 2) Tryz.underlying96
  go_enter Tryz.func37, Tryz.ntmps37
  go_wp2
  go_ret
  exact ⟨rfl, rfl⟩

/-- errors.Is(ErrLong, ErrLong). -/
theorem is_same (w : World) : Calls Tryz.prog 37 #[.iface 29 (.int .i64 2), .iface 29 (.int .i64 2)] w fun e w' => e = .returned (.bool true) ∧ w = w' := by
  obtain ⟨i, hi, hcmp⟩ := Option.map_eq_some_iff.1 isComp
  have h49 := @run_callFunc_extern Tryz.prog 49 _ Extern.ReflectliteType.typeOf Tryz.func49 (by kernel_rfl) (by kernel_rfl) (by kernel_rfl) (by kernel_rfl)
  have tT := isTypeOf
  have cT := isComparable
  have mR := isMethodComparable
  have heq := fun W => run_eql_iface_int' (P := Tryz.prog) W 2 2 Tryz.underlying96 Tryz.underlying29 hi hcmp
  go_enter Tryz.func37, Tryz.ntmps37
  go_wp2
  refine wp_loop_rounds 1 ?_
  rw [rounds_succ]
  go_wp2
  go_ret
  exact ⟨rfl, rfl⟩

/-- errors.Is(x, ErrLong), x a *code.wrong that wraps ErrProg: one Unwrap, then two unlike numbers. -/
theorem is_wrong (p : Nat) (w : World) (h1 : w.cell? ⟨p, 1, none⟩ = some (.iface 29 (.int .i64 130))) :
    Calls Tryz.prog 37 #[.iface 125 (.pointer (some ⟨p, 0, none⟩)), .iface 29 (.int .i64 2)] w fun e w' => e = .returned (.bool false) ∧ w = w' := by
  obtain ⟨i, hi, hcmp⟩ := Option.map_eq_some_iff.1 isComp
  have h49 := @run_callFunc_extern Tryz.prog 49 _ Extern.ReflectliteType.typeOf Tryz.func49 (by kernel_rfl) (by kernel_rfl) (by kernel_rfl) (by kernel_rfl)
  have tT := isTypeOf
  have cT := isComparable
  have mR := isMethodComparable
  have nW := noIsW
  have uW := hasUnwrapW
  have mU := methodUnwrap
  have nE := noIsN
  have uE := noUnwrapN
  have vE := noUnwrapsN
  have heq := fun W => run_eql_iface_int' (P := Tryz.prog) W 130 2 Tryz.underlying96 Tryz.underlying29 hi hcmp
  have hty := run_eql_iface_types (P := Tryz.prog) 125 29 (.pointer (some ⟨p, 0, none⟩)) (.int .i64 2) Tryz.underlying96 (by decide)
  go_enter Tryz.func37, Tryz.ntmps37
  go_wp2
  refine wp_loop_rounds 2 ?_
  rw [rounds_succ]
  go_wp2
  rw [rounds_succ]
  go_wp2
  go_ret
  exact ⟨rfl, rfl⟩
end Go.Proofs.YtalmjdlcogdpmaaGreatDoor

namespace Go.Proofs.YtalmjdlcogdpmaaGreatDoor
open Go.RowKit

/-- A slice of n instructions. -/
def InsSlice (w : World) (v : Value) (n : Nat) (l : Nat → Ins) : Prop := (∃ b o cap, v = .slice (some ⟨b, o, none⟩) n cap ∧ InsRow w b o n l) ∨ (v = .slice none 0 0 ∧ n = 0)
theorem InsSlice.up {w w' : World} {v : Value} {n : Nat} {l : Nat → Ins} (h : InsSlice w v n l) (hu : Up w w') : InsSlice w' v n l := by
  rcases h with ⟨b, o, cap, hv, hr⟩ | h
  · exact Or.inl ⟨b, o, cap, hv, hr.up hu⟩
  · exact Or.inr h
def progB (n : Nat) (l : Nat → Ins) : Bool := (List.range n).all (insB l n)
theorem progB_yes {n : Nat} {l : Nat → Ins} (h : progB n l = true) : ∀ i, i < n → insB l n i = true := fun i hi => by
  unfold progB at h; exact List.all_eq_true.1 h i (List.mem_range.2 hi)
theorem progB_no {n : Nat} {l : Nat → Ins} (h : progB n l = false) : ∃ j, j < n ∧ insB l n j = false ∧ ∀ i, i < j → insB l n i = true := by
  have h1 : ∃ j, j < n ∧ insB l n j = false := by
    unfold progB at h
    obtain ⟨j, hj, hb⟩ := List.all_eq_false.1 h
    exact ⟨j, List.mem_range.1 hj, by simpa using hb⟩
  obtain ⟨j, hj, hb⟩ := h1
  induction j using Nat.strongRecOn with
  | ind j ih =>
    by_cases hall : ∀ i, i < j → insB l n i = true
    · exact ⟨j, hj, hb, hall⟩
    · obtain ⟨i, hi⟩ := Classical.not_forall.1 hall
      obtain ⟨h3, h4⟩ := Classical.not_imp.1 hi
      exact ih i h3 (by omega) (by simpa using h4)
/-- code.Check. -/
def codeErr (n : Nat) (l : Nat → Ins) : Int := if 256 < n then 2 else if progB n l = true then 0 else 130

set_option maxHeartbeats 1000000 in
theorem codecheck_ok (v : Value) (w : World) (hc : Calls Tryz.prog 36 #[v] w fun e w' => e = .returned .nilIface ∧ Up w w') :
    Calls Tryz.prog 19 #[v] w fun e w' => e = .returned (.int .i64 0) ∧ Up w w' := by
  have HC := Lib.hid hc
  clear hc
  go_enter Tryz.func19, Tryz.ntmps19
  go_wp2_with fail
  refine HC.out.mono ?_
  rintro e w1 ⟨rfl, h1⟩
  go_wp2_with fail
  refine (is_nil _).mono ?_
  rintro e w2 ⟨rfl, rfl⟩
  go_wp2
  go_ret
  exact ⟨rfl, h1⟩

set_option maxHeartbeats 1000000 in
theorem codecheck_long (v : Value) (w : World) (hc : Calls Tryz.prog 36 #[v] w fun e w' => e = .returned (.iface 29 (.int .i64 2)) ∧ Up w w') :
    Calls Tryz.prog 19 #[v] w fun e w' => e = .returned (.int .i64 2) ∧ Up w w' := by
  have HC := Lib.hid hc
  clear hc
  go_enter Tryz.func19, Tryz.ntmps19
  go_wp2_with fail
  refine HC.out.mono ?_
  rintro e w1 ⟨rfl, h1⟩
  go_wp2_with fail
  refine (is_same _).mono ?_
  rintro e w2 ⟨rfl, rfl⟩
  go_wp2
  go_ret
  exact ⟨rfl, h1⟩

set_option maxHeartbeats 1000000 in
theorem codecheck_bad (v : Value) (w : World) (hc : Calls Tryz.prog 36 #[v] w (WrongAt w)) :
    Calls Tryz.prog 19 #[v] w fun e w' => e = .returned (.int .i64 130) ∧ Up w w' := by
  have HC := Lib.hid hc
  clear hc
  go_enter Tryz.func19, Tryz.ntmps19
  go_wp2_with fail
  refine HC.out.mono ?_
  rintro e w1 ⟨p, i, rfl, k0, k1, h1⟩
  clear k0
  go_wp2_with fail
  refine (is_wrong p _ k1).mono ?_
  rintro e w2 ⟨rfl, rfl⟩
  go_wp2
  go_ret
  exact ⟨rfl, h1⟩

theorem codecheck_any (v : Value) (n : Nat) (l : Nat → Ins) (w : World) (h : InsSlice w v n l) :
    Calls Tryz.prog 19 #[v] w fun e w' => e = .returned (.int .i64 (codeErr n l)) ∧ Up w w' := by
  unfold codeErr
  rcases h with ⟨b, o, cap, rfl, hr⟩ | ⟨rfl, rfl⟩
  · by_cases hl : 256 < n
    · rw [if_pos hl]; exact codecheck_long _ w (check_long _ n cap w hl)
    · rw [if_neg hl]
      cases hp : progB n l
      · obtain ⟨j, hj, hb, hall⟩ := progB_no hp
        rw [if_neg (by simp)]
        exact codecheck_bad _ w (check_bad b o n cap j l w (by omega) hj hr hall hb)
      · rw [if_pos rfl]
        exact codecheck_ok _ w (check_ok b o n cap l w (by omega) hr (progB_yes hp))
  · exact codecheck_ok _ w (check_nil w)
end Go.Proofs.YtalmjdlcogdpmaaGreatDoor

namespace Go.Proofs.YtalmjdlcogdpmaaGreatDoor
open Go.RowKit

structure Lnk where
  fr : Int
  to : Int
  look : Int
  loose : Bool
/-- A row of n links from ⟨b, o⟩ on. -/
def LnkRow (w : World) (b o n : Nat) (l : Nat → Lnk) : Prop := ∀ i, i < n →
  w.cell? ⟨b, o + i * 4, none⟩ = some (.int .i64 (l i).fr) ∧ w.cell? ⟨b, o + i * 4 + 1, none⟩ = some (.int .i64 (l i).to) ∧ w.cell? ⟨b, o + i * 4 + 2, none⟩ = some (.int .i64 (l i).look) ∧ w.cell? ⟨b, o + i * 4 + 3, none⟩ = some (.bool (l i).loose)
theorem LnkRow.up {w w' : World} {b o n : Nat} {l : Nat → Lnk} (h : LnkRow w b o n l) (hu : Up w w') : LnkRow w' b o n l :=
  fun i hi => ⟨cell_up hu (h i hi).1, cell_up hu (h i hi).2.1, cell_up hu (h i hi).2.2.1, cell_up hu (h i hi).2.2.2⟩
/-- A slice of n links. -/
def LnkSlice (w : World) (v : Value) (n : Nat) (l : Nat → Lnk) : Prop := (∃ b o cap, v = .slice (some ⟨b, o, none⟩) n cap ∧ LnkRow w b o n l) ∨ (v = .slice none 0 0 ∧ n = 0)
theorem LnkSlice.up {w w' : World} {v : Value} {n : Nat} {l : Nat → Lnk} (h : LnkSlice w v n l) (hu : Up w w') : LnkSlice w' v n l := by
  rcases h with ⟨b, o, cap, hv, hr⟩ | h
  · exact Or.inl ⟨b, o, cap, hv, hr.up hu⟩
  · exact Or.inr h
def lnkB (l : Lnk) : Bool := laneB l.to && decide (1 ≤ l.look) && validB l.look
def lnksB (n : Nat) (l : Nat → Lnk) : Bool := (List.range n).all fun i => lnkB (l i)
theorem lnksB_yes {n : Nat} {l : Nat → Lnk} (h : lnksB n l = true) : ∀ i, i < n → lnkB (l i) = true := fun i hi => by
  unfold lnksB at h; exact List.all_eq_true.1 h i (List.mem_range.2 hi)
theorem lnksB_no {n : Nat} {l : Nat → Lnk} (h : lnksB n l = false) : ∃ j, j < n ∧ lnkB (l j) = false ∧ ∀ i, i < j → lnkB (l i) = true := by
  have h1 : ∃ j, j < n ∧ lnkB (l j) = false := by
    unfold lnksB at h
    obtain ⟨j, hj, hb⟩ := List.all_eq_false.1 h
    exact ⟨j, List.mem_range.1 hj, by simpa using hb⟩
  obtain ⟨j, hj, hb⟩ := h1
  induction j using Nat.strongRecOn with
  | ind j ih =>
    by_cases hall : ∀ i, i < j → lnkB (l i) = true
    · exact ⟨j, hj, hb, hall⟩
    · obtain ⟨i, hi⟩ := Classical.not_forall.1 hall
      obtain ⟨h3, h4⟩ := Classical.not_imp.1 hi
      exact ih i h3 (by omega) (by simpa using h4)
/-- vm.Check. -/
def vmErr (np : Nat) (p : Nat → Ins) (self : Int) (nl : Nat) (l : Nat → Lnk) : Int :=
  if codeErr np p ≠ 0 then codeErr np p else if laneB self = true ∧ nl ≤ 1024 then (if lnksB nl l = true then 0 else 1) else 1
theorem lnkB_three {l : Lnk} (h : lnkB l = true) : laneB l.to = true ∧ 1 ≤ l.look ∧ validB l.look = true := by
  unfold lnkB at h; simp at h; exact ⟨h.1.1, h.1.2, h.2⟩
theorem lnkB_bad {l : Lnk} (h : lnkB l = false) : laneB l.to = false ∨ laneB l.to = true ∧ l.look < 1 ∨ laneB l.to = true ∧ 1 ≤ l.look ∧ validB l.look = false := by
  unfold lnkB at h
  cases h1 : laneB l.to
  · exact Or.inl rfl
  · by_cases h2 : 1 ≤ l.look
    · refine Or.inr (Or.inr ⟨rfl, h2, ?_⟩)
      simpa [h1, h2] using h
    · exact Or.inr (Or.inl ⟨rfl, by omega⟩)

set_option maxHeartbeats 1000000 in
/-- A program that may not be. -/
theorem vmcheck_prog (vp vl : Value) (self seed : Int) (np : Nat) (p : Nat → Ins) (w : World) (hp : InsSlice w vp np p) (he : codeErr np p ≠ 0) :
    Calls Tryz.prog 6 #[.agg #[vp, .int .i64 self, vl, .int .u64 seed]] w fun e w' => e = .returned (.int .i64 (codeErr np p)) ∧ Up w w' := by
  have hb : (codeErr np p != 0) = true := by simpa using he
  have HP := Lib.hid hp
  clear hp he
  go_enter Tryz.func6, Tryz.ntmps6
  go_wp2_with fail
  refine (codecheck_any vp np p _ (HP.out.up (alloc_up _ _ _))).mono ?_
  rintro e w1 ⟨rfl, h1⟩
  obtain ⟨hc, hf, hz⟩ := h1.facts
  go_wp2
  go_ret
  exact ⟨rfl, ((Up.refl _).alloc _ _).trans h1⟩

set_option maxHeartbeats 1000000 in
/-- A number that is no process's. -/
theorem vmcheck_self (vp vl : Value) (self seed : Int) (np : Nat) (p : Nat → Ins) (w : World) (hp : InsSlice w vp np p) (he : codeErr np p = 0) (hs : laneB self = false) :
    Calls Tryz.prog 6 #[.agg #[vp, .int .i64 self, vl, .int .u64 seed]] w fun e w' => e = .returned (.int .i64 1) ∧ Up w w' := by
  have HP := Lib.hid hp
  clear hp
  go_enter Tryz.func6, Tryz.ntmps6
  go_wp2_with fail
  refine (codecheck_any vp np p _ (HP.out.up (alloc_up _ _ _))).mono ?_
  rintro e w1 ⟨rfl, h1⟩
  rw [he]
  obtain ⟨hc, hf, hz⟩ := h1.facts
  go_wp2_with fail
  refine (vmlane_any _ _).mono ?_
  rintro e w2 ⟨rfl, rfl⟩
  go_wp2
  go_ret
  exact ⟨rfl, ((Up.refl _).alloc _ _).trans h1⟩

set_option maxHeartbeats 1000000 in
/-- Too many links. -/
theorem vmcheck_many (vp : Value) (v : Option Addr) (nl cap : Nat) (self seed : Int) (np : Nat) (p : Nat → Ins) (w : World) (hp : InsSlice w vp np p) (he : codeErr np p = 0) (hs : laneB self = true) (hm : 1024 < nl) :
    Calls Tryz.prog 6 #[.agg #[vp, .int .i64 self, .slice v nl cap, .int .u64 seed]] w fun e w' => e = .returned (.int .i64 1) ∧ Up w w' := by
  have HP := Lib.hid hp
  have hm' : decide (1024 < (nl : Int)) = true := decide_eq_true (by omega)
  clear hp
  go_enter Tryz.func6, Tryz.ntmps6
  go_wp2_with fail
  refine (codecheck_any vp np p _ (HP.out.up (alloc_up _ _ _))).mono ?_
  rintro e w1 ⟨rfl, h1⟩
  rw [he]
  obtain ⟨hc, hf, hz⟩ := h1.facts
  go_wp2_with fail
  refine (vmlane_any _ _).mono ?_
  rintro e w2 ⟨rfl, rfl⟩
  go_wp2
  go_ret
  exact ⟨rfl, ((Up.refl _).alloc _ _).trans h1⟩

set_option maxHeartbeats 1000000 in
/-- No link at all. -/
theorem vmcheck_none (vp : Value) (self seed : Int) (np : Nat) (p : Nat → Ins) (w : World) (hp : InsSlice w vp np p) (he : codeErr np p = 0) (hs : laneB self = true) :
    Calls Tryz.prog 6 #[.agg #[vp, .int .i64 self, .slice none 0 0, .int .u64 seed]] w fun e w' => e = .returned (.int .i64 0) ∧ Up w w' := by
  have HP := Lib.hid hp
  clear hp
  go_enter Tryz.func6, Tryz.ntmps6
  go_wp2_with fail
  refine (codecheck_any vp np p _ (HP.out.up (alloc_up _ _ _))).mono ?_
  rintro e w1 ⟨rfl, h1⟩
  rw [he]
  obtain ⟨hc, hf, hz⟩ := h1.facts
  have hu : Up w w1 := ((Up.refl _).alloc _ _).trans h1
  clear h1
  go_wp2_with fail
  refine (vmlane_any _ _).mono ?_
  rintro e w2 ⟨rfl, rfl⟩
  go_wp2_with fail
  clear hc hf hz
  go_loopw [25] (fun i wr => Up w wr ∧ i = .int .i64 0) (fun i _ => 0)
  case atStart => exact ⟨hu, rfl⟩
  case round =>
    obtain ⟨hr, rfl⟩ := hrel
    go_wp2
    go_ret
    exact ⟨rfl, hr⟩

set_option maxHeartbeats 1000000 in
/-- All links may be. -/
theorem vmcheck_ok (vp : Value) (b o nl cap : Nat) (l : Nat → Lnk) (self seed : Int) (np : Nat) (p : Nat → Ins) (w : World) (hp : InsSlice w vp np p) (he : codeErr np p = 0) (hs : laneB self = true) (hm : nl ≤ 1024) (hr : LnkRow w b o nl l) (hok : ∀ i, i < nl → lnkB (l i) = true) :
    Calls Tryz.prog 6 #[.agg #[vp, .int .i64 self, .slice (some ⟨b, o, none⟩) nl cap, .int .u64 seed]] w fun e w' => e = .returned (.int .i64 0) ∧ Up w w' := by
  have HP := Lib.hid hp
  have hm' : decide (1024 < (nl : Int)) = false := decide_eq_false (by omega)
  clear hp
  go_enter Tryz.func6, Tryz.ntmps6
  go_wp2_with fail
  refine (codecheck_any vp np p _ (HP.out.up (alloc_up _ _ _))).mono ?_
  rintro e w1 ⟨rfl, h1⟩
  rw [he]
  obtain ⟨hc, hf, hz⟩ := h1.facts
  have hu : Up w w1 := ((Up.refl _).alloc _ _).trans h1
  clear h1
  go_wp2_with fail
  refine (vmlane_any _ _).mono ?_
  rintro e w2 ⟨rfl, rfl⟩
  go_wp2_with fail
  clear hc hf hz
  go_loopw [25] (fun i wr => Up w wr ∧ ∃ k : Nat, k ≤ nl ∧ i = .int .i64 k) (fun i _ => nl - (intOf i).toNat)
  case atStart => exact ⟨hu, 0, Nat.zero_le _, rfl⟩
  case round =>
    obtain ⟨hw, k, hk, rfl⟩ := hrel
    by_cases hlt : k < nl
    · obtain ⟨c0, c1, c2, c3⟩ := hr.up hw k hlt
      obtain ⟨g1, g2, g3⟩ := lnkB_three (hok k hlt)
      clear hr hok hu
      go_wp2_with fail
      refine (vmlane_any _ _).mono ?_
      rintro e w2 ⟨rfl, rfl⟩
      go_wp2_with fail
      refine (valid_any _ _).mono ?_
      rintro e w2 ⟨rfl, rfl⟩
      go_wp2
      go_roundw
      case rel => exact ⟨hw.alloc _ _, k + 1, by omega, by go_num⟩
      case measure => simp [intOf]; omega
    · clear hr hok
      go_wp2
      go_ret
      exact ⟨rfl, hw⟩

set_option maxHeartbeats 2000000 in
/-- A link that may not be. -/
theorem vmcheck_link (vp : Value) (b o nl cap j : Nat) (l : Nat → Lnk) (self seed : Int) (np : Nat) (p : Nat → Ins) (w : World) (hp : InsSlice w vp np p) (he : codeErr np p = 0) (hs : laneB self = true) (hm : nl ≤ 1024) (hr : LnkRow w b o nl l) (hj : j < nl) (hok : ∀ i, i < j → lnkB (l i) = true) (hbad : lnkB (l j) = false) :
    Calls Tryz.prog 6 #[.agg #[vp, .int .i64 self, .slice (some ⟨b, o, none⟩) nl cap, .int .u64 seed]] w fun e w' => e = .returned (.int .i64 1) ∧ Up w w' := by
  have HP := Lib.hid hp
  have hm' : decide (1024 < (nl : Int)) = false := decide_eq_false (by omega)
  clear hp
  go_enter Tryz.func6, Tryz.ntmps6
  go_wp2_with fail
  refine (codecheck_any vp np p _ (HP.out.up (alloc_up _ _ _))).mono ?_
  rintro e w1 ⟨rfl, h1⟩
  rw [he]
  obtain ⟨hc, hf, hz⟩ := h1.facts
  have hu : Up w w1 := ((Up.refl _).alloc _ _).trans h1
  clear h1
  go_wp2_with fail
  refine (vmlane_any _ _).mono ?_
  rintro e w2 ⟨rfl, rfl⟩
  go_wp2_with fail
  clear hc hf hz
  go_loopw [25] (fun i wr => Up w wr ∧ ∃ k : Nat, k ≤ j ∧ i = .int .i64 k) (fun i _ => nl - (intOf i).toNat)
  case atStart => exact ⟨hu, 0, Nat.zero_le _, rfl⟩
  case round =>
    obtain ⟨hw, k, hk, rfl⟩ := hrel
    have hlt : k < nl := by omega
    obtain ⟨c0, c1, c2, c3⟩ := hr.up hw k hlt
    by_cases hkj : k < j
    · obtain ⟨g1, g2, g3⟩ := lnkB_three (hok k hkj)
      clear hr hok hu hbad
      go_wp2_with fail
      refine (vmlane_any _ _).mono ?_
      rintro e w2 ⟨rfl, rfl⟩
      go_wp2_with fail
      refine (valid_any _ _).mono ?_
      rintro e w2 ⟨rfl, rfl⟩
      go_wp2
      go_roundw
      case rel => exact ⟨hw.alloc _ _, k + 1, by omega, by go_num⟩
      case measure => simp [intOf]; omega
    · obtain rfl : k = j := by omega
      have hb := lnkB_bad hbad
      clear hr hok hbad hu
      rcases hb with g1 | ⟨g1, g2⟩ | ⟨g1, g2, g3⟩
      · go_wp2_with fail
        refine (vmlane_any _ _).mono ?_
        rintro e w2 ⟨rfl, rfl⟩
        go_wp2
        go_ret
        exact ⟨rfl, hw.alloc _ _⟩
      · go_wp2_with fail
        refine (vmlane_any _ _).mono ?_
        rintro e w2 ⟨rfl, rfl⟩
        go_wp2
        go_ret
        exact ⟨rfl, hw.alloc _ _⟩
      · go_wp2_with fail
        refine (vmlane_any _ _).mono ?_
        rintro e w2 ⟨rfl, rfl⟩
        go_wp2_with fail
        refine (valid_any _ _).mono ?_
        rintro e w2 ⟨rfl, rfl⟩
        go_wp2
        go_ret
        exact ⟨rfl, hw.alloc _ _⟩

theorem vmcheck_any (vp vl : Value) (self seed : Int) (np nl : Nat) (p : Nat → Ins) (l : Nat → Lnk) (w : World) (hp : InsSlice w vp np p) (hl : LnkSlice w vl nl l) :
    Calls Tryz.prog 6 #[.agg #[vp, .int .i64 self, vl, .int .u64 seed]] w fun e w' => e = .returned (.int .i64 (vmErr np p self nl l)) ∧ Up w w' := by
  unfold vmErr
  by_cases he : codeErr np p ≠ 0
  · rw [if_pos he]; exact vmcheck_prog vp vl self seed np p w hp he
  · rw [if_neg he]
    have he0 : codeErr np p = 0 := Classical.not_not.1 he
    cases hs : laneB self
    · rw [if_neg (by simp)]; exact vmcheck_self vp vl self seed np p w hp he0 hs
    · rcases hl with ⟨b, o, cap, rfl, hr⟩ | ⟨rfl, rfl⟩
      · by_cases hm : nl ≤ 1024
        · rw [if_pos ⟨rfl, hm⟩]
          cases hk : lnksB nl l
          · obtain ⟨j, hj, hb, hall⟩ := lnksB_no hk
            rw [if_neg (by simp)]
            exact vmcheck_link vp b o nl cap j l self seed np p w hp he0 hs hm hr hj hall hb
          · rw [if_pos rfl]
            exact vmcheck_ok vp b o nl cap l self seed np p w hp he0 hs hm hr (lnksB_yes hk)
        · rw [if_neg (fun k => hm k.2)]
          exact vmcheck_many vp _ nl cap self seed np p w hp he0 hs (by omega)
      · rw [if_pos ⟨rfl, by omega⟩, if_pos (show lnksB 0 l = true from rfl)]
        exact vmcheck_none vp self seed np p w hp he0 hs
end Go.Proofs.YtalmjdlcogdpmaaGreatDoor

namespace Go.Proofs.YtalmjdlcogdpmaaGreatDoor

def xs30 (x : Int) : Int := bits .xor .u64 x (x / 1073741824)
def xs27 (x : Int) : Int := bits .xor .u64 x (x / 134217728)
def xs31 (x : Int) : Int := bits .xor .u64 x (x / 2147483648)
def stp0 (x : Int) : Int := IntKind.u64.wrap (x + 11400714819323198485)
def stp1 (x : Int) : Int := IntKind.u64.wrap (xs30 x * 13787848793156543929)
def stp2 (x : Int) : Int := IntKind.u64.wrap (xs27 x * 10723151780598845931)
def mixv (x : Int) : Int := xs31 (stp2 (stp1 (stp0 x)))
def In64 (x : Int) : Prop := 0 ≤ x ∧ x < 18446744073709551616
def atv (seed self n : Int) : Int := mixv (IntKind.u64.wrap (mixv (IntKind.u64.wrap (mixv seed + IntKind.u64.wrap self)) + IntKind.u64.wrap n))

theorem wrap_in (x : Int) : In64 (IntKind.u64.wrap x) := by rw [IntKind.wrap_u64]; unfold In64; omega

theorem xor_zero {x y : Nat} (h : x ^^^ y = 0) : x = y := by
  have e : x ^^^ y ^^^ y = x := by rw [Nat.xor_assoc, Nat.xor_self, Nat.xor_zero]
  rw [h, Nat.zero_xor] at e; exact e.symm

/-- xor with itself shifted, on naturals: one to one. -/
theorem xs_inj (s x y : Nat) (hs : 0 < s) (h : x ^^^ x / 2 ^ s = y ^^^ y / 2 ^ s) : x = y := by
  have h1 : x ^^^ y = (x ^^^ y) / 2 ^ s := by
    have e : (x ^^^ y) / 2 ^ s = x / 2 ^ s ^^^ y / 2 ^ s := by
      rw [← Nat.shiftRight_eq_div_pow, ← Nat.shiftRight_eq_div_pow, ← Nat.shiftRight_eq_div_pow, Nat.shiftRight_xor_distrib]
    rw [e]
    have : x ^^^ y ^^^ (x / 2 ^ s ^^^ y / 2 ^ s) = 0 := by
      have : x ^^^ y ^^^ (x / 2 ^ s ^^^ y / 2 ^ s) = (x ^^^ x / 2 ^ s) ^^^ (y ^^^ y / 2 ^ s) := by ac_rfl
      rw [this, h, Nat.xor_self]
    exact xor_zero this
  have h2 : x ^^^ y = 0 := by
    generalize x ^^^ y = z at h1
    rcases Nat.eq_zero_or_pos z with h | h
    · exact h
    · exact absurd h1 (Nat.ne_of_gt (Nat.div_lt_self h (Nat.one_lt_two_pow (by omega))))
  exact xor_zero h2

theorem xs_lt (s x : Nat) (h : x < 2 ^ 64) : x ^^^ x / 2 ^ s < 2 ^ 64 :=
  Nat.xor_lt_two_pow h (Nat.lt_of_le_of_lt (Nat.div_le_self _ _) h)

theorem xs_nat (s : Nat) (x : Int) (h : In64 x) : bits .xor .u64 x (x / ((2 ^ s : Nat) : Int)) = ((x.toNat ^^^ x.toNat / 2 ^ s : Nat) : Int) := by
  obtain ⟨n, rfl⟩ := Int.eq_ofNat_of_zero_le h.1
  rw [xorShift_u64 n (2 ^ s) (by have := h.2; omega), Int.toNat_natCast]

theorem xs_in (s : Nat) (x : Int) (h : In64 x) : In64 (bits .xor .u64 x (x / ((2 ^ s : Nat) : Int))) := by
  rw [xs_nat s x h]
  have := xs_lt s x.toNat (by have := h.1; have := h.2; omega)
  unfold In64
  generalize x.toNat ^^^ x.toNat / 2 ^ s = z at *
  omega

theorem xs_one (s : Nat) (hs : 0 < s) (x y : Int) (hx : In64 x) (hy : In64 y) (h : bits .xor .u64 x (x / ((2 ^ s : Nat) : Int)) = bits .xor .u64 y (y / ((2 ^ s : Nat) : Int))) : x = y := by
  rw [xs_nat s x hx, xs_nat s y hy] at h
  have := xs_inj s x.toNat y.toNat hs (by exact Int.ofNat.inj h)
  have := hx.1; have := hy.1
  omega

theorem xs30_in {x : Int} (h : In64 x) : In64 (xs30 x) := xs_in 30 x h
theorem xs27_in {x : Int} (h : In64 x) : In64 (xs27 x) := xs_in 27 x h
theorem xs31_in {x : Int} (h : In64 x) : In64 (xs31 x) := xs_in 31 x h
theorem mixv_in (x : Int) : In64 (mixv x) := xs31_in (wrap_in _)
theorem atv_in (s a n : Int) : In64 (atv s a n) := mixv_in _

/-- a product with an odd number, modulo 2^64, tells its factor: by the inverse. -/
theorem mul_one (c d x y : Int) (hcd : (c * d) % 18446744073709551616 = 1) (hx : In64 x) (hy : In64 y) (h : IntKind.u64.wrap (x * c) = IntKind.u64.wrap (y * c)) : x = y := by
  rw [IntKind.wrap_u64, IntKind.wrap_u64] at h
  have e : ∀ z : Int, In64 z → (z * c) % 18446744073709551616 * d % 18446744073709551616 = z := by
    intro z hz
    rw [Int.mul_emod, Int.emod_emod, ← Int.mul_emod, Int.mul_assoc, Int.mul_emod, hcd, Int.mul_one, Int.emod_emod]
    exact Int.emod_eq_of_lt hz.1 hz.2
  rw [← e x hx, ← e y hy, h]

theorem stp1_one (x y : Int) (hx : In64 x) (hy : In64 y) (h : stp1 x = stp1 y) : x = y :=
  xs_one 30 (by omega) x y hx hy (mul_one 13787848793156543929 10871156337175269513 _ _ (by decide +kernel) (xs_in 30 x hx) (xs_in 30 y hy) h)
theorem stp2_one (x y : Int) (hx : In64 x) (hy : In64 y) (h : stp2 x = stp2 y) : x = y :=
  xs_one 27 (by omega) x y hx hy (mul_one 10723151780598845931 3573116690164977347 _ _ (by decide +kernel) (xs_in 27 x hx) (xs_in 27 y hy) h)
theorem add_one (c x y : Int) (hx : In64 x) (hy : In64 y) (h : IntKind.u64.wrap (x + c) = IntKind.u64.wrap (y + c)) : x = y := by
  rw [IntKind.wrap_u64, IntKind.wrap_u64] at h; unfold In64 at hx hy; omega
theorem add_two (c x y : Int) (hx : In64 x) (hy : In64 y) (h : IntKind.u64.wrap (c + x) = IntKind.u64.wrap (c + y)) : x = y := by
  rw [IntKind.wrap_u64, IntKind.wrap_u64] at h; unfold In64 at hx hy; omega

/-- MIX IS ONE TO ONE on 64 bits. -/
theorem mixv_one (x y : Int) (hx : In64 x) (hy : In64 y) (h : mixv x = mixv y) : x = y :=
  add_one _ x y hx hy (stp1_one _ _ (wrap_in _) (wrap_in _) (stp2_one _ _ (wrap_in _) (wrap_in _) (xs_one 31 (by omega) _ _ (wrap_in _) (wrap_in _) h)))

def In63 (x : Int) : Prop := -9223372036854775808 ≤ x ∧ x ≤ 9223372036854775807
theorem u64_one (x y : Int) (hx : In63 x) (hy : In63 y) (h : IntKind.u64.wrap x = IntKind.u64.wrap y) : x = y := by
  rw [IntKind.wrap_u64, IntKind.wrap_u64] at h; unfold In63 at hx hy; omega

theorem atv_n (s a n m : Int) (hn : In63 n) (hm : In63 m) (h : atv s a n = atv s a m) : n = m :=
  u64_one n m hn hm (add_two _ _ _ (wrap_in _) (wrap_in _) (mixv_one _ _ (wrap_in _) (wrap_in _) h))
theorem atv_a (s a b n : Int) (ha : In63 a) (hb : In63 b) (h : atv s a n = atv s b n) : a = b :=
  u64_one a b ha hb (add_two _ _ _ (wrap_in _) (wrap_in _) (mixv_one _ _ (wrap_in _) (wrap_in _) (add_one _ _ _ (mixv_in _) (mixv_in _) (mixv_one _ _ (wrap_in _) (wrap_in _) h))))

theorem mixv_zero : mixv 0 = 16294208416658607535 := by decide +kernel
end Go.Proofs.YtalmjdlcogdpmaaGreatDoor

namespace Go.Proofs.YtalmjdlcogdpmaaGreatDoor
open Go.RowKit

set_option maxHeartbeats 400000 in
theorem fold30 (x : Int) (w : World) :
    Calls Tryz.prog 97 #[.agg #[.int .u64 x], .int .u64 30] w fun e w' => e = .returned (.int .u64 (xs30 x)) ∧ Up w w' := by
  go_enter Tryz.func97, Tryz.ntmps97
  go_wp2
  go_ret
  exact ⟨rfl, (Up.refl _).alloc _ _⟩

set_option maxHeartbeats 400000 in
theorem fold27 (x : Int) (w : World) :
    Calls Tryz.prog 97 #[.agg #[.int .u64 x], .int .u64 27] w fun e w' => e = .returned (.int .u64 (xs27 x)) ∧ Up w w' := by
  go_enter Tryz.func97, Tryz.ntmps97
  go_wp2
  go_ret
  exact ⟨rfl, (Up.refl _).alloc _ _⟩

set_option maxHeartbeats 400000 in
theorem fold31 (x : Int) (w : World) :
    Calls Tryz.prog 97 #[.agg #[.int .u64 x], .int .u64 31] w fun e w' => e = .returned (.int .u64 (xs31 x)) ∧ Up w w' := by
  go_enter Tryz.func97, Tryz.ntmps97
  go_wp2
  go_ret
  exact ⟨rfl, (Up.refl _).alloc _ _⟩

set_option maxHeartbeats 400000 in
theorem times30 (x f : Int) (w : World) :
    Calls Tryz.prog 96 #[.agg #[.int .u64 x], .int .u64 30, .int .u64 f] w fun e w' => e = .returned (.agg #[.int .u64 (IntKind.u64.wrap (xs30 x * f))]) ∧ Up w w' := by
  go_enter Tryz.func96, Tryz.ntmps96
  go_wp2_with fail
  refine (fold30 _ _).mono ?_
  rintro e w' ⟨rfl, hg⟩
  obtain ⟨hc, hf, hz⟩ := hg.facts
  go_wp2
  refine bodyPost_ret (v := .agg #[.int .u64 (IntKind.u64.wrap (xs30 x * f))]) (by simp [results, Tryz.results96, go_sem, hc]) rfl ⟨rfl, ?_⟩
  exact ((((Up.refl w).alloc _ _).alloc _ _).trans hg).setCell (by simp) _

set_option maxHeartbeats 400000 in
theorem times27 (x f : Int) (w : World) :
    Calls Tryz.prog 96 #[.agg #[.int .u64 x], .int .u64 27, .int .u64 f] w fun e w' => e = .returned (.agg #[.int .u64 (IntKind.u64.wrap (xs27 x * f))]) ∧ Up w w' := by
  go_enter Tryz.func96, Tryz.ntmps96
  go_wp2_with fail
  refine (fold27 _ _).mono ?_
  rintro e w' ⟨rfl, hg⟩
  obtain ⟨hc, hf, hz⟩ := hg.facts
  go_wp2
  refine bodyPost_ret (v := .agg #[.int .u64 (IntKind.u64.wrap (xs27 x * f))]) (by simp [results, Tryz.results96, go_sem, hc]) rfl ⟨rfl, ?_⟩
  exact ((((Up.refl w).alloc _ _).alloc _ _).trans hg).setCell (by simp) _

set_option maxHeartbeats 400000 in
theorem mix_any (x : Int) (w : World) :
    Calls Tryz.prog 95 #[.int .u64 x] w fun e w' => e = .returned (.int .u64 (mixv x)) ∧ Up w w' := by
  have hfl : ∀ (y : Int) (W : World), (Instr.field 201 (.agg #[.int .u64 y]) 0).run Tryz.prog W = .ok (.agg #[.int .u64 y]) W := fun _ _ => by kernel_rfl
  go_enter Tryz.func95, Tryz.ntmps95
  go_wp2_with fail
  refine (times30 _ _ _).mono ?_
  rintro e w1 ⟨rfl, h1⟩
  go_wp2_with fail
  refine (times27 _ _ _).mono ?_
  rintro e w2 ⟨rfl, h2⟩
  go_wp2_with fail
  refine (fold31 _ _).mono ?_
  rintro e w3 ⟨rfl, h3⟩
  go_wp2
  go_ret
  exact ⟨rfl, ((h1.alloc _ _).trans h2).trans h3⟩

def atk (s a n : Int) : Nat → Int
  | 0 => mixv s
  | 1 => mixv (IntKind.u64.wrap (mixv s + IntKind.u64.wrap a))
  | _ => atv s a n

set_option maxHeartbeats 400000 in
theorem at_any (s a n : Int) (w : World) :
    Calls Tryz.prog 94 #[.int .u64 s, .int .i64 a, .int .i64 n] w fun e w' => e = .returned (.int .u64 (atv s a n)) ∧ Up w w' := by
  go_enter Tryz.func94, Tryz.ntmps94
  go_wp2_with fail
  refine (mix_any _ _).mono ?_
  rintro e w1 ⟨rfl, h1⟩
  have i0 : ∀ W : World, (Instr.index 195 (.agg #[.int .i64 a, .int .i64 n]) (.int .i64 0)).run Tryz.prog W = .ok (.int .i64 a) W := fun _ => by kernel_rfl
  have i1 : ∀ W : World, (Instr.index 195 (.agg #[.int .i64 a, .int .i64 n]) (.int .i64 1)).run Tryz.prog W = .ok (.int .i64 n) W := fun _ => by kernel_rfl
  go_wp2_with fail
  go_loopw [7, 15] (fun x i wr => Up w wr ∧ ∃ k : Nat, k ≤ 2 ∧ i = .int .i64 k ∧ x = .int .u64 (atk s a n k)) (fun _ i _ => 2 - (intOf i).toNat)
  case atStart => exact ⟨h1, 0, Nat.zero_le _, rfl, rfl⟩
  case round =>
    obtain ⟨hu, k, hk, rfl, rfl⟩ := hrel
    have hk5 : k = 0 ∨ k = 1 ∨ k = 2 := by omega
    rcases hk5 with rfl | rfl | rfl
    · go_wp2_with fail
      refine (mix_any _ _).mono ?_
      rintro e w2 ⟨rfl, h2⟩
      go_wp2
      go_roundw
      case rel => exact ⟨hu.trans h2, 1, by omega, rfl, rfl⟩
      case measure => simp [intOf]
    · go_wp2_with fail
      refine (mix_any _ _).mono ?_
      rintro e w2 ⟨rfl, h2⟩
      go_wp2
      go_roundw
      case rel => exact ⟨hu.trans h2, 2, by omega, rfl, rfl⟩
      case measure => simp [intOf]
    · go_wp2
      go_ret
      exact ⟨rfl, hu⟩

theorem rest_of (x k : Int) (hx : In64 x) (hk : 1 ≤ k) (hm : k ≤ 9223372036854775807) : wrap64 (x.tmod k) = x % k := by
  rw [Int.tmod_eq_emod_of_nonneg hx.1]
  have h1 := Int.emod_nonneg x (show k ≠ 0 by omega)
  have h2 := Int.emod_lt_of_pos x (show 0 < k by omega)
  generalize x % k = z at *
  unfold wrap64
  omega


set_option maxHeartbeats 400000 in
theorem below_no (s a n k : Int) (w : World) (hk : k ≤ 0) :
    Calls Tryz.prog 92 #[.int .u64 s, .int .i64 a, .int .i64 n, .int .i64 k] w fun e w' => e = .returned (.int .i64 0) ∧ Up w w' := by
  go_enter Tryz.func92, Tryz.ntmps92
  go_wp2
  go_ret
  exact ⟨rfl, Up.refl _⟩

set_option maxHeartbeats 400000 in
theorem below_yes (s a n k : Int) (w : World) (hk : 1 ≤ k) (hm : k ≤ 9223372036854775807) :
    Calls Tryz.prog 92 #[.int .u64 s, .int .i64 a, .int .i64 n, .int .i64 k] w fun e w' => e = .returned (.int .i64 (atv s a n % k)) ∧ Up w w' := by
  have hk0 : ¬ k ≤ 0 := by omega
  go_enter Tryz.func92, Tryz.ntmps92
  go_wp2_with fail
  refine (at_any _ _ _ _).mono ?_
  rintro e w2 ⟨rfl, h2⟩
  go_wp2
  go_ret
  exact ⟨ret_int (rest_of _ _ (atv_in _ _ _) hk hm), h2⟩

/-- draw.Below, whatever the bound. -/
def belowv (s a n k : Int) : Int := if k ≤ 0 then 0 else atv s a n % k
theorem below_any (s a n k : Int) (w : World) (hm : k ≤ 9223372036854775807) :
    Calls Tryz.prog 92 #[.int .u64 s, .int .i64 a, .int .i64 n, .int .i64 k] w fun e w' => e = .returned (.int .i64 (belowv s a n k)) ∧ Up w w' := by
  unfold belowv
  by_cases h : k ≤ 0
  · rw [if_pos h]; exact below_no s a n k w h
  · rw [if_neg h]; exact below_yes s a n k w (by omega) hm
end Go.Proofs.YtalmjdlcogdpmaaGreatDoor

namespace Go.Proofs.YtalmjdlcogdpmaaGreatDoor
open Go.RowKit

structure Chg (S : Nat → Prop) (w w' : World) : Prop where
  os : w'.os = w.os
  tape : w'.tape = w.tape
  output : w'.output = w.output
  size : w.heap.size ≤ w'.heap.size
  block : ∀ k, k < w.heap.size → ¬ S k → w'.heap[k]? = w.heap[k]?
  marks : ∀ a, w'.frozen? a = w.frozen? a

theorem Chg.refl (S : Nat → Prop) (w : World) : Chg S w w := ⟨rfl, rfl, rfl, Nat.le_refl _, fun _ _ _ => rfl, fun _ => rfl⟩
/-- One change behind another: what the second may turn is new or lies in S. -/
theorem Chg.trans {S T : Nat → Prop} {a b c : World} (h : Chg S a b) (k : Chg T b c) (hT : ∀ i, i < a.heap.size → T i → S i) : Chg S a c :=
  ⟨k.os.trans h.os, k.tape.trans h.tape, k.output.trans h.output, Nat.le_trans h.size k.size, fun i hi hs => (k.block i (Nat.lt_of_lt_of_le hi h.size) (fun e => hs (hT i hi e))).trans (h.block i hi hs), fun x => (k.marks x).trans (h.marks x)⟩
theorem Chg.of_up {S : Nat → Prop} {w w' : World} (h : Up w w') : Chg S w w' :=
  ⟨h.1.os, h.1.tape, h.1.output, h.1.size, fun k hk _ => h.1.block k hk, h.2⟩
theorem Chg.up {S : Nat → Prop} {a b c : World} (h : Chg S a b) (k : Up b c) : Chg S a c := h.trans (T := fun _ => False) (.of_up k) fun _ _ e => e.elim
theorem Chg.to_up {S : Nat → Prop} {w w' : World} (h : Chg S w w') (hS : ∀ k, k < w.heap.size → ¬ S k) : Up w w' :=
  ⟨⟨h.os, h.tape, h.output, h.size, fun k hk => h.block k hk (hS k hk)⟩, h.marks⟩
theorem Chg.mono {S T : Nat → Prop} {w w' : World} (h : Chg S w w') (hT : ∀ i, i < w.heap.size → S i → T i) : Chg T w w' :=
  ⟨h.os, h.tape, h.output, h.size, fun k hk hn => h.block k hk fun e => hn (hT k hk e), h.marks⟩
theorem Chg.drew {S : Nat → Prop} {a w : World} (h : Chg S a w) : Chg S a w.drew := h.up up_drew
theorem Chg.alloc {S : Nat → Prop} {a w : World} (h : Chg S a w) (c : Array Value) (t : TypeId) : Chg S a (w.alloc (.cells c t)) := h.up (alloc_up _ _ _)
theorem Chg.setCell {S : Nat → Prop} {a w : World} (h : Chg S a w) {p : Addr} (hp : S p.block ∨ a.heap.size ≤ p.block) (v : Value) : Chg S a (w.setCell p v) :=
  ⟨h.os, h.tape, h.output, by simpa [World.setCell] using h.size, fun k hk hn => (Below.heap_setCell _ _ _ _ (by rintro rfl; rcases hp with hp | hp; exact hn hp; omega)).trans (h.block k hk hn), fun x => (World.frozen?_setCell _ _ _ _).trans (h.marks x)⟩
theorem Chg.cell {S : Nat → Prop} {w w' : World} (h : Chg S w w') {a : Addr} (hn : ¬ S a.block) {v : Value} (hc : w.cell? a = some v) : w'.cell? a = some v :=
  (World.cell?_of_block (w := w) (h.block a.block (World.block_lt_of_cell? w a hc) hn)).trans hc
theorem Chg.below {S : Nat → Prop} {w w' : World} (h : Chg S w w') {B : Nat} (hB : B ≤ w.heap.size) (hS : ∀ k, k < B → ¬ S k) : Below B w w' :=
  ⟨h.os, h.tape, h.output, h.size, fun k hk => h.block k (Nat.lt_of_lt_of_le hk hB) (hS k hk)⟩
end Go.Proofs.YtalmjdlcogdpmaaGreatDoor
