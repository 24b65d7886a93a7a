/- Contracts of tune.Check, its reference and the word 'awake' of layer 16. -/
import Derived.Test.YtjdfgefmjiiojaaTune
namespace Go.Proofs.Ytjdfgefmjiiojaa
open Go.RowKit

/-- Five cells of one block, and nothing old has turned. -/
def Five (w : World) (m e c r q : Int) (w' : World) : Prop := Up w w' ∧ w'.cell? ⟨w.heap.size, 0, none⟩ = some (.int .i64 m) ∧ w'.cell? ⟨w.heap.size, 1, none⟩ = some (.int .i64 e) ∧ w'.cell? ⟨w.heap.size, 2, none⟩ = some (.int .i64 c) ∧ w'.cell? ⟨w.heap.size, 3, none⟩ = some (.int .i64 r) ∧ w'.cell? ⟨w.heap.size, 4, none⟩ = some (.int .i64 q)
theorem five_up {w : World} {m e c r q : Int} {W W' : World} (h : Five w m e c r q W) (hu : Up W W') : Five w m e c r q W' := by
  obtain ⟨h0, h1, h2, h3, h4, h5⟩ := h
  exact ⟨h0.trans hu, cell_up hu h1, cell_up hu h2, cell_up hu h3, cell_up hu h4, cell_up hu h5⟩
theorem five_start (w : World) (m e c r q : Int) (t : TypeId) : Five w m e c r q (w.alloc (.cells #[.int .i64 m, .int .i64 e, .int .i64 c, .int .i64 r, .int .i64 q] t)).drew :=
  ⟨((Up.refl w).alloc _ _).drew, World.cell?_alloc_new _ _ _ _, World.cell?_alloc_new _ _ _ _, World.cell?_alloc_new _ _ _ _, World.cell?_alloc_new _ _ _ _, World.cell?_alloc_new _ _ _ _⟩

theorem clamp_out (m e c r q : Int) (w : World) :
    Calls Try.prog 25 #[.agg #[.int .i64 m, .int .i64 e, .int .i64 c, .int .i64 r, .int .i64 q]] w fun x w' => x = .returned (.agg #[.int .i64 (clv 0 2 m), .int .i64 (clv 1 64 e), .int .i64 (clv 0 1 c), .int .i64 (clv 1 1048576 r), .int .i64 (clv 0 2 q)]) ∧ Up w w' := clamp_any m e c r q w
theorem refclamp_out (m e c r q : Int) (w : World) :
    Calls Try.prog 26 #[.agg #[.int .i64 m, .int .i64 e, .int .i64 c, .int .i64 r, .int .i64 q]] w fun x w' => x = .returned (.agg #[.int .i64 (clv 0 2 m), .int .i64 (clv 1 64 e), .int .i64 (clv 0 1 c), .int .i64 (clv 1 1048576 r), .int .i64 (clv 0 2 q)]) ∧ Up w w' := refclamp_any m e c r q w
theorem fields35 : (Try.prog.fieldsOf 35).toList = [⟨ "Mode", 3, 0, false, "", "", 0⟩, ⟨ "Every", 3, 1, false, "", "", 8⟩, ⟨ "Cancel", 3, 2, false, "", "", 16⟩, ⟨ "Reach", 2, 3, false, "", "", 24⟩, ⟨ "Queue", 3, 4, false, "", "", 32⟩] := by kernel_rfl
def eq5 (a0 a1 a2 a3 a4 b0 b1 b2 b3 b4 : Int) : Bool := decide (a0 = b0 ∧ a1 = b1 ∧ a2 = b2 ∧ a3 = b3 ∧ a4 = b4)
theorem eq5_iff {a0 a1 a2 a3 a4 b0 b1 b2 b3 b4 : Int} : eq5 a0 a1 a2 a3 a4 b0 b1 b2 b3 b4 = true ↔ a0 = b0 ∧ a1 = b1 ∧ a2 = b2 ∧ a3 = b3 ∧ a4 = b4 := by unfold eq5; exact decide_eq_true_iff
theorem equal_five (a0 a1 a2 a3 a4 b0 b1 b2 b3 b4 : Int) (W : World) :
    (Op.equalIn 10000 35 (.agg #[.int .i64 a0, .int .i64 a1, .int .i64 a2, .int .i64 a3, .int .i64 a4]) (.agg #[.int .i64 b0, .int .i64 b1, .int .i64 b2, .int .i64 b3, .int .i64 b4])).run Try.prog W
      = .ok (eq5 a0 a1 a2 a3 a4 b0 b1 b2 b3 b4) W := by
  rw [run_equalIn_agg _ _ _ _ _ (by kernel_rfl) (by kernel_rfl), fields35]
  unfold eq5
  simp [Op.eqFields, go_sem]
  by_cases h0 : a0 = b0 <;> by_cases h1 : a1 = b1 <;> by_cases h2 : a2 = b2 <;> by_cases h3 : a3 = b3 <;> by_cases h4 : a4 = b4 <;> simp [h0, h1, h2, h3, h4]
theorem run_eq5 (a0 a1 a2 a3 a4 b0 b1 b2 b3 b4 : Int) (W : World) :
    (binOp .eql 35 (.agg #[.int .i64 a0, .int .i64 a1, .int .i64 a2, .int .i64 a3, .int .i64 a4]) (.agg #[.int .i64 b0, .int .i64 b1, .int .i64 b2, .int .i64 b3, .int .i64 b4])).run Try.prog W
      = .ok (.bool (eq5 a0 a1 a2 a3 a4 b0 b1 b2 b3 b4)) W := by
  rw [run_eql_struct, equal_five]; rfl
theorem run_ne5 (a0 a1 a2 a3 a4 b0 b1 b2 b3 b4 : Int) (W : World) :
    (binOp .neq 35 (.agg #[.int .i64 a0, .int .i64 a1, .int .i64 a2, .int .i64 a3, .int .i64 a4]) (.agg #[.int .i64 b0, .int .i64 b1, .int .i64 b2, .int .i64 b3, .int .i64 b4])).run Try.prog W
      = .ok (.bool (!eq5 a0 a1 a2 a3 a4 b0 b1 b2 b3 b4)) W := by
  rw [run_neq_struct, equal_five]; rfl
/-- May a setting be? -/
def okb (m e c r q : Int) : Bool := eq5 m e c r q (clv 0 2 m) (clv 1 64 e) (clv 0 1 c) (clv 1 1048576 r) (clv 0 2 q)
def errb (m e c r q : Int) : Int := if okb m e c r q then 0 else 1
theorem errb_yes {m e c r q : Int} (h : okb m e c r q = true) : errb m e c r q = 0 := by unfold errb; rw [if_pos h]
theorem errb_no {m e c r q : Int} (h : okb m e c r q = false) : errb m e c r q = 1 := by unfold errb; rw [h]; rfl
theorem errb_nt {m e c r q : Int} (h : (!okb m e c r q) = true) : errb m e c r q = 1 := errb_no (by simpa using h)
theorem errb_nf {m e c r q : Int} (h : (!okb m e c r q) = false) : errb m e c r q = 0 := errb_yes (by simpa using h)
theorem ret_int' {k : IntKind} {a b : Int} (h : a = b) : Ending.returned (.int k a) = .returned (.int k b) := by rw [h]

theorem okb_sym (m e c r q : Int) : eq5 (clv 0 2 m) (clv 1 64 e) (clv 0 1 c) (clv 1 1048576 r) (clv 0 2 q) m e c r q = okb m e c r q := by
  unfold okb eq5; simp only [eq_comm]
set_option maxHeartbeats 1000000 in
theorem check_any (m e c r q : Int) (w : World) :
    Calls Try.prog 23 #[.agg #[.int .i64 m, .int .i64 e, .int .i64 c, .int .i64 r, .int .i64 q]] w fun x w' => x = .returned (.int .i64 (errb m e c r q)) ∧ Up w w' := by
  have h2 := five_start w m e c r q 35
  have heq := run_eq5 m e c r q (clv 0 2 m) (clv 1 64 e) (clv 0 1 c) (clv 1 1048576 r) (clv 0 2 q)
  go_enter Try.func23, Try.ntmps23
  go_wp2_with fail
  go_region_held3 (fun w' => Up w w' ∧ w'.cell? ⟨w.heap.size, 0, none⟩ = some (.int .i64 m) ∧ w'.cell? ⟨w.heap.size, 1, none⟩ = some (.int .i64 e) ∧ w'.cell? ⟨w.heap.size, 2, none⟩ = some (.int .i64 c) ∧ w'.cell? ⟨w.heap.size, 3, none⟩ = some (.int .i64 r) ∧ w'.cell? ⟨w.heap.size, 4, none⟩ = some (.int .i64 q))
    (first | exact h2 | exact five_up (by assumption) (by assumption))
    (first | (go_at_call 25; refine (clamp_out _ _ _ _ _ _).mono ?_; rintro x wn ⟨rfl, hg⟩))
  have hu := And.left ‹Up w _ ∧ _›
  clear heq h2
  go_wp2
  · go_ret
    exact ⟨ret_int' (errb_yes ‹_›).symm, hu⟩
  · go_ret
    exact ⟨ret_int' (errb_no ‹_›).symm, hu⟩

set_option maxHeartbeats 1000000 in
theorem refcheck_any (m e c r q : Int) (w : World) :
    Calls Try.prog 24 #[.agg #[.int .i64 m, .int .i64 e, .int .i64 c, .int .i64 r, .int .i64 q]] w fun x w' => x = .returned (.int .i64 (errb m e c r q)) ∧ Up w w' := by
  have h2 := five_start w m e c r q 35
  have heq := run_ne5 (clv 0 2 m) (clv 1 64 e) (clv 0 1 c) (clv 1 1048576 r) (clv 0 2 q) m e c r q
  rw [okb_sym] at heq
  go_enter Try.func24, Try.ntmps24
  go_wp2_with fail
  go_region_held3 (fun w' => Up w w' ∧ w'.cell? ⟨w.heap.size, 0, none⟩ = some (.int .i64 m) ∧ w'.cell? ⟨w.heap.size, 1, none⟩ = some (.int .i64 e) ∧ w'.cell? ⟨w.heap.size, 2, none⟩ = some (.int .i64 c) ∧ w'.cell? ⟨w.heap.size, 3, none⟩ = some (.int .i64 r) ∧ w'.cell? ⟨w.heap.size, 4, none⟩ = some (.int .i64 q))
    (first | exact h2 | exact five_up (by assumption) (by assumption))
    (first | (go_at_call 26; refine (refclamp_out _ _ _ _ _ _).mono ?_; rintro x wn ⟨rfl, hg⟩))
  have hu := And.left ‹Up w _ ∧ _›
  clear heq h2
  go_wp2
  · go_ret
    exact ⟨ret_int' (errb_nt ‹_›).symm, hu⟩
  · go_ret
    exact ⟨ret_int' (errb_nf ‹_›).symm, hu⟩

theorem errb_first : errb 2 4 0 1000 0 = 0 := errb_yes (by decide +kernel)
set_option maxHeartbeats 1000000 in
theorem awake16_any (w : World) :
    Calls Try.prog 29 #[] w fun x w' => x = .returned (.bool true) ∧ Up w w' := by
  have hfl : ∀ W : World, (Instr.field 35 (.agg #[.int .i64 2, .int .i64 4, .int .i64 0, .int .i64 1000, .int .i64 0]) 3).run Try.prog W = .ok (.int .i64 1000) W := fun _ => by kernel_rfl
  go_enter Try.func29, Try.ntmps29
  go_wp2_with fail
  refine (first_any _).mono ?_
  rintro e w1 ⟨rfl, h1⟩
  go_wp2_with fail
  refine (check_any _ _ _ _ _ _).mono ?_
  rintro e w2 ⟨rfl, h2⟩
  rw [errb_first]
  go_wp2_with fail
  refine (first_any _).mono ?_
  rintro e w3 ⟨rfl, h3⟩
  go_wp2
  go_ret
  exact ⟨rfl, (h1.trans h2).trans h3⟩
end Go.Proofs.Ytjdfgefmjiiojaa
