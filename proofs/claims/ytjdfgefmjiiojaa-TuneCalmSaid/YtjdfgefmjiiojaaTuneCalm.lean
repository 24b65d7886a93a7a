/- The law TuneCalm returns true for every input: its walk through the contracts of package tune, in the shape of the kit's shell of a row's proof. No condition. -/
import Derived.Test.YtjdfgefmjiiojaaRows
import Derived.Test.YtjdfgefmjiiojaaTuneOpen
import Derived.Test.YtjdfgefmjiiojaaTuneF
import Derived.WalkKit
import Derived.ProofKit
import Derived.OpenShut
import Derived.Lib.Hide
import Derived.Deep.DeepCutAuto
import Derived.Deep.RegionHeld3
namespace Go.Proofs.Ytjdfgefmjiiojaa.tuneCalm
open Go.ChangeShapes Go.WideShapes Go.ChangeAt Go.RowKit
set_option linter.unusedVariables false

theorem own : ownKnob Try.prog.godebug = none := by kernel_rfl
theorem laidOut : laidOutB Try.prog = true := by kernel_rfl

theorem num_zero : num 0 = 0 := by decide
theorem num_nat {n : Int} (h : 0 ≤ n) (h' : n ≤ 65536) : num n = n := clv_id h (by omega)
theorem te_up (e n : Int) : te e n 0 = clv 1 64 (clv 1 64 e + 1) := by
  unfold te evv; rw [num_zero, if_neg (by have := (num_in n).1; omega)]
theorem tr_up (r n : Int) : tr r n 0 = clv 1 1048576 (2 * clv 1 1048576 r) := by
  unfold tr rev; rw [num_zero, if_neg (by have := (num_in n).1; omega)]
theorem te_down (e n : Int) (h : 0 ≤ n) (h' : n ≤ 65535) : te e n (n + 1) = clv 1 64 (clv 1 64 e / 2) := by
  unfold te evv; rw [num_nat h (by omega), num_nat (n := n + 1) (by omega) (by omega), if_pos (by omega)]
theorem tr_down (r n : Int) (h : 0 ≤ n) (h' : n ≤ 65535) : tr r n (n + 1) = clv 1 1048576 (clv 1 1048576 r / 2) := by
  unfold tr rev; rw [num_nat h (by omega), num_nat (n := n + 1) (by omega) (by omega), if_pos (by omega)]
theorem tc_zero (u : Int) : tc u 0 = 0 := by
  unfold tc cav; rw [num_zero, if_neg (by omega)]
theorem tq_zero : tq 0 = 0 := by decide
/-- Behind i turns with nothing taken back. -/
def CA (i : Nat) (e c r q : Int) : Prop := 0 < i → 1 ≤ e ∧ e ≤ 64 ∧ ((i : Int) + 1 ≤ e ∨ e = 64) ∧ c = 0 ∧ 1 ≤ r ∧ r ≤ 1048576 ∧ ((2 : Int) ^ i ≤ r ∨ r = 1048576) ∧ q = 0
/-- Behind i turns with all taken back. -/
def CB (i : Nat) (e c r : Int) : Prop := 0 < i → 1 ≤ e ∧ e ≤ 64 ∧ (e + (i : Int) ≤ 65 ∨ e = 1) ∧ c = 0 ∧ 1 ≤ r ∧ (r ≤ (1048576 : Int) / 2 ^ i ∨ r = 1)
theorem clv_cases (lo hi n : Int) (h : lo ≤ hi) : lo ≤ clv lo hi n ∧ clv lo hi n ≤ hi ∧ (clv lo hi n = n ∨ n < lo ∧ clv lo hi n = lo ∨ hi < n ∧ clv lo hi n = hi) := by
  unfold clv mnv mxv; (repeat' split) <;> omega
theorem CA.step {i : Nat} {e c r q : Int} (n : Int) (k : CA i e c r q) : CA (i + 1) (te e n 0) (tc 0 0) (tr r n 0) (tq 0) := by
  intro _
  rw [te_up, tr_up, tc_zero, tq_zero]
  have h1 := clv_cases 1 64 e (by decide)
  have h2 := clv_cases 1 64 (clv 1 64 e + 1) (by decide)
  have h3 := clv_cases 1 1048576 r (by decide)
  have h4 := clv_cases 1 1048576 (2 * clv 1 1048576 r) (by decide)
  have hp : (2 : Int) ^ (i + 1) = 2 * 2 ^ i := by rw [Int.pow_succ]; omega
  have hi : ((i + 1 : Nat) : Int) = (i : Int) + 1 := rfl
  have hz : i = 0 → (2 : Int) ^ i = 1 := by intro h; rw [h]; rfl
  rw [hp, hi]
  unfold CA at k
  generalize (2 : Int) ^ i = p at *
  generalize clv 1 64 (clv 1 64 e + 1) = e2 at *
  generalize clv 1 64 e = e1 at *
  generalize clv 1 1048576 (2 * clv 1 1048576 r) = r2 at *
  generalize clv 1 1048576 r = r1 at *
  rcases Nat.eq_zero_or_pos i with h0 | h0
  · have g := hz h0
    refine ⟨?_, ?_, ?_, rfl, ?_, ?_, ?_, rfl⟩ <;> omega
  · have g := k h0
    refine ⟨?_, ?_, ?_, rfl, ?_, ?_, ?_, rfl⟩ <;> omega
theorem CB.step {i : Nat} {e c r : Int} (n : Int) (hn : 0 ≤ n) (hn' : n ≤ 65535) (k : CB i e c r) : CB (i + 1) (te e n (n + 1)) (tc (n + 1) 0) (tr r n (n + 1)) := by
  intro _
  rw [te_down _ _ hn hn', tr_down _ _ hn hn', tc_zero]
  have h1 := clv_cases 1 64 e (by decide)
  have h2 := clv_cases 1 64 (clv 1 64 e / 2) (by decide)
  have h3 := clv_cases 1 1048576 r (by decide)
  have h4 := clv_cases 1 1048576 (clv 1 1048576 r / 2) (by decide)
  have hi : ((i + 1 : Nat) : Int) = (i : Int) + 1 := rfl
  have hp : (1048576 : Int) / 2 ^ (i + 1) = 1048576 / 2 ^ i / 2 := by
    rw [Int.pow_succ, Int.ediv_ediv, if_neg (by have h2 : (0 : Int) ≤ 2 ^ i := Int.pow_nonneg (by decide); omega)]
    omega
  rw [hp, hi]
  rcases Nat.eq_zero_or_pos i with h0 | h0
  · subst h0
    simp
    omega
  · have g := k h0
    generalize (1048576 : Int) / 2 ^ i = p at *
    refine ⟨?_, ?_, ?_, rfl, ?_, ?_⟩ <;> omega
theorem CA.last {e c r q : Int} (k : CA 100 e c r q) : e = 64 ∧ c = 0 ∧ r = 1048576 ∧ q = 0 := by
  obtain ⟨h1, h2, h3, h4, h5, h6, h7, h8⟩ := k (by decide)
  have hp : (2 : Int) ^ 100 = 1267650600228229401496703205376 := by decide
  rw [hp] at h7
  refine ⟨?_, h4, ?_, h8⟩ <;> omega
theorem CB.last {e c r : Int} (k : CB 100 e c r) : e = 1 ∧ c = 0 ∧ r = 1 := by
  obtain ⟨h1, h2, h3, h4, h5, h6⟩ := k (by decide)
  have hp : (1048576 : Int) / 2 ^ 100 = 0 := by decide
  rw [hp] at h6
  refine ⟨?_, h4, ?_⟩ <;> omega

/-- What the loop holds of memory: both settings. -/
structure TC (w : World) (am ae ac ar aq bm be bc br bq : Int) (wr : World) : Prop where
  up : Up w wr
  a0 : wr.cell? ⟨w.heap.size + 1, 0, none⟩ = some (.int .i64 am)
  a1 : wr.cell? ⟨w.heap.size + 1, 1, none⟩ = some (.int .i64 ae)
  a2 : wr.cell? ⟨w.heap.size + 1, 2, none⟩ = some (.int .i64 ac)
  a3 : wr.cell? ⟨w.heap.size + 1, 3, none⟩ = some (.int .i64 ar)
  a4 : wr.cell? ⟨w.heap.size + 1, 4, none⟩ = some (.int .i64 aq)
  b0 : wr.cell? ⟨w.heap.size + 1 + 1, 0, none⟩ = some (.int .i64 bm)
  b1 : wr.cell? ⟨w.heap.size + 1 + 1, 1, none⟩ = some (.int .i64 be)
  b2 : wr.cell? ⟨w.heap.size + 1 + 1, 2, none⟩ = some (.int .i64 bc)
  b3 : wr.cell? ⟨w.heap.size + 1 + 1, 3, none⟩ = some (.int .i64 br)
  b4 : wr.cell? ⟨w.heap.size + 1 + 1, 4, none⟩ = some (.int .i64 bq)
theorem TC.later {w : World} {am ae ac ar aq bm be bc br bq : Int} {wr : World} (k : TC w am ae ac ar aq bm be bc br bq wr) {wn : World} (g : Up wr wn) : TC w am ae ac ar aq bm be bc br bq wn := ⟨k.up.trans g, cell_up g k.a0, cell_up g k.a1, cell_up g k.a2, cell_up g k.a3, cell_up g k.a4, cell_up g k.b0, cell_up g k.b1, cell_up g k.b2, cell_up g k.b3, cell_up g k.b4⟩
theorem TC.setA {w : World} {am ae ac ar aq bm be bc br bq : Int} {wr : World} (k : TC w am ae ac ar aq bm be bc br bq wr) (m e c r q : Int) : TC w m e c r q bm be bc br bq (((((wr.setCell ⟨w.heap.size + 1, 0, none⟩ (.int .i64 m)).setCell ⟨w.heap.size + 1, 1, none⟩ (.int .i64 e)).setCell ⟨w.heap.size + 1, 2, none⟩ (.int .i64 c)).setCell ⟨w.heap.size + 1, 3, none⟩ (.int .i64 r)).setCell ⟨w.heap.size + 1, 4, none⟩ (.int .i64 q)) :=
  ⟨(((((k.up.setCell (p := ⟨w.heap.size + 1, 0, none⟩) (by simp; try omega) _).setCell (p := ⟨w.heap.size + 1, 1, none⟩) (by simp; try omega) _).setCell (p := ⟨w.heap.size + 1, 2, none⟩) (by simp; try omega) _).setCell (p := ⟨w.heap.size + 1, 3, none⟩) (by simp; try omega) _).setCell (p := ⟨w.heap.size + 1, 4, none⟩) (by simp; try omega) _), (cell_off (by decide)).trans ((cell_off (by decide)).trans ((cell_off (by decide)).trans ((cell_off (by decide)).trans (World.cell?_setCell_same _ _ _ (k.a0))))), (cell_off (by decide)).trans ((cell_off (by decide)).trans ((cell_off (by decide)).trans (World.cell?_setCell_same _ _ _ ((cell_off (by decide)).trans (k.a1))))), (cell_off (by decide)).trans ((cell_off (by decide)).trans (World.cell?_setCell_same _ _ _ ((cell_off (by decide)).trans ((cell_off (by decide)).trans (k.a2))))), (cell_off (by decide)).trans (World.cell?_setCell_same _ _ _ ((cell_off (by decide)).trans ((cell_off (by decide)).trans ((cell_off (by decide)).trans (k.a3))))), World.cell?_setCell_same _ _ _ ((cell_off (by decide)).trans ((cell_off (by decide)).trans ((cell_off (by decide)).trans ((cell_off (by decide)).trans (k.a4))))), (cell_other (by simp; try omega)).trans ((cell_other (by simp; try omega)).trans ((cell_other (by simp; try omega)).trans ((cell_other (by simp; try omega)).trans ((cell_other (by simp; try omega)).trans (k.b0))))), (cell_other (by simp; try omega)).trans ((cell_other (by simp; try omega)).trans ((cell_other (by simp; try omega)).trans ((cell_other (by simp; try omega)).trans ((cell_other (by simp; try omega)).trans (k.b1))))), (cell_other (by simp; try omega)).trans ((cell_other (by simp; try omega)).trans ((cell_other (by simp; try omega)).trans ((cell_other (by simp; try omega)).trans ((cell_other (by simp; try omega)).trans (k.b2))))), (cell_other (by simp; try omega)).trans ((cell_other (by simp; try omega)).trans ((cell_other (by simp; try omega)).trans ((cell_other (by simp; try omega)).trans ((cell_other (by simp; try omega)).trans (k.b3))))), (cell_other (by simp; try omega)).trans ((cell_other (by simp; try omega)).trans ((cell_other (by simp; try omega)).trans ((cell_other (by simp; try omega)).trans ((cell_other (by simp; try omega)).trans (k.b4)))))⟩
theorem TC.setB {w : World} {am ae ac ar aq bm be bc br bq : Int} {wr : World} (k : TC w am ae ac ar aq bm be bc br bq wr) (m e c r q : Int) : TC w am ae ac ar aq m e c r q (((((wr.setCell ⟨w.heap.size + 1 + 1, 0, none⟩ (.int .i64 m)).setCell ⟨w.heap.size + 1 + 1, 1, none⟩ (.int .i64 e)).setCell ⟨w.heap.size + 1 + 1, 2, none⟩ (.int .i64 c)).setCell ⟨w.heap.size + 1 + 1, 3, none⟩ (.int .i64 r)).setCell ⟨w.heap.size + 1 + 1, 4, none⟩ (.int .i64 q)) :=
  ⟨(((((k.up.setCell (p := ⟨w.heap.size + 1 + 1, 0, none⟩) (by simp; try omega) _).setCell (p := ⟨w.heap.size + 1 + 1, 1, none⟩) (by simp; try omega) _).setCell (p := ⟨w.heap.size + 1 + 1, 2, none⟩) (by simp; try omega) _).setCell (p := ⟨w.heap.size + 1 + 1, 3, none⟩) (by simp; try omega) _).setCell (p := ⟨w.heap.size + 1 + 1, 4, none⟩) (by simp; try omega) _), (cell_other (by simp; try omega)).trans ((cell_other (by simp; try omega)).trans ((cell_other (by simp; try omega)).trans ((cell_other (by simp; try omega)).trans ((cell_other (by simp; try omega)).trans (k.a0))))), (cell_other (by simp; try omega)).trans ((cell_other (by simp; try omega)).trans ((cell_other (by simp; try omega)).trans ((cell_other (by simp; try omega)).trans ((cell_other (by simp; try omega)).trans (k.a1))))), (cell_other (by simp; try omega)).trans ((cell_other (by simp; try omega)).trans ((cell_other (by simp; try omega)).trans ((cell_other (by simp; try omega)).trans ((cell_other (by simp; try omega)).trans (k.a2))))), (cell_other (by simp; try omega)).trans ((cell_other (by simp; try omega)).trans ((cell_other (by simp; try omega)).trans ((cell_other (by simp; try omega)).trans ((cell_other (by simp; try omega)).trans (k.a3))))), (cell_other (by simp; try omega)).trans ((cell_other (by simp; try omega)).trans ((cell_other (by simp; try omega)).trans ((cell_other (by simp; try omega)).trans ((cell_other (by simp; try omega)).trans (k.a4))))), (cell_off (by decide)).trans ((cell_off (by decide)).trans ((cell_off (by decide)).trans ((cell_off (by decide)).trans (World.cell?_setCell_same _ _ _ (k.b0))))), (cell_off (by decide)).trans ((cell_off (by decide)).trans ((cell_off (by decide)).trans (World.cell?_setCell_same _ _ _ ((cell_off (by decide)).trans (k.b1))))), (cell_off (by decide)).trans ((cell_off (by decide)).trans (World.cell?_setCell_same _ _ _ ((cell_off (by decide)).trans ((cell_off (by decide)).trans (k.b2))))), (cell_off (by decide)).trans (World.cell?_setCell_same _ _ _ ((cell_off (by decide)).trans ((cell_off (by decide)).trans ((cell_off (by decide)).trans (k.b3))))), World.cell?_setCell_same _ _ _ ((cell_off (by decide)).trans ((cell_off (by decide)).trans ((cell_off (by decide)).trans ((cell_off (by decide)).trans (k.b4)))))⟩
theorem TC.freeA {w : World} {am ae ac ar aq bm be bc br bq : Int} {wr : World} (k : TC w am ae ac ar aq bm be bc br bq wr) (i : Nat) : wr.frozen? ⟨w.heap.size + 1, i, none⟩ = false := (k.up.2 _).trans (frozen_new _ _ (by simp))
theorem TC.freeB {w : World} {am ae ac ar aq bm be bc br bq : Int} {wr : World} (k : TC w am ae ac ar aq bm be bc br bq wr) (i : Nat) : wr.frozen? ⟨w.heap.size + 1 + 1, i, none⟩ = false := (k.up.2 _).trans (frozen_new _ _ (by simp; omega))

set_option maxHeartbeats 4000000 in
theorem walk (m e c r q : Int) (bm : I64 m) (be : I64 e) (bc : I64 c) (br : I64 r) (bq : I64 q) (n : Int) (bn : 0 ≤ n ∧ n ≤ 65535) (w : World) :
    Calls Try.prog 12 #[.agg #[.int .i64 m, .int .i64 e, .int .i64 c, .int .i64 r, .int .i64 q], .int .u16 n] w fun x w' => x = .returned (.bool true) ∧ Up w w' := by
  clear bm be bc br bq
  obtain ⟨bn1, bn2⟩ := bn
  have st : TC w m e c r q m e c r q (((w.alloc (.cells #[.int .i64 m, .int .i64 e, .int .i64 c, .int .i64 r, .int .i64 q] 35)).alloc (.cells #[.int .i64 m, .int .i64 e, .int .i64 c, .int .i64 r, .int .i64 q] 35)).alloc (.cells #[.int .i64 m, .int .i64 e, .int .i64 c, .int .i64 r, .int .i64 q] 35)) :=
    ⟨(((Up.refl w).alloc _ _).alloc _ _).alloc _ _, cell_up (alloc_up _ _ _) (World.cell?_alloc_at _ _ _ _ (by simp)), cell_up (alloc_up _ _ _) (World.cell?_alloc_at _ _ _ _ (by simp)), cell_up (alloc_up _ _ _) (World.cell?_alloc_at _ _ _ _ (by simp)), cell_up (alloc_up _ _ _) (World.cell?_alloc_at _ _ _ _ (by simp)), cell_up (alloc_up _ _ _) (World.cell?_alloc_at _ _ _ _ (by simp)), World.cell?_alloc_at _ _ _ _ (by simp), World.cell?_alloc_at _ _ _ _ (by simp), World.cell?_alloc_at _ _ _ _ (by simp), World.cell?_alloc_at _ _ _ _ (by simp), World.cell?_alloc_at _ _ _ _ (by simp)⟩
  go_enter Try.func12, Try.ntmps12
  go_wp2_with fail
  go_loopw [7] (fun x wr => ∃ k : Nat, k ≤ 100 ∧ x = .int .i64 k ∧ ∃ am ae ac ar aq bm be bc br bq : Int, CA k ae ac ar aq ∧ CB k be bc br ∧ TC w am ae ac ar aq bm be bc br bq wr) (fun x _ => 100 - (intOf x).toNat)
  case atStart => exact ⟨0, Nat.zero_le _, rfl, m, e, c, r, q, m, e, c, r, q, fun h => absurd h (by decide), fun h => absurd h (by decide), st⟩
  case round =>
    clear st
    obtain ⟨k, hk, rfl, am, ae, ac, ar, aq, bm, be, bc, br, bq, ka, kb, kt⟩ := hrel
    by_cases hlt : k < 100
    · have ka2 := ka.step n
      have kb2 := kb.step n bn1 bn2
      have c0 := kt.a0
      have c1 := kt.a1
      have c2 := kt.a2
      have c3 := kt.a3
      have c4 := kt.a4
      have HA := Lib.hid ka2
      have HB := Lib.hid kb2
      clear ka kb ka2 kb2
      go_wp2_with fail
      refine (turn_out _ _ _ _ _ _ _ _ _ _).mono ?_
      rintro x w1 ⟨rfl, g1⟩
      have k1 := kt.later g1
      clear c0 c1 c2 c3 c4 kt g1
      have d0 := k1.a0
      have d1 := k1.a1
      have d2 := k1.a2
      have d3 := k1.a3
      have d4 := k1.a4
      have df := k1.freeA
      have k2 := k1.setA (tm am) (te ae n 0) (tc 0 0) (tr ar n 0) (tq 0)
      have c0 := k2.b0
      have c1 := k2.b1
      have c2 := k2.b2
      have c3 := k2.b3
      have c4 := k2.b4
      go_wp2_with fail
      refine (turn_out _ _ _ _ _ _ _ _ _ _).mono ?_
      rintro x w2 ⟨rfl, g2⟩
      have k3 := k2.later g2
      clear c0 c1 c2 c3 c4 d0 d1 d2 d3 d4 df k1 k2 g2
      have d0 := k3.b0
      have d1 := k3.b1
      have d2 := k3.b2
      have d3 := k3.b3
      have d4 := k3.b4
      have df := k3.freeB
      have k4 := k3.setB (tm bm) (te be n (n + 1)) (tc (n + 1) 0) (tr br n (n + 1)) (tq 0)
      go_wp2
      go_roundw
      case rel => exact ⟨k + 1, by omega, by go_num, _, _, _, _, _, _, _, _, _, _, HA.out, HB.out, k4⟩
      case measure => simp [intOf]; omega
    · obtain rfl : k = 100 := by omega
      obtain ⟨e1, e2, e3, e4⟩ := ka.last
      obtain ⟨f1, f2, f3⟩ := kb.last
      subst e1 e2 e3 e4 f1 f2 f3
      have c1 := kt.a1
      have c2 := kt.a2
      have c3 := kt.a3
      have c4 := kt.a4
      have d1 := kt.b1
      have d2 := kt.b2
      have d3 := kt.b3
      have hu := kt.up
      clear ka kb kt
      go_wp2
      go_ret
      exact ⟨rfl, hu⟩

set_option maxRecDepth 100000 in
theorem lifted (os : Os) (started : os.Started) (H : Type) (enc : TypeId × Value → H) :
    ReturnsInHanded {} Try.checked os 12 .any (Rows.tuneCalmSpec.pre6 enc Try.prog Try.f12 Rows.tuneCalmRow.domain false) (Rows.tuneCalmSpec.post enc Try.prog Try.f12 false true false false) := by
  refine returnsInHanded_of_change (C := Try.checked) own started (by kernel_rfl) Try.func12
    (ChangeSpec.witness6 (enc := enc) (C := Try.checked) false ⟨#[], #[.agg #[.int .i64 0, .int .i64 0, .int .i64 0, .int .i64 0, .int .i64 0], .int .u16 0], []⟩ 8 (by kernel_rfl) (by kernel_rfl) (by kernel_rfl) (by kernel_rfl)) ?_
  intro W base args ds gs before hval0 hW hcnd _
  have hval : ∀ (j : Nat) t v, Try.f12.params[j]? = some t → args[j]? = some v → Value.okWide Try.prog W .any base t v := hval0
  have hW' := hW
  obtain ⟨p, q, hA0, hV, rfl, hfz, hnd⟩ := hW
  have hA : DataW.TrodAll enc Try.prog W 0 (fun _ => true) true Try.f12.params.toList args.toList ds p := hA0
  rw [Try.params12] at hA hval
  obtain ⟨v0, vs0, d0, ds0, p0, q0, hargs, rfl, rfl, h0, r0⟩ := trodAll_cons hA
  obtain ⟨v1, vs1, d1, ds1, p1, q1, rfl, rfl, rfl, h1, r1⟩ := trodAll_cons r0
  obtain ⟨rfl, rfl, rfl⟩ := trodAll_nil r1
  obtain rfl : args = #[v0, v1] := by cases args; simp_all
  obtain ⟨rfl, rfl⟩ := trodVars_none hV
  have k0 := h0
  have lt0 : ∀ x ∈ p0, x.block < W.heap.size := by obtain ⟨n, hn⟩ := k0; exact DataW.trod_lt n _ _ _ hn
  obtain ⟨m, e, c, r, q, rfl, bm, be, bc, br, bq⟩ := open_setting (hval 0 35 v0 rfl rfl) h0
  have k1 := h1
  have lt1 : ∀ x ∈ p1, x.block < W.heap.size := by obtain ⟨n, hn⟩ := k1; exact DataW.trod_lt n _ _ _ hn
  obtain ⟨n, rfl, rfl, rfl, wn⟩ := open_int Try.underlying32 (hval 1 32 v1 rfl rfl) h1
  have bn : 0 ≤ n ∧ n ≤ 65535 := by simpa [Lit.wf, IntKind.min, IntKind.max, IntKind.signed, IntKind.bits] using wn
  clear hA0 hval0
  refine (walk m e c r q bm be bc br bq n bn W).mono fun e W' ⟨he, hu⟩ => ?_
  subst he
  exact ⟨_, rfl, _, _, _, [], _, [], hW', trodAll_mk1 (shut_bool Try.underlying4 _), (trodAll_cons_mk (Below.trod laidOut (by kernel_rfl) (of_decide_eq_true (by kernel_rfl)) k0 hu.1 lt0) (trodAll_cons_mk (Below.trod laidOut (by kernel_rfl) (of_decide_eq_true (by kernel_rfl)) k1 hu.1 lt1) trodAll_mk0)), rfl, hu.1.frame _, fun h => by cases h⟩

theorem over : Rows.tuneCalmRow.holds Try.pinned (OpenSpec.ofChange Rows.tuneCalmSpec) :=
  OpenClaim.holds_of_wide 12 Try.f12 rfl rfl rfl rfl rfl rfl rfl ⟨rfl, rfl, rfl, rfl, rfl⟩ rfl rfl rfl rfl rfl (by kernel_rfl) Try.func12 (by kernel_rfl)
    (of_decide_eq_true (by kernel_rfl)) (by unfold Func.isWrapper; first | (rw [if_pos (by decide +kernel)]; kernel_rfl) | (rw [if_neg (by decide +kernel)]; exact ⟨rfl, rfl⟩))
    (fun os started H enc _ => lifted os started H enc)

theorem proved : Rows.TuneCalmSaid := over
#print axioms proved
end Go.Proofs.Ytjdfgefmjiiojaa.tuneCalm
