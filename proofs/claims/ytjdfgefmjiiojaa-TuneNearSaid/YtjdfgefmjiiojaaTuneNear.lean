/- The law TuneNear returns true for every input: its walk through the contracts of package tune, in the shape of the kit's shell of a row's proof. No condition. -/
import Derived.Test.YtjdfgefmjiiojaaRows
import Derived.Test.YtjdfgefmjiiojaaTuneOpen
import Derived.Test.YtjdfgefmjiiojaaTuneB
import Derived.WalkKit
import Derived.ProofKit
import Derived.OpenShut
import Derived.Deep.DeepCutAuto
import Derived.Deep.RegionHeld3
namespace Go.Proofs.Ytjdfgefmjiiojaa.tuneNear
open Go.ChangeShapes Go.WideShapes Go.ChangeAt Go.RowKit
set_option linter.unusedVariables false

theorem own : ownKnob Try.prog.godebug = none := by kernel_rfl
theorem laidOut : laidOutB Try.prog = true := by kernel_rfl

theorem near_facts (lo hi n : Int) (h : lo ≤ hi) : (n < lo → clv lo hi n = lo) ∧ (hi < n → clv lo hi n = hi) := by
  unfold clv mnv mxv
  constructor <;> intro hn <;> (repeat' split) <;> omega
/-- What is held of memory: the argument's five cells, and the clamped one's. -/
def Two (w : World) (C : Nat) (m e c r q : Int) (w' : World) : Prop :=
  Up w w' ∧ w'.cell? ⟨w.heap.size, 0, none⟩ = some (.int .i64 m) ∧ w'.cell? ⟨w.heap.size, 1, none⟩ = some (.int .i64 e) ∧ w'.cell? ⟨w.heap.size, 2, none⟩ = some (.int .i64 c) ∧ w'.cell? ⟨w.heap.size, 3, none⟩ = some (.int .i64 r) ∧ w'.cell? ⟨w.heap.size, 4, none⟩ = some (.int .i64 q) ∧
    w'.cell? ⟨C, 0, none⟩ = some (.int .i64 (clv 0 2 m)) ∧ w'.cell? ⟨C, 1, none⟩ = some (.int .i64 (clv 1 64 e)) ∧ w'.cell? ⟨C, 2, none⟩ = some (.int .i64 (clv 0 1 c)) ∧ w'.cell? ⟨C, 3, none⟩ = some (.int .i64 (clv 1 1048576 r)) ∧ w'.cell? ⟨C, 4, none⟩ = some (.int .i64 (clv 0 2 q))
theorem two_start {w w1 : World} {m e c r q : Int} (h1 : Up (w.alloc (.cells #[.int .i64 m, .int .i64 e, .int .i64 c, .int .i64 r, .int .i64 q] 35)) w1) :
    Two w w1.heap.size m e c r q (w1.alloc (.cells #[.int .i64 (clv 0 2 m), .int .i64 (clv 1 64 e), .int .i64 (clv 0 1 c), .int .i64 (clv 1 1048576 r), .int .i64 (clv 0 2 q)] 35)) := by
  have hz : w.heap.size < w1.heap.size := by have := h1.1.size; simp at this; omega
  have hu : Up w1 (w1.alloc (.cells #[.int .i64 (clv 0 2 m), .int .i64 (clv 1 64 e), .int .i64 (clv 0 1 c), .int .i64 (clv 1 1048576 r), .int .i64 (clv 0 2 q)] 35)) := (Up.refl _).alloc _ _
  exact ⟨(((Up.refl w).alloc _ _).trans h1).trans hu, cell_up (h1.trans hu) (World.cell?_alloc_new _ _ _ _), cell_up (h1.trans hu) (World.cell?_alloc_new _ _ _ _), cell_up (h1.trans hu) (World.cell?_alloc_new _ _ _ _), cell_up (h1.trans hu) (World.cell?_alloc_new _ _ _ _), cell_up (h1.trans hu) (World.cell?_alloc_new _ _ _ _),
    World.cell?_alloc_new _ _ _ _, World.cell?_alloc_new _ _ _ _, World.cell?_alloc_new _ _ _ _, World.cell?_alloc_new _ _ _ _, World.cell?_alloc_new _ _ _ _⟩

/-- What is held of memory while the last line is computed. -/
def Near (w : World) (C D : Nat) (e c r q : Int) (w' : World) : Prop :=
  Up w w' ∧ w'.cell? ⟨D, 0, none⟩ = some (.int .i64 1) ∧ w'.cell? ⟨D, 1, none⟩ = some (.int .i64 e) ∧ w'.cell? ⟨D, 2, none⟩ = some (.int .i64 c) ∧ w'.cell? ⟨D, 3, none⟩ = some (.int .i64 r) ∧ w'.cell? ⟨D, 4, none⟩ = some (.int .i64 q) ∧
    w'.cell? ⟨C, 1, none⟩ = some (.int .i64 (clv 1 64 e)) ∧ w'.cell? ⟨C, 3, none⟩ = some (.int .i64 (clv 1 1048576 r))
theorem near_up {w : World} {C D : Nat} {e c r q : Int} {W W' : World} (h : Near w C D e c r q W) (hu : Up W W') : Near w C D e c r q W' := by
  obtain ⟨h0, h1, h2, h3, h4, h5, h6, h7⟩ := h
  exact ⟨h0.trans hu, cell_up hu h1, cell_up hu h2, cell_up hu h3, cell_up hu h4, cell_up hu h5, cell_up hu h6, cell_up hu h7⟩
theorem near_start {w W : World} {C : Nat} {e c r q : Int} (g0 : Up w W) (b1 : W.cell? ⟨C, 1, none⟩ = some (.int .i64 (clv 1 64 e))) (b3 : W.cell? ⟨C, 3, none⟩ = some (.int .i64 (clv 1 1048576 r))) :
    Near w C W.heap.size e c r q (W.alloc (.cells #[.int .i64 1, .int .i64 e, .int .i64 c, .int .i64 r, .int .i64 q] 35)).drew := by
  have hu : Up W (W.alloc (.cells #[.int .i64 1, .int .i64 e, .int .i64 c, .int .i64 r, .int .i64 q] 35)).drew := ((Up.refl _).alloc _ _).drew
  exact ⟨g0.trans hu, World.cell?_alloc_new _ _ _ _, World.cell?_alloc_new _ _ _ _, World.cell?_alloc_new _ _ _ _, World.cell?_alloc_new _ _ _ _, World.cell?_alloc_new _ _ _ _, cell_up hu b1, cell_up hu b3⟩

set_option maxRecDepth 100000 in
set_option maxHeartbeats 4000000 in
theorem walk (m e c r q : Int) (bm : I64 m) (be : I64 e) (bc : I64 c) (br : I64 r) (bq : I64 q) (w : World) :
    Calls Try.prog 11 #[.agg #[.int .i64 m, .int .i64 e, .int .i64 c, .int .i64 r, .int .i64 q]] w fun x w' => x = .returned (.bool true) ∧ Up w w' := by
  clear bm be bc br bq
  obtain ⟨m0, m1⟩ := near_facts 0 2 m (by decide)
  obtain ⟨e0, e1⟩ := near_facts 1 64 e (by decide)
  obtain ⟨c0, c1⟩ := near_facts 0 1 c (by decide)
  obtain ⟨r0, r1⟩ := near_facts 1 1048576 r (by decide)
  obtain ⟨q0, q1⟩ := near_facts 0 2 q (by decide)
  go_enter Try.func11, Try.ntmps11
  go_wp2_with fail
  refine (clamp_out _ _ _ _ _ _).mono ?_
  rintro x w1 ⟨rfl, h1⟩
  go_upto_region 2 with fail
  have g := two_start h1
  clear h1
  generalize w1.alloc (.cells #[.int .i64 (clv 0 2 m), .int .i64 (clv 1 64 e), .int .i64 (clv 0 1 c), .int .i64 (clv 1 1048576 r), .int .i64 (clv 0 2 q)] 35) = W at g ⊢
  generalize w1.heap.size = C at g ⊢
  obtain ⟨g0, a0, a1, a2, a3, a4, b0, b1, b2, b3, b4⟩ := g
  go_cut [64] (fun s wx => s = .bool false ∧ W = wx)
  case first =>
    clear r0 r1 q0 q1
    go_wp2
    all_goals (go_meet; exact ⟨rfl, rfl⟩)
  case rest =>
    obtain ⟨rfl, rfl⟩ := hcut
    go_upto_region 4 with fail
    go_cut [102] (fun s wx => s = .bool false ∧ W = wx)
    case first =>
      clear m0 m1 e0 e1 c0 c1
      go_wp2
      all_goals (go_meet; exact ⟨rfl, rfl⟩)
    case rest =>
      obtain ⟨rfl, rfl⟩ := hcut
      clear m0 m1 e0 e1 c0 c1 r0 r1 q0 q1
      go_upto_region 8 with fail
      have h2 := near_start (c := c) (q := q) g0 b1 b3
      have hf0 : ∀ (x0 x1 x2 x3 x4 : Int) (W : World), (Instr.field 35 (.agg #[.int .i64 x0, .int .i64 x1, .int .i64 x2, .int .i64 x3, .int .i64 x4]) 0).run Try.prog W = .ok (.int .i64 x0) W := fun _ _ _ _ _ _ => by kernel_rfl
      have hf1 : ∀ (x0 x1 x2 x3 x4 : Int) (W : World), (Instr.field 35 (.agg #[.int .i64 x0, .int .i64 x1, .int .i64 x2, .int .i64 x3, .int .i64 x4]) 1).run Try.prog W = .ok (.int .i64 x1) W := fun _ _ _ _ _ _ => by kernel_rfl
      have hf3 : ∀ (x0 x1 x2 x3 x4 : Int) (W : World), (Instr.field 35 (.agg #[.int .i64 x0, .int .i64 x1, .int .i64 x2, .int .i64 x3, .int .i64 x4]) 3).run Try.prog W = .ok (.int .i64 x3) W := fun _ _ _ _ _ _ => by kernel_rfl
      have hone : clv 0 2 1 = 1 := by decide
      clear a0 a1 a2 a3 a4 b0 b1 b2 b3 b4 g0
      go_region_held3 (fun w' => Up w w' ∧ w'.cell? ⟨W.heap.size, 0, none⟩ = some (.int .i64 1) ∧ w'.cell? ⟨W.heap.size, 1, none⟩ = some (.int .i64 e) ∧ w'.cell? ⟨W.heap.size, 2, none⟩ = some (.int .i64 c) ∧ w'.cell? ⟨W.heap.size, 3, none⟩ = some (.int .i64 r) ∧ w'.cell? ⟨W.heap.size, 4, none⟩ = some (.int .i64 q) ∧
          w'.cell? ⟨C, 1, none⟩ = some (.int .i64 (clv 1 64 e)) ∧ w'.cell? ⟨C, 3, none⟩ = some (.int .i64 (clv 1 1048576 r)))
        (first | exact h2 | exact near_up (by assumption) (by assumption))
        (first
          | (go_at_call 25; refine (clamp_out _ _ _ _ _ _).mono ?_; rintro x wn ⟨rfl, hg⟩)
          | (go_at_call 29; refine (awake16_any _).mono ?_; rintro x wn ⟨rfl, hg⟩))
      have hu := And.left ‹Up w _ ∧ _›
      clear hf0 hf1 hf3 h2
      go_wp2
      go_ret
      exact ⟨rfl, hu⟩

set_option maxRecDepth 100000 in
theorem lifted (os : Os) (started : os.Started) (H : Type) (enc : TypeId × Value → H) :
    ReturnsInHanded {} Try.checked os 11 .any (Rows.tuneNearSpec.pre6 enc Try.prog Try.f11 Rows.tuneNearRow.domain false) (Rows.tuneNearSpec.post enc Try.prog Try.f11 false true false false) := by
  refine returnsInHanded_of_change (C := Try.checked) own started (by kernel_rfl) Try.func11
    (ChangeSpec.witness6 (enc := enc) (C := Try.checked) false ⟨#[], #[.agg #[.int .i64 0, .int .i64 0, .int .i64 0, .int .i64 0, .int .i64 0]], []⟩ 8 (by kernel_rfl) (by kernel_rfl) (by kernel_rfl) (by kernel_rfl)) ?_
  intro W base args ds gs before hval0 hW hcnd _
  have hval : ∀ (j : Nat) t v, Try.f11.params[j]? = some t → args[j]? = some v → Value.okWide Try.prog W .any base t v := hval0
  have hW' := hW
  obtain ⟨p, q, hA0, hV, rfl, hfz, hnd⟩ := hW
  have hA : DataW.TrodAll enc Try.prog W 0 (fun _ => true) true Try.f11.params.toList args.toList ds p := hA0
  rw [Try.params11] at hA hval
  obtain ⟨v0, vs0, d0, ds0, p0, q0, hargs, rfl, rfl, h0, r0⟩ := trodAll_cons hA
  obtain ⟨rfl, rfl, rfl⟩ := trodAll_nil r0
  obtain rfl : args = #[v0] := by cases args; simp_all
  obtain ⟨rfl, rfl⟩ := trodVars_none hV
  have k0 := h0
  have lt0 : ∀ x ∈ p0, x.block < W.heap.size := by obtain ⟨n, hn⟩ := k0; exact DataW.trod_lt n _ _ _ hn
  obtain ⟨m, e, c, r, q, rfl, bm, be, bc, br, bq⟩ := open_setting (hval 0 35 v0 rfl rfl) h0
  clear hA0 hval0
  refine (walk m e c r q bm be bc br bq W).mono fun e W' ⟨he, hu⟩ => ?_
  subst he
  exact ⟨_, rfl, _, _, _, [], _, [], hW', trodAll_mk1 (shut_bool Try.underlying4 _), (trodAll_cons_mk (Below.trod laidOut (by kernel_rfl) (of_decide_eq_true (by kernel_rfl)) k0 hu.1 lt0) trodAll_mk0), rfl, hu.1.frame _, fun h => by cases h⟩

theorem over : Rows.tuneNearRow.holds Try.pinned (OpenSpec.ofChange Rows.tuneNearSpec) :=
  OpenClaim.holds_of_wide 11 Try.f11 rfl rfl rfl rfl rfl rfl rfl ⟨rfl, rfl, rfl, rfl, rfl⟩ rfl rfl rfl rfl rfl (by kernel_rfl) Try.func11 (by kernel_rfl)
    (of_decide_eq_true (by kernel_rfl)) (by unfold Func.isWrapper; first | (rw [if_pos (by decide +kernel)]; kernel_rfl) | (rw [if_neg (by decide +kernel)]; exact ⟨rfl, rfl⟩))
    (fun os started H enc _ => lifted os started H enc)

theorem proved : Rows.TuneNearSaid := over
#print axioms proved
end Go.Proofs.Ytjdfgefmjiiojaa.tuneNear
