/- The law TuneKeeps returns true for every input: its walk through the contracts of package tune, in the shape of the kit's shell of a row's proof. No condition. -/
import Derived.Test.YtjdfgefmjiiojaaRows
import Derived.Test.YtjdfgefmjiiojaaTuneOpen
import Derived.Test.YtjdfgefmjiiojaaTuneF
import Derived.WalkKit
import Derived.ProofKit
import Derived.OpenShut
import Derived.Deep.DeepCutAuto
import Derived.Deep.RegionHeld3
namespace Go.Proofs.Ytjdfgefmjiiojaa.tuneKeeps
open Go.ChangeShapes Go.WideShapes Go.ChangeAt Go.RowKit
set_option linter.unusedVariables false

theorem own : ownKnob Try.prog.godebug = none := by kernel_rfl
theorem laidOut : laidOutB Try.prog = true := by kernel_rfl

/-- What is held of memory: both arguments, what is clamped, what is turned. -/
def Four (w : World) (C D : Nat) (m e c r q d u h l : Int) (w' : World) : Prop :=
  Up w w' ∧ w'.cell? ⟨w.heap.size, 0, none⟩ = some (.int .i64 m) ∧ w'.cell? ⟨w.heap.size, 1, none⟩ = some (.int .i64 e) ∧ w'.cell? ⟨w.heap.size, 2, none⟩ = some (.int .i64 c) ∧ w'.cell? ⟨w.heap.size, 3, none⟩ = some (.int .i64 r) ∧ w'.cell? ⟨w.heap.size, 4, none⟩ = some (.int .i64 q) ∧ w'.cell? ⟨w.heap.size + 1, 0, none⟩ = some (.int .i64 d) ∧ w'.cell? ⟨w.heap.size + 1, 1, none⟩ = some (.int .i64 u) ∧ w'.cell? ⟨w.heap.size + 1, 2, none⟩ = some (.int .i64 h) ∧ w'.cell? ⟨w.heap.size + 1, 3, none⟩ = some (.int .i64 l) ∧ w'.cell? ⟨C, 0, none⟩ = some (.int .i64 (clv 0 2 m)) ∧ w'.cell? ⟨C, 1, none⟩ = some (.int .i64 (clv 1 64 e)) ∧ w'.cell? ⟨C, 2, none⟩ = some (.int .i64 (clv 0 1 c)) ∧ w'.cell? ⟨C, 3, none⟩ = some (.int .i64 (clv 1 1048576 r)) ∧ w'.cell? ⟨C, 4, none⟩ = some (.int .i64 (clv 0 2 q)) ∧ w'.cell? ⟨D, 0, none⟩ = some (.int .i64 (tm m)) ∧ w'.cell? ⟨D, 1, none⟩ = some (.int .i64 (te e d u)) ∧ w'.cell? ⟨D, 2, none⟩ = some (.int .i64 (tc u h)) ∧ w'.cell? ⟨D, 3, none⟩ = some (.int .i64 (tr r d u)) ∧ w'.cell? ⟨D, 4, none⟩ = some (.int .i64 (tq l))
theorem four_up {w : World} {C D : Nat} {m e c r q d u h l : Int} {W W' : World} (k : Four w C D m e c r q d u h l W) (hu : Up W W') : Four w C D m e c r q d u h l W' := by
  obtain ⟨h0, h1, h2, h3, h4, h5, h6, h7, h8, h9, h10, h11, h12, h13, h14, h15, h16, h17, h18, h19⟩ := k
  exact ⟨h0.trans hu, cell_up hu h1, cell_up hu h2, cell_up hu h3, cell_up hu h4, cell_up hu h5, cell_up hu h6, cell_up hu h7, cell_up hu h8, cell_up hu h9, cell_up hu h10, cell_up hu h11, cell_up hu h12, cell_up hu h13, cell_up hu h14, cell_up hu h15, cell_up hu h16, cell_up hu h17, cell_up hu h18, cell_up hu h19⟩
theorem four_start {w w1 w2 : World} {m e c r q d u h l : Int} (g1 : Up ((w.alloc (.cells #[.int .i64 m, .int .i64 e, .int .i64 c, .int .i64 r, .int .i64 q] 35)).alloc (.cells #[.int .i64 d, .int .i64 u, .int .i64 h, .int .i64 l] 44)) w1) (g2 : Up (w1.alloc (.cells #[.int .i64 (clv 0 2 m), .int .i64 (clv 1 64 e), .int .i64 (clv 0 1 c), .int .i64 (clv 1 1048576 r), .int .i64 (clv 0 2 q)] 35)) w2) :
    Four w w1.heap.size w2.heap.size m e c r q d u h l (w2.alloc (.cells #[.int .i64 (tm m), .int .i64 (te e d u), .int .i64 (tc u h), .int .i64 (tr r d u), .int .i64 (tq l)] 35)) := by
  have b0 := both_start w m e c r q d u h l
  have b2 := both_up (both_up b0 (g1.trans ((Up.refl _).alloc _ _))) (g2.trans (alloc_up w2 #[.int .i64 (tm m), .int .i64 (te e d u), .int .i64 (tc u h), .int .i64 (tr r d u), .int .i64 (tq l)] 35))
  have hu := g2.trans (alloc_up w2 #[.int .i64 (tm m), .int .i64 (te e d u), .int .i64 (tc u h), .int .i64 (tr r d u), .int .i64 (tq l)] 35)
  obtain ⟨h0, h1, h2, h3, h4, h5, h6, h7, h8, h9⟩ := b2
  exact ⟨h0, h1, h2, h3, h4, h5, h6, h7, h8, h9, cell_up hu (World.cell?_alloc_new _ _ _ _), cell_up hu (World.cell?_alloc_new _ _ _ _), cell_up hu (World.cell?_alloc_new _ _ _ _), cell_up hu (World.cell?_alloc_new _ _ _ _), cell_up hu (World.cell?_alloc_new _ _ _ _), World.cell?_alloc_new _ _ _ _, World.cell?_alloc_new _ _ _ _, World.cell?_alloc_new _ _ _ _, World.cell?_alloc_new _ _ _ _, World.cell?_alloc_new _ _ _ _⟩
theorem tm_in (m : Int) : 0 ≤ tm m ∧ tm m ≤ 2 := clv_in (by decide)
theorem te_in (e d u : Int) : 1 ≤ te e d u ∧ te e d u ≤ 64 := clv_in (by decide)
theorem tc_in (u h : Int) : 0 ≤ tc u h ∧ tc u h ≤ 1 := cav_in _ _
theorem tr_in (r d u : Int) : 1 ≤ tr r d u ∧ tr r d u ≤ 1048576 := clv_in (by decide)
theorem tq_in (l : Int) : 0 ≤ tq l ∧ tq l ≤ 2 := quv_in _
theorem errb_in5 {m e c r q : Int} (hm : 0 ≤ m ∧ m ≤ 2) (he : 1 ≤ e ∧ e ≤ 64) (hc : 0 ≤ c ∧ c ≤ 1) (hr : 1 ≤ r ∧ r ≤ 1048576) (hq : 0 ≤ q ∧ q ≤ 2) : errb m e c r q = 0 :=
  errb_yes (eq5_iff.2 ⟨(clv_id hm.1 hm.2).symm, (clv_id he.1 he.2).symm, (clv_id hc.1 hc.2).symm, (clv_id hr.1 hr.2).symm, (clv_id hq.1 hq.2).symm⟩)
theorem errb_clv (m e c r q : Int) : errb (clv 0 2 m) (clv 1 64 e) (clv 0 1 c) (clv 1 1048576 r) (clv 0 2 q) = 0 :=
  errb_in5 (clv_in (by decide)) (clv_in (by decide)) (clv_in (by decide)) (clv_in (by decide)) (clv_in (by decide))
theorem clv_clv {lo hi : Int} (n : Int) (k : lo ≤ hi) : clv lo hi (clv lo hi n) = clv lo hi n := clv_id (clv_in k).1 (clv_in k).2


set_option maxHeartbeats 4000000 in
theorem walk (m e c r q : Int) (bm : I64 m) (be : I64 e) (bc : I64 c) (br : I64 r) (bq : I64 q) (d u h l : Int) (bd : I64 d) (bu : I64 u) (bh : I64 h) (bl : I64 l) (w : World) :
    Calls Try.prog 14 #[.agg #[.int .i64 m, .int .i64 e, .int .i64 c, .int .i64 r, .int .i64 q], .agg #[.int .i64 d, .int .i64 u, .int .i64 h, .int .i64 l]] w fun x w' => x = .returned (.bool true) ∧ Up w w' := by
  have heq := run_eq5
  have hse := eq5_self
  have hE1 := errb_clv m e c r q
  have hE2 := errb_in5 (tm_in m) (te_in e d u) (tc_in u h) (tr_in r d u) (tq_in l)
  have hC0 := clv_clv (lo := 0) (hi := 2) m (by decide)
  have hC1 := clv_clv (lo := 1) (hi := 64) e (by decide)
  have hC2 := clv_clv (lo := 0) (hi := 1) c (by decide)
  have hC3 := clv_clv (lo := 1) (hi := 1048576) r (by decide)
  have hC4 := clv_clv (lo := 0) (hi := 2) q (by decide)
  have hT : (tm m == clv 0 2 m) = true := beq_self_eq_true _
  clear bm be bc br bq bd bu bh bl
  go_enter Try.func14, Try.ntmps14
  go_wp2_with fail
  refine (clamp_out _ _ _ _ _ _).mono ?_
  rintro x w1 ⟨rfl, h1⟩
  obtain ⟨hc1, hf1, hz1⟩ := h1.facts
  have hl0 : w.heap.size + 1 < w1.heap.size := by have := h1.1.size; simp at this; omega
  have hl1 : w.heap.size < w1.heap.size := by omega
  clear hz1
  go_wp2_with fail
  refine (turn_out _ _ _ _ _ _ _ _ _ _).mono ?_
  rintro x w2 ⟨rfl, h2⟩
  have k0 := four_start h1 h2
  obtain ⟨hc2, hf2, hz2⟩ := h2.facts
  have hl2 : w1.heap.size < w2.heap.size := by have := h2.1.size; simp at this; omega
  clear h1 h2 hc1 hf1 hc2 hf2 hz2 hl0 hl1
  go_wp2_with fail
  generalize w2.alloc (.cells #[.int .i64 (tm m), .int .i64 (te e d u), .int .i64 (tc u h), .int .i64 (tr r d u), .int .i64 (tq l)] 35) = W at k0 ⊢
  clear hl2
  generalize w1.heap.size = C at k0 ⊢
  generalize w2.heap.size = D at k0 ⊢
  have k1 := four_up k0 (Up.refl _).drew
  clear k0
  have hcases : okb m e c r q = true ∨ okb m e c r q = false := by cases okb m e c r q <;> simp
  rcases hcases with hok | hok
  · have hE3 := errb_yes hok
    have hS : eq5 (clv 0 2 m) (clv 1 64 e) (clv 0 1 c) (clv 1 1048576 r) (clv 0 2 q) m e c r q = true := (okb_sym m e c r q).trans hok
    clear hok
    go_region_held3 (fun w' => Up w w' ∧ w'.cell? ⟨w.heap.size, 0, none⟩ = some (.int .i64 m) ∧ w'.cell? ⟨w.heap.size, 1, none⟩ = some (.int .i64 e) ∧ w'.cell? ⟨w.heap.size, 2, none⟩ = some (.int .i64 c) ∧ w'.cell? ⟨w.heap.size, 3, none⟩ = some (.int .i64 r) ∧ w'.cell? ⟨w.heap.size, 4, none⟩ = some (.int .i64 q) ∧ w'.cell? ⟨w.heap.size + 1, 0, none⟩ = some (.int .i64 d) ∧ w'.cell? ⟨w.heap.size + 1, 1, none⟩ = some (.int .i64 u) ∧ w'.cell? ⟨w.heap.size + 1, 2, none⟩ = some (.int .i64 h) ∧ w'.cell? ⟨w.heap.size + 1, 3, none⟩ = some (.int .i64 l) ∧ w'.cell? ⟨C, 0, none⟩ = some (.int .i64 (clv 0 2 m)) ∧ w'.cell? ⟨C, 1, none⟩ = some (.int .i64 (clv 1 64 e)) ∧ w'.cell? ⟨C, 2, none⟩ = some (.int .i64 (clv 0 1 c)) ∧ w'.cell? ⟨C, 3, none⟩ = some (.int .i64 (clv 1 1048576 r)) ∧ w'.cell? ⟨C, 4, none⟩ = some (.int .i64 (clv 0 2 q)) ∧ w'.cell? ⟨D, 0, none⟩ = some (.int .i64 (tm m)) ∧ w'.cell? ⟨D, 1, none⟩ = some (.int .i64 (te e d u)) ∧ w'.cell? ⟨D, 2, none⟩ = some (.int .i64 (tc u h)) ∧ w'.cell? ⟨D, 3, none⟩ = some (.int .i64 (tr r d u)) ∧ w'.cell? ⟨D, 4, none⟩ = some (.int .i64 (tq l)))
      (first | exact k1 | exact four_up (by assumption) (by assumption))
      (first
        | (go_at_call 23; refine (check_any _ _ _ _ _ _).mono ?_; rintro x wn ⟨rfl, hg⟩)
        | (go_at_call 25; refine (clamp_out _ _ _ _ _ _).mono ?_; rintro x wn ⟨rfl, hg⟩)
        | (go_at_call 29; refine (awake16_any _).mono ?_; rintro x wn ⟨rfl, hg⟩))
    have hu := And.left ‹Up w _ ∧ _›
    clear heq hse k1
    go_wp2
    go_ret
    exact ⟨rfl, hu⟩
  · have hE3 := errb_no hok
    clear hok
    have kk := k1
    obtain ⟨h0, h1, h2, h3, h4, h5, h6, h7, h8, h9, h10, h11, h12, h13, h14, h15, h16, h17, h18, h19⟩ := kk
    go_region_with ((first
        | (go_at_call 23; refine (check_any _ _ _ _ _ _).mono ?_; rintro x wn ⟨rfl, hg⟩; have k2 := four_up k1 hg; clear k1 hg; have k1 := k2; clear k2; have kk := k1; obtain ⟨h0, h1, h2, h3, h4, h5, h6, h7, h8, h9, h10, h11, h12, h13, h14, h15, h16, h17, h18, h19⟩ := kk)
        | (go_at_call 25; refine (clamp_out _ _ _ _ _ _).mono ?_; rintro x wn ⟨rfl, hg⟩; have k2 := four_up k1 hg; clear k1 hg; have k1 := k2; clear k2; have kk := k1; obtain ⟨h0, h1, h2, h3, h4, h5, h6, h7, h8, h9, h10, h11, h12, h13, h14, h15, h16, h17, h18, h19⟩ := kk)
        | (go_at_call 29; refine (awake16_any _).mono ?_; rintro x wn ⟨rfl, hg⟩; have k2 := four_up k1 hg; clear k1 hg; have k1 := k2; clear k2; have kk := k1; obtain ⟨h0, h1, h2, h3, h4, h5, h6, h7, h8, h9, h10, h11, h12, h13, h14, h15, h16, h17, h18, h19⟩ := kk)))
    all_goals have hu := k1.1
    all_goals clear heq hse
    all_goals go_wp2
    all_goals go_ret
    all_goals exact ⟨rfl, hu⟩

set_option maxRecDepth 100000 in
theorem lifted (os : Os) (started : os.Started) (H : Type) (enc : TypeId × Value → H) :
    ReturnsInHanded {} Try.checked os 14 .any (Rows.tuneKeepsSpec.pre6 enc Try.prog Try.f14 Rows.tuneKeepsRow.domain false) (Rows.tuneKeepsSpec.post enc Try.prog Try.f14 false true false false) := by
  refine returnsInHanded_of_change (C := Try.checked) own started (by kernel_rfl) Try.func14
    (ChangeSpec.witness6 (enc := enc) (C := Try.checked) false ⟨#[], #[.agg #[.int .i64 0, .int .i64 0, .int .i64 0, .int .i64 0, .int .i64 0], .agg #[.int .i64 0, .int .i64 0, .int .i64 0, .int .i64 0]], []⟩ 8 (by kernel_rfl) (by kernel_rfl) (by kernel_rfl) (by kernel_rfl)) ?_
  intro W base args ds gs before hval0 hW hcnd _
  have hval : ∀ (j : Nat) t v, Try.f14.params[j]? = some t → args[j]? = some v → Value.okWide Try.prog W .any base t v := hval0
  have hW' := hW
  obtain ⟨p, q, hA0, hV, rfl, hfz, hnd⟩ := hW
  have hA : DataW.TrodAll enc Try.prog W 0 (fun _ => true) true Try.f14.params.toList args.toList ds p := hA0
  rw [Try.params14] at hA hval
  obtain ⟨v0, vs0, d0, ds0, p0, q0, hargs, rfl, rfl, h0, r0⟩ := trodAll_cons hA
  obtain ⟨v1, vs1, d1, ds1, p1, q1, rfl, rfl, rfl, h1, r1⟩ := trodAll_cons r0
  obtain ⟨rfl, rfl, rfl⟩ := trodAll_nil r1
  obtain rfl : args = #[v0, v1] := by cases args; simp_all
  obtain ⟨rfl, rfl⟩ := trodVars_none hV
  have k0 := h0
  have lt0 : ∀ x ∈ p0, x.block < W.heap.size := by obtain ⟨n, hn⟩ := k0; exact DataW.trod_lt n _ _ _ hn
  obtain ⟨m, e, c, r, q, rfl, bm, be, bc, br, bq⟩ := open_setting (hval 0 35 v0 rfl rfl) h0
  have k1 := h1
  have lt1 : ∀ x ∈ p1, x.block < W.heap.size := by obtain ⟨n, hn⟩ := k1; exact DataW.trod_lt n _ _ _ hn
  obtain ⟨d, u, h, l, rfl, bd, bu, bh, bl⟩ := open_stats (hval 1 44 v1 rfl rfl) h1
  clear hA0 hval0
  refine (walk m e c r q bm be bc br bq d u h l bd bu bh bl W).mono fun e W' ⟨he, hu⟩ => ?_
  subst he
  exact ⟨_, rfl, _, _, _, [], _, [], hW', trodAll_mk1 (shut_bool Try.underlying4 _), (trodAll_cons_mk (Below.trod laidOut (by kernel_rfl) (of_decide_eq_true (by kernel_rfl)) k0 hu.1 lt0) (trodAll_cons_mk (Below.trod laidOut (by kernel_rfl) (of_decide_eq_true (by kernel_rfl)) k1 hu.1 lt1) trodAll_mk0)), rfl, hu.1.frame _, fun h => by cases h⟩

theorem over : Rows.tuneKeepsRow.holds Try.pinned (OpenSpec.ofChange Rows.tuneKeepsSpec) :=
  OpenClaim.holds_of_wide 14 Try.f14 rfl rfl rfl rfl rfl rfl rfl ⟨rfl, rfl, rfl, rfl, rfl⟩ rfl rfl rfl rfl rfl (by kernel_rfl) Try.func14 (by kernel_rfl)
    (of_decide_eq_true (by kernel_rfl)) (by unfold Func.isWrapper; first | (rw [if_pos (by decide +kernel)]; kernel_rfl) | (rw [if_neg (by decide +kernel)]; exact ⟨rfl, rfl⟩))
    (fun os started H enc _ => lifted os started H enc)

theorem proved : Rows.TuneKeepsSaid := over
#print axioms proved
end Go.Proofs.Ytjdfgefmjiiojaa.tuneKeeps
