/- The contract of the reference's Turn: the same answer as tune.Turn's, by plain integer arithmetic. -/
import Derived.Test.YtjdfgefmjiiojaaTuneD
import Derived.Deep.DeepCutAuto
namespace Go.Proofs.Ytjdfgefmjiiojaa
open Go.RowKit

/-- What the reference's Turn holds of memory: the setting's box and the result's cells. -/
structure RT (w : World) (m e c r q d u h l : Int) (wr : World) : Prop where
  up : Up w wr
  s0 : wr.cell? ⟨w.heap.size, 0, none⟩ = some (.int .i64 m)
  s1 : wr.cell? ⟨w.heap.size, 1, none⟩ = some (.int .i64 e)
  s2 : wr.cell? ⟨w.heap.size, 2, none⟩ = some (.int .i64 c)
  s3 : wr.cell? ⟨w.heap.size, 3, none⟩ = some (.int .i64 r)
  s4 : wr.cell? ⟨w.heap.size, 4, none⟩ = some (.int .i64 q)
  t0 : wr.cell? ⟨w.heap.size + 1, 0, none⟩ = some (.int .i64 d)
  t1 : wr.cell? ⟨w.heap.size + 1, 1, none⟩ = some (.int .i64 u)
  t2 : wr.cell? ⟨w.heap.size + 1, 2, none⟩ = some (.int .i64 h)
  t3 : wr.cell? ⟨w.heap.size + 1, 3, none⟩ = some (.int .i64 l)
  r0 : wr.cell? ⟨w.heap.size + 1 + 1, 0, none⟩ = some (.int .i64 0)
  r1 : wr.cell? ⟨w.heap.size + 1 + 1, 1, none⟩ = some (.int .i64 0)
  r2 : wr.cell? ⟨w.heap.size + 1 + 1, 2, none⟩ = some (.int .i64 0)
  r3 : wr.cell? ⟨w.heap.size + 1 + 1, 3, none⟩ = some (.int .i64 0)
  r4 : wr.cell? ⟨w.heap.size + 1 + 1, 4, none⟩ = some (.int .i64 0)
theorem RT.later {w : World} {m e c r q d u h l : Int} {wr : World} (k : RT w m e c r q d u h l wr) {wn : World} (g : Up wr wn) : RT w m e c r q d u h l wn :=
  ⟨k.up.trans g, cell_up g k.s0, cell_up g k.s1, cell_up g k.s2, cell_up g k.s3, cell_up g k.s4, cell_up g k.t0, cell_up g k.t1, cell_up g k.t2, cell_up g k.t3, cell_up g k.r0, cell_up g k.r1, cell_up g k.r2, cell_up g k.r3, cell_up g k.r4⟩
theorem RT.set0 {w : World} {m e c r q d u h l : Int} {wr : World} (k : RT w m e c r q d u h l wr) (x : Int) : RT w x e c r q d u h l (wr.setCell ⟨w.heap.size, 0, none⟩ (.int .i64 x)) :=
  ⟨k.up.setCell (Nat.le_refl _) _, World.cell?_setCell_same _ _ _ k.s0, (cell_off (by decide)).trans k.s1, (cell_off (by decide)).trans k.s2, (cell_off (by decide)).trans k.s3, (cell_off (by decide)).trans k.s4, (cell_other (by simp; try omega)).trans k.t0, (cell_other (by simp; try omega)).trans k.t1, (cell_other (by simp; try omega)).trans k.t2, (cell_other (by simp; try omega)).trans k.t3, (cell_other (by simp; try omega)).trans k.r0, (cell_other (by simp; try omega)).trans k.r1, (cell_other (by simp; try omega)).trans k.r2, (cell_other (by simp; try omega)).trans k.r3, (cell_other (by simp; try omega)).trans k.r4⟩
theorem RT.set1 {w : World} {m e c r q d u h l : Int} {wr : World} (k : RT w m e c r q d u h l wr) (x : Int) : RT w m x c r q d u h l (wr.setCell ⟨w.heap.size, 1, none⟩ (.int .i64 x)) :=
  ⟨k.up.setCell (Nat.le_refl _) _, (cell_off (by decide)).trans k.s0, World.cell?_setCell_same _ _ _ k.s1, (cell_off (by decide)).trans k.s2, (cell_off (by decide)).trans k.s3, (cell_off (by decide)).trans k.s4, (cell_other (by simp; try omega)).trans k.t0, (cell_other (by simp; try omega)).trans k.t1, (cell_other (by simp; try omega)).trans k.t2, (cell_other (by simp; try omega)).trans k.t3, (cell_other (by simp; try omega)).trans k.r0, (cell_other (by simp; try omega)).trans k.r1, (cell_other (by simp; try omega)).trans k.r2, (cell_other (by simp; try omega)).trans k.r3, (cell_other (by simp; try omega)).trans k.r4⟩
theorem RT.set2 {w : World} {m e c r q d u h l : Int} {wr : World} (k : RT w m e c r q d u h l wr) (x : Int) : RT w m e x r q d u h l (wr.setCell ⟨w.heap.size, 2, none⟩ (.int .i64 x)) :=
  ⟨k.up.setCell (Nat.le_refl _) _, (cell_off (by decide)).trans k.s0, (cell_off (by decide)).trans k.s1, World.cell?_setCell_same _ _ _ k.s2, (cell_off (by decide)).trans k.s3, (cell_off (by decide)).trans k.s4, (cell_other (by simp; try omega)).trans k.t0, (cell_other (by simp; try omega)).trans k.t1, (cell_other (by simp; try omega)).trans k.t2, (cell_other (by simp; try omega)).trans k.t3, (cell_other (by simp; try omega)).trans k.r0, (cell_other (by simp; try omega)).trans k.r1, (cell_other (by simp; try omega)).trans k.r2, (cell_other (by simp; try omega)).trans k.r3, (cell_other (by simp; try omega)).trans k.r4⟩
theorem RT.set3 {w : World} {m e c r q d u h l : Int} {wr : World} (k : RT w m e c r q d u h l wr) (x : Int) : RT w m e c x q d u h l (wr.setCell ⟨w.heap.size, 3, none⟩ (.int .i64 x)) :=
  ⟨k.up.setCell (Nat.le_refl _) _, (cell_off (by decide)).trans k.s0, (cell_off (by decide)).trans k.s1, (cell_off (by decide)).trans k.s2, World.cell?_setCell_same _ _ _ k.s3, (cell_off (by decide)).trans k.s4, (cell_other (by simp; try omega)).trans k.t0, (cell_other (by simp; try omega)).trans k.t1, (cell_other (by simp; try omega)).trans k.t2, (cell_other (by simp; try omega)).trans k.t3, (cell_other (by simp; try omega)).trans k.r0, (cell_other (by simp; try omega)).trans k.r1, (cell_other (by simp; try omega)).trans k.r2, (cell_other (by simp; try omega)).trans k.r3, (cell_other (by simp; try omega)).trans k.r4⟩
theorem RT.set4 {w : World} {m e c r q d u h l : Int} {wr : World} (k : RT w m e c r q d u h l wr) (x : Int) : RT w m e c r x d u h l (wr.setCell ⟨w.heap.size, 4, none⟩ (.int .i64 x)) :=
  ⟨k.up.setCell (Nat.le_refl _) _, (cell_off (by decide)).trans k.s0, (cell_off (by decide)).trans k.s1, (cell_off (by decide)).trans k.s2, (cell_off (by decide)).trans k.s3, World.cell?_setCell_same _ _ _ k.s4, (cell_other (by simp; try omega)).trans k.t0, (cell_other (by simp; try omega)).trans k.t1, (cell_other (by simp; try omega)).trans k.t2, (cell_other (by simp; try omega)).trans k.t3, (cell_other (by simp; try omega)).trans k.r0, (cell_other (by simp; try omega)).trans k.r1, (cell_other (by simp; try omega)).trans k.r2, (cell_other (by simp; try omega)).trans k.r3, (cell_other (by simp; try omega)).trans k.r4⟩
theorem RT.to {w : World} {m e c r q d u h l : Int} {wr : World} (k : RT w m e c r q d u h l wr) {m' e' c' r' q' : Int} (hm : m = m') (he : e = e') (hc : c = c') (hr : r = r') (hq : q = q') : RT w m' e' c' r' q' d u h l wr := by
  subst hm he hc hr hq; exact k
theorem RT.free {w : World} {m e c r q d u h l : Int} {wr : World} (k : RT w m e c r q d u h l wr) (i : Nat) : wr.frozen? ⟨w.heap.size, i, none⟩ = false := (k.up.2 _).trans (frozen_new _ _ (Nat.le_refl _))
theorem RT.freeR {w : World} {m e c r q d u h l : Int} {wr : World} (k : RT w m e c r q d u h l wr) (i : Nat) : wr.frozen? ⟨w.heap.size + 1 + 1, i, none⟩ = false := (k.up.2 _).trans (frozen_new _ _ (by simp; omega))
theorem RT.start {w w1 : World} {m e c r q d u h l m' e' c' r' q' : Int}
    (h1 : Up (((w.alloc (.cells #[.int .i64 m, .int .i64 e, .int .i64 c, .int .i64 r, .int .i64 q] 35)).alloc (.cells #[.int .i64 d, .int .i64 u, .int .i64 h, .int .i64 l] 44)).alloc (.cells #[.int .i64 0, .int .i64 0, .int .i64 0, .int .i64 0, .int .i64 0] 35)) w1) :
    RT w m' e' c' r' q' d u h l (((((w1.setCell ⟨w.heap.size, 0, none⟩ (.int .i64 m')).setCell ⟨w.heap.size, 1, none⟩ (.int .i64 e')).setCell ⟨w.heap.size, 2, none⟩ (.int .i64 c')).setCell ⟨w.heap.size, 3, none⟩ (.int .i64 r')).setCell ⟨w.heap.size, 4, none⟩ (.int .i64 q')) := by
  have hz : w.heap.size + 1 + 1 < w1.heap.size := by have := h1.1.size; simp at this; omega
  have hu : Up w w1 := ((((Up.refl w).alloc _ _).alloc _ _).alloc _ _).trans h1
  obtain ⟨hc, -, -⟩ := h1.facts
  have k : RT w m e c r q d u h l w1 := ⟨hu, by rw [hc _ _ (by simp; omega)]; simp [go_sem], by rw [hc _ _ (by simp; omega)]; simp [go_sem], by rw [hc _ _ (by simp; omega)]; simp [go_sem], by rw [hc _ _ (by simp; omega)]; simp [go_sem], by rw [hc _ _ (by simp; omega)]; simp [go_sem],
    by rw [hc _ _ (by simp)]; simp [go_sem], by rw [hc _ _ (by simp)]; simp [go_sem], by rw [hc _ _ (by simp)]; simp [go_sem], by rw [hc _ _ (by simp)]; simp [go_sem],
    by rw [hc _ _ (by simp)]; simp [go_sem], by rw [hc _ _ (by simp)]; simp [go_sem], by rw [hc _ _ (by simp)]; simp [go_sem], by rw [hc _ _ (by simp)]; simp [go_sem], by rw [hc _ _ (by simp)]; simp [go_sem]⟩
  exact ((((k.set0 _).set1 _).set2 _).set3 _).set4 _

theorem number_any (n : Int) (w : World) :
    Calls Try.prog 37 #[.int .i64 n] w fun x w' => x = .returned (.int .i64 (num n)) ∧ Up w w' := by
  have hmx := run_mx
  have hmn := run_mn
  go_enter Try.func37, Try.ntmps37
  go_wp2
  go_ret
  exact ⟨rfl, Up.refl _⟩

theorem clv_id {lo hi n : Int} (h1 : lo ≤ n) (h2 : n ≤ hi) : clv lo hi n = n := by unfold clv mnv mxv; split <;> split <;> omega
theorem refe_yes {d u e : Int} (h : d < 4 * u) (h1 : 1 ≤ e) (h2 : e ≤ 64) : mxv 1 (e / 2) = clv 1 64 (evv d u e) := by
  rw [← evv_yes h]; unfold clv mnv mxv; (repeat' split) <;> omega
theorem refe_no {d u e : Int} (h : 4 * u ≤ d) (h1 : 1 ≤ e) (h2 : e ≤ 64) : mnv 64 (e + 1) = clv 1 64 (evv d u e) := by
  rw [← evv_no h]; unfold clv mnv mxv; (repeat' split) <;> omega
theorem refr_yes {d u e : Int} (h : d < 2 * u) (h1 : 1 ≤ e) (h2 : e ≤ 1048576) : mxv 1 (e / 2) = clv 1 1048576 (rev d u e) := by
  rw [← rev_yes h]; unfold clv mnv mxv; (repeat' split) <;> omega
theorem refr_no {d u e : Int} (h : 2 * u ≤ d) (h1 : 1 ≤ e) (h2 : e ≤ 1048576) : mnv 1048576 (2 * e) = clv 1 1048576 (rev d u e) := by
  rw [← rev_no h]; unfold clv mnv mxv; (repeat' split) <;> omega

def cab (u h : Int) : Bool := decide (u > 0 ∧ u ≤ 2 * h)
theorem cab_yes {u h : Int} (k : 0 < u) : decide (u ≤ 2 * h) = cab u h := by unfold cab; by_cases g : u ≤ 2 * h <;> simp [k, g]
theorem cab_no {u h : Int} (k : u ≤ 0) : false = cab u h := by unfold cab; symm; rw [decide_eq_false_iff_not]; omega
theorem cav_yes {u h : Int} (k : cab u h = true) : 1 = cav u h := by unfold cab at k; unfold cav; rw [if_pos (of_decide_eq_true k)]
theorem cav_no {u h : Int} (k : cab u h = false) : 0 = cav u h := by unfold cab at k; unfold cav; rw [if_neg (of_decide_eq_false k)]
def qu1 (l : Int) : Int := if l > 64 then 1 else 0
theorem qu1_yes {l : Int} (k : 64 < l) : 1 = qu1 l := by unfold qu1; rw [if_pos k]
theorem qu1_no {l : Int} (k : l ≤ 64) : 0 = qu1 l := by unfold qu1; rw [if_neg (by omega)]
theorem quv_yes {l : Int} (k : 256 < l) : 2 = quv l := by unfold quv; rw [if_pos k]
theorem quv_no {l : Int} (k : l ≤ 256) : qu1 l = quv l := by unfold quv qu1; rw [if_neg (show ¬ l > 256 by omega)]

theorem cav_in (u h : Int) : 0 ≤ cav u h ∧ cav u h ≤ 1 := by unfold cav; split <;> omega
theorem quv_in (l : Int) : 0 ≤ quv l ∧ quv l ≤ 2 := by unfold quv; (repeat' split) <;> omega
theorem turnv_eq (m e c r q d u h l : Int) : turnv m e c r q d u h l = .agg #[.int .i64 (clv 0 2 m), .int .i64 (clv 1 64 (evv (num d) (num u) (clv 1 64 e))), .int .i64 (cav (num u) (num h)), .int .i64 (clv 1 1048576 (rev (num d) (num u) (clv 1 1048576 r))), .int .i64 (quv (num l))] := by
  have h1 := clv_in (lo := 0) (hi := 2) (n := m) (by decide)
  have h2 := cav_in (num u) (num h)
  have h3 := quv_in (num l)
  unfold turnv
  rw [clv_id h1.1 h1.2, clv_id h2.1 h2.2, clv_id h3.1 h3.2]

set_option maxHeartbeats 4000000 in
theorem refturn_any (m e c r q d u h l : Int) (w : World) :
    Calls Try.prog 31 #[.agg #[.int .i64 m, .int .i64 e, .int .i64 c, .int .i64 r, .int .i64 q], .agg #[.int .i64 d, .int .i64 u, .int .i64 h, .int .i64 l]] w fun x w' => x = .returned (turnv m e c r q d u h l) ∧ Up w w' := by
  obtain ⟨be1, be2⟩ := clv_in (lo := 1) (hi := 64) (n := e) (by decide)
  obtain ⟨br1, br2⟩ := clv_in (lo := 1) (hi := 1048576) (n := r) (by decide)
  obtain ⟨bd1, bd2⟩ := num_in d
  obtain ⟨bu1, bu2⟩ := num_in u
  obtain ⟨bh1, bh2⟩ := num_in h
  have hmx := run_mx
  have hmn := run_mn
  go_enter Try.func31, Try.ntmps31
  go_wp2_with fail
  refine (refclamp_out _ _ _ _ _ _).mono ?_
  rintro x w1 ⟨rfl, h1⟩
  obtain ⟨hc, hf, hz⟩ := h1.facts
  have st := RT.start (m' := clv 0 2 m) (e' := clv 1 64 e) (c' := clv 0 1 c) (r' := clv 1 1048576 r) (q' := clv 0 2 q) h1
  have c0 := st.t0
  go_wp2_with fail
  refine (number_any _ _).mono ?_
  rintro x w2 ⟨rfl, h2⟩
  have st0 := st.later h2
  clear st h1 hc hf hz h2 c0
  have c1 := st0.t1
  go_wp2_with fail
  refine (number_any _ _).mono ?_
  rintro x w3 ⟨rfl, h3⟩
  have st1 := st0.later h3
  clear st0 h3 c1
  have c2 := st1.t2
  go_wp2_with fail
  refine (number_any _ _).mono ?_
  rintro x w4 ⟨rfl, h4⟩
  have st2 := st1.later h4
  clear st1 h4 c2
  have c3 := st2.t3
  go_wp2_with fail
  refine (number_any _ _).mono ?_
  rintro x w5 ⟨rfl, h5⟩
  have st3 := st2.later h5
  clear st2 h5 c3
  go_upto_if 26 with fail
  go_cut [] (fun wx => RT w (clv 0 2 m) (clv 1 64 (evv (num d) (num u) (clv 1 64 e))) (clv 0 1 c) (clv 1 1048576 r) (clv 0 2 q) d u h l wx)
  case first =>
    have c0 := st3.s1
    have c1 := st3.free 1
    go_wp2
    · go_meet
      exact (st3.set1 _).to rfl (refe_yes (by omega) be1 be2) rfl rfl rfl
    · go_meet
      exact (st3.set1 _).to rfl (refe_no (by omega) be1 be2) rfl rfl rfl
  case rest =>
    clear st3
    have g0 := hcut.s2
    have g1 := hcut.free 2
    go_upto_region 10 with fail
    have k1 := hcut.set2 0
    clear hcut g0 g1
    generalize wc.setCell ⟨w.heap.size, 2, none⟩ (.int .i64 0) = W at k1 ⊢
    go_cut [45] (fun s wx => s = .bool (cab (num u) (num h)) ∧ W = wx)
    case first =>
      clear be1 be2 br1 br2
      go_wp2
      · go_meet
        exact ⟨congrArg Value.bool (cab_yes ‹_›), rfl⟩
      · go_meet
        exact ⟨congrArg Value.bool (cab_no ‹_›), rfl⟩
    case rest =>
      obtain ⟨rfl, rfl⟩ := hcut
      go_upto_if 45 with fail
      go_cut [] (fun wx => RT w (clv 0 2 m) (clv 1 64 (evv (num d) (num u) (clv 1 64 e))) (cav (num u) (num h)) (clv 1 1048576 r) (clv 0 2 q) d u h l wx)
      case first =>
        have c0 := k1.s2
        have c1 := k1.free 2
        go_wp2
        · go_meet
          exact (k1.set2 _).to rfl rfl (cav_yes ‹_›) rfl rfl
        · go_meet
          exact k1.to rfl rfl (cav_no ‹_›) rfl rfl
      case rest =>
        clear k1
        go_upto_if 50 with fail
        go_cut [] (fun wx => RT w (clv 0 2 m) (clv 1 64 (evv (num d) (num u) (clv 1 64 e))) (cav (num u) (num h)) (clv 1 1048576 (rev (num d) (num u) (clv 1 1048576 r))) (clv 0 2 q) d u h l wx)
        case first =>
          have c0 := hcut.s3
          have c1 := hcut.free 3
          go_wp2
          · go_meet
            exact (hcut.set3 _).to rfl rfl rfl (refr_yes (by omega) br1 br2) rfl
          · go_meet
            exact (hcut.set3 _).to rfl rfl rfl (refr_no (by omega) br1 br2) rfl
        case rest =>
          have hcut0 := ‹RT w (clv 0 2 m) (clv 1 64 (evv (num d) (num u) (clv 1 64 e))) (cav (num u) (num h)) (clv 1 1048576 (rev (num d) (num u) (clv 1 1048576 r))) (clv 0 2 q) d u h l _›
          have c0 := hcut0.s4
          have c1 := hcut0.free 4
          have k2 := hcut0.set4 0
          go_upto_if 63 with fail
          clear c0 c1
          go_cut [] (fun wx => RT w (clv 0 2 m) (clv 1 64 (evv (num d) (num u) (clv 1 64 e))) (cav (num u) (num h)) (clv 1 1048576 (rev (num d) (num u) (clv 1 1048576 r))) (qu1 (num l)) d u h l wx)
          case first =>
            have c0 := k2.s4
            have c1 := k2.free 4
            go_wp2
            · go_meet
              exact (k2.set4 _).to rfl rfl rfl rfl (qu1_yes (by omega))
            · go_meet
              exact k2.to rfl rfl rfl rfl (qu1_no (by omega))
          case rest =>
            clear k2
            have k3 := ‹RT w (clv 0 2 m) (clv 1 64 (evv (num d) (num u) (clv 1 64 e))) (cav (num u) (num h)) (clv 1 1048576 (rev (num d) (num u) (clv 1 1048576 r))) (qu1 (num l)) d u h l _›
            go_upto_if 66 with fail
            go_cut [] (fun wx => RT w (clv 0 2 m) (clv 1 64 (evv (num d) (num u) (clv 1 64 e))) (cav (num u) (num h)) (clv 1 1048576 (rev (num d) (num u) (clv 1 1048576 r))) (quv (num l)) d u h l wx)
            case first =>
              have c0 := k3.s4
              have c1 := k3.free 4
              go_wp2
              · go_meet
                exact (k3.set4 _).to rfl rfl rfl rfl (quv_yes (by omega))
              · go_meet
                exact k3.to rfl rfl rfl rfl (quv_no (by omega))
            case rest =>
              have k4 := ‹RT w (clv 0 2 m) (clv 1 64 (evv (num d) (num u) (clv 1 64 e))) (cav (num u) (num h)) (clv 1 1048576 (rev (num d) (num u) (clv 1 1048576 r))) (quv (num l)) d u h l _›
              have c0 := k4.s0
              have c1 := k4.s1
              have c2 := k4.s2
              have c3 := k4.s3
              have c4 := k4.s4
              have r0 := k4.r0
              have r1 := k4.r1
              have r2 := k4.r2
              have r3 := k4.r3
              have r4 := k4.r4
              have f := k4.freeR
              go_wp2
              refine bodyPost_ret (v := turnv m e c r q d u h l) (by rw [turnv_eq]; simp [results, Try.results31, go_sem, r0, r1, r2, r3, r4]) rfl ⟨rfl, (((((k4.up.setCell (p := ⟨w.heap.size + 1 + 1, 0, none⟩) (by simp; omega) _).setCell (p := ⟨w.heap.size + 1 + 1, 1, none⟩) (by simp; omega) _).setCell (p := ⟨w.heap.size + 1 + 1, 2, none⟩) (by simp; omega) _).setCell (p := ⟨w.heap.size + 1 + 1, 3, none⟩) (by simp; omega) _).setCell (p := ⟨w.heap.size + 1 + 1, 4, none⟩) (by simp; omega) _)⟩

end Go.Proofs.Ytjdfgefmjiiojaa
