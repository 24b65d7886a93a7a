/- Contracts and plain laws for the statement of this claim; no condition. Here: package heap: up, down. package heap: down. package heap: push, cut. package calendar: Push. A range over a function, at the plain level: the statement, and a call of yield out of the body's walk. package heap: each. package heap: find. package heap: Push, Pop. package ladder: what its parts' changes leave of the object. -/
import Derived.Test.YtalmjdlcogdpmaaGreatDoorR7
import Derived.Deep.Cut
import Derived.Deep.CutRange
import Derived.Test.YtalmjdlcogdpmaaGreatDoorR5
import Derived.Test.YtalmjdlcogdpmaaGreatDoorR8
import Derived.Test.YtalmjdlcogdpmaaGreatDoorR4
import Derived.RangeFuncSeq
import Derived.Shelf.Abstract
import Derived.TacticsInMore
set_option linter.unusedVariables false
set_option linter.unusedSimpArgs false

namespace Go.Proofs.YtalmjdlcogdpmaaGreatDoor
open Go.RowKit
attribute [local go_sem] upUpon_value upUpon_enter upUpon_skip upUpon_row ucUpon_value ucUpon_skip ucUpon_enter ucUpon_row

set_option maxRecDepth 100000 in
set_option maxHeartbeats 1000000 in
theorem heapup_any (h g cap i : Nat) (L : List Msg) (w : World) (x : HeapIs w h (slc g L.length cap) L) (hi : i < L.length) (hn : L.length ≤ 1000000) (hU : UpI L i) :
    Calls Tryz.prog 130 #[.pointer (some ⟨h, 0, none⟩), .int .i64 i] w fun e w' => e = .returned (.tuple #[]) ∧ Chg (· = g) w w' ∧ ∃ L', HeapIs w' h (slc g L.length cap) L' ∧ L'.Perm L ∧ HeapO L' := by
  have H := Lib.hid (And.intro x hU)
  have hgh : h ≠ g := fun e => x.ap (same_slc.2 e)
  obtain ⟨N, hN⟩ : ∃ N, L.length = N := ⟨_, rfl⟩
  have HN := Lib.hid hN
  rw [hN] at hi hn ⊢
  clear x hU hN
  have hB0 : Hid (Blk w h [slc g N cap, befF]) := Lib.hid (by have := H.out.1.b; rwa [HN.out] at this)
  have close : ∀ (W : World) (M : List Msg), Chg (· = g) w W → RowM W (slc g N cap) M → HeapIs W h (slc g N cap) M := fun W M hc hr =>
    ⟨hB0.out.chg hc hgh, hr, fun j => (hc.marks _).trans (H.out.1.fz j), fun hk => hgh (same_slc.1 hk)⟩
  have HC := Lib.hid close
  clear close
  go_enter Tryz.func130, Tryz.ntmps130
  go_wp2_with fail
  go_loopw [1] (fun v wr => ∃ i : Nat, ∃ M : List Msg, i < N ∧ v = .int .i64 i ∧ Hid (Chg (· = g) w wr) ∧ Hid (RowM wr (slc g N cap) M) ∧ Hid (M.Perm L) ∧ Hid (UpI M i)) (fun v _ => (intOf v).toNat)
  case atStart => exact ⟨i, L, hi, rfl, Lib.hid (Chg.refl _ _), Lib.hid (by have := H.out.1.r; rw [HN.out] at this; exact this), Lib.hid (.refl _), Lib.hid H.out.2⟩
  case round =>
    clear hi
    obtain ⟨i, M, hi, rfl, hc, hr, hp, hu⟩ := hrel
    have HML : Hid (M.length = N) := Lib.hid (by rw [hp.out.length_eq]; exact HN.out)
    have bH := hB0.out.chg hc.out hgh
    rcases Nat.eq_zero_or_pos i with h0 | h0
    · subst h0
      go_wp2
      go_end0
      exact ⟨rfl, hc.out, M, HC.out _ _ hc.out hr.out, hp.out, hu.out.stop (fun h => absurd h (by omega))⟩
    · obtain ⟨j, hj⟩ : ∃ j, j = par i := ⟨_, rfl⟩
      have hj' : j = (i - 1) / 2 := hj
      have w_j : ((i : Int) - 1) / 2 = (j : Int) := by omega
      have hjN : j < N := by omega
      have hd : decide ((i : Int) > 0) = true := decide_eq_true (by omega)
      have hji : j < i := by omega
      have HJ := Lib.hid hj
      clear hj hj'
      go_upto_region 2 with (fail)
      simp only [w_j]
      have hl := HML.out
      obtain ⟨u, hu1⟩ : ∃ u, M[i]? = some u := ⟨M[i]'(by omega), List.getElem?_eq_getElem _⟩
      obtain ⟨v, hv1⟩ : ∃ v, M[j]? = some v := ⟨M[j]'(by omega), List.getElem?_eq_getElem _⟩
      have kH := bH.lift
      have ku := (hr.out.blkM hu1).lift
      have ku0 := liftC (hr.out.blkM hu1).zero
      have kv := (hr.out.blkM hv1).lift
      have kv0 := liftC (hr.out.blkM hv1).zero
      have HX := Lib.hid (And.intro hu1 hv1)
      clear hu1 hv1 hl w_j hd
      refine region_upL0 [0, 1, 2, 3, 4, 5, 6, 7, 8, 9, 10, 11, 12, 13, 14, 15, 16, 17, 18] [] 19 [] (by kernel_rfl) (by kernel_rfl) ?_
      simp only [getOps, List.getElem?_cons_zero, List.getElem?_cons_succ]
      repeat (first | (apply wpUp_step rfl rfl; (focus (intro W hU; go_simp; first | exact ⟨rfl, Up.refl _⟩ | exact before_any u v W))); go_simp)
      refine wpUp_nil fun W3 hW3 => ?_
      refine wpNew_nil fun W4 hW4 => ?_
      clear kH ku ku0 kv kv0
      have HR := Lib.hid (hr.out.upM ((up_drew.trans hW3).trans hW4))
      have hc4 := Lib.hid (hc.out.up ((up_drew.trans hW3).trans hW4))
      rcases hbf : befB u v with _ | _
      · have HB := Lib.hid hbf
        clear hbf
        go_wp2
        refine bodyPost_ret (results_none rfl _ _ _) rfl ?_
        exact ⟨rfl, hc4.out, M, HC.out _ _ hc4.out HR.out, hp.out, hu.out.stop (fun _ => by rw [← HJ.out]; exact leA.of_no HX.out.2 HX.out.1 HB.out)⟩
      · have HB := Lib.hid hbf
        clear hbf
        go_upto_region 3 with (fail)
        have kH := (bH.up ((up_drew.trans hW3).trans hW4)).lift
        have ku := (HR.out.blkM HX.out.1).lift
        have ku0 := liftC (HR.out.blkM HX.out.1).zero
        have kv := (HR.out.blkM HX.out.2).lift
        have kv0 := liftC (HR.out.blkM HX.out.2).zero
        refine region_upL [9] [0, 1, 2, 3, 4, 5, 6, 7, 8, 9, 10, 11, 12, 13, 14, 15, 16, 17, 18, 19, 20, 21, 22, 23, 24] [] 25 [26, 27] (by kernel_rfl) (by kernel_rfl) (fun d _ _ _ _ h => by cases d <;> exact h) ?_
        simp only [getOps, List.getElem?_cons_zero, List.getElem?_cons_succ]
        repeat (first | (apply wpUp_pure rfl; (focus (intro W; go_simp; rfl))) | (apply wpUp_step rfl rfl; (focus (intro W hU; go_simp; exact ⟨rfl, Up.refl _⟩))); go_simp)
        refine wpUp_nil fun W5 hW5 => ?_
        refine wpNew_nil fun W6 hW6 => ?_
        clear kH ku ku0 kv kv0
        have hl := HML.out
        refine wpList_storeM rfl _ _ rfl v i (HR.out.upM ((up_drew.trans hW5).trans hW6)) (hl.symm ▸ hi) rfl rfl fun W7 r7 c7 => ?_
        refine wpList_build rfl (by go_simp; rfl) ?_
        refine wpList_storeM rfl _ _ rfl u j r7 (by rw [List.length_set, hl]; exact hjN) rfl rfl fun W8 r8 c8 => ?_
        have H8 := Lib.hid (And.intro r8 (((hc4.out.up ((up_drew.trans hW5).trans hW6)).trans c7 (fun _ _ e => e)).trans c8 (fun _ _ e => e)))
        clear r7 c7 r8 c8 hl
        go_wp2
        have hxp := HX.out
        have h8 := H8.out.1
        rw [← swp_eq hxp.1 hxp.2, HJ.out] at h8
        exact ⟨⟨j, swp M i (par i), by omega, rfl, Lib.hid H8.out.2, Lib.hid h8, Lib.hid ((swp_perm _ _ _).trans hp.out), Lib.hid (by rw [HJ.out]; exact hu.out.step h0 (by rw [HML.out]; exact hi) hxp.1 (by rw [← HJ.out]; exact hxp.2) HB.out)⟩, by simp [intOf]; omega⟩
end Go.Proofs.YtalmjdlcogdpmaaGreatDoor

namespace Go.Proofs.YtalmjdlcogdpmaaGreatDoor
open Go.RowKit
attribute [local go_sem] upUpon_value upUpon_enter upUpon_skip upUpon_row ucUpon_value ucUpon_skip ucUpon_enter ucUpon_row

set_option maxRecDepth 100000 in
set_option maxHeartbeats 2000000 in
theorem heapdown_any (h g cap i0 : Nat) (L : List Msg) (w : World) (x : HeapIs w h (slc g L.length cap) L) (hi : i0 < L.length) (hn : L.length ≤ 1000000) (hU : DownI L i0 i0) :
    Calls Tryz.prog 129 #[.pointer (some ⟨h, 0, none⟩), .int .i64 i0] w fun e w' => e = .returned (.tuple #[]) ∧ Chg (· = g) w w' ∧ ∃ L', HeapIs w' h (slc g L.length cap) L' ∧ L'.Perm L ∧ UpI L' i0 := by
  have H := Lib.hid (And.intro x hU)
  have hgh : h ≠ g := fun e => x.ap (same_slc.2 e)
  obtain ⟨N, hN⟩ : ∃ N, L.length = N := ⟨_, rfl⟩
  have HN := Lib.hid hN
  rw [hN] at hi hn ⊢
  clear x hU hN
  have hB0 : Hid (Blk w h [slc g N cap, befF]) := Lib.hid (by have := H.out.1.b; rwa [HN.out] at this)
  have close : ∀ (W : World) (M : List Msg), Chg (· = g) w W → RowM W (slc g N cap) M → HeapIs W h (slc g N cap) M := fun W M hc hr =>
    ⟨hB0.out.chg hc hgh, hr, fun j => (hc.marks _).trans (H.out.1.fz j), fun hk => hgh (same_slc.1 hk)⟩
  have HC := Lib.hid close
  clear close
  go_enter Tryz.func129, Tryz.ntmps129
  go_wp2_with fail
  go_loopw [1] (fun v wr => ∃ i : Nat, ∃ M : List Msg, i < N ∧ v = .int .i64 i ∧ Hid (Chg (· = g) w wr) ∧ Hid (RowM wr (slc g N cap) M) ∧ Hid (M.Perm L) ∧ Hid (DownI M i0 i)) (fun v _ => N - (intOf v).toNat)
  case atStart => exact ⟨i0, L, hi, rfl, Lib.hid (Chg.refl _ _), Lib.hid (by have := H.out.1.r; rw [HN.out] at this; exact this), Lib.hid (.refl _), Lib.hid H.out.2⟩
  case round =>
    clear hi
    obtain ⟨i, M, hi, rfl, hc, hr, hp, hu⟩ := hrel
    have HML : Hid (M.length = N) := Lib.hid (by rw [hp.out.length_eq]; exact HN.out)
    have bH := hB0.out.chg hc.out hgh
    have rH := bH.get
    obtain ⟨j, hj⟩ : ∃ j, j = 2 * i + 1 := ⟨_, rfl⟩
    have w_j : IntKind.i64.wrap (2 * (i : Int) + 1) = (j : Int) := by rw [IntWalk.i64_in _ (by omega)]; omega
    have hj1 : 2 * i + 1 ≤ j := by omega
    have hj2 : j ≤ 2 * i + 1 := by omega
    clear hj
    by_cases hjN : j < N
    · have hd : decide ((j : Int) ≥ (N : Int)) = false := decide_eq_false (by omega)
      go_upto_region 2 with (fail)
      clear rH w_j hd
      obtain ⟨q, hq⟩ : ∃ q, q = j + 1 := ⟨_, rfl⟩
      have w_q : IntKind.i64.wrap ((j : Int) + 1) = (q : Int) := by rw [IntWalk.i64_in _ (by omega)]; omega
      have hq1 : j + 1 ≤ q := by omega
      have hq2 : q ≤ j + 1 := by omega
      clear hq
      obtain ⟨wo, rfl⟩ : ∃ wo : World, wo = wr := ⟨_, rfl⟩
      go_cut [44] from 5 to 93 (fun v wx => ∃ b : Bool, v = .bool b ∧ Hid (Chg (· = g) w wx) ∧ Hid (RowM wx (slc g N cap) M) ∧ Hid (b = true → q < N ∧ leA M q j) ∧ Hid (b = false → q < N → leA M j q))
      case first =>
        have kH := bH.lift
        by_cases hqN : q < N
        · have hl := HML.out
          obtain ⟨u, hu1⟩ : ∃ u, M[q]? = some u := ⟨M[q]'(by omega), List.getElem?_eq_getElem _⟩
          obtain ⟨v, hv1⟩ : ∃ v, M[j]? = some v := ⟨M[j]'(by omega), List.getElem?_eq_getElem _⟩
          have ku := (hr.out.blkM hu1).lift
          have ku0 := liftC (hr.out.blkM hu1).zero
          have kv := (hr.out.blkM hv1).lift
          have kv0 := liftC (hr.out.blkM hv1).zero
          have HX := Lib.hid (And.intro hu1 hv1)
          have hd : decide (q < N) = true := decide_eq_true hqN
          clear hu1 hv1 hl
          refine region_upL0 [0, 1, 2, 3, 4, 5, 6, 7, 8, 9, 10, 11, 12, 13, 14, 15, 16, 17, 18, 19, 20, 21, 22, 23, 24, 25, 26, 27, 28] [] 29 [] (by kernel_rfl) (by kernel_rfl) ?_
          simp only [getOps, List.getElem?_cons_zero, List.getElem?_cons_succ]
          iterate 9 (apply wpUp_step rfl rfl; (focus (intro W hU; go_simp; exact ⟨rfl, Up.refl _⟩)); go_simp)
          iterate 19 (apply wpUp_yes rfl rfl; (focus (intro W hU; go_simp; exact ⟨rfl, Up.refl _⟩)); go_simp)
          (apply wpUp_yes rfl rfl; (focus (intro W hU; go_simp; exact before_any u v W)); go_simp)
          refine wpUp_nil fun W3 hW3 => ?_
          refine wpNew_nil fun W4 hW4 => ?_
          clear kH ku ku0 kv kv0 hd w_q
          have HR := Lib.hid (hr.out.upM ((up_drew.trans hW3).trans hW4))
          have hc4 := Lib.hid (hc.out.up ((up_drew.trans hW3).trans hW4))
          have HF : Hid ((befB u v = true → q < N ∧ leA M q j) ∧ (befB u v = false → q < N → leA M j q)) := Lib.hid ⟨fun hb => ⟨hqN, leA.of_lt HX.out.1 HX.out.2 hb⟩, fun hb _ => leA.of_no HX.out.2 HX.out.1 hb⟩
          obtain ⟨bt, hbt⟩ : ∃ bt, befB u v = bt := ⟨_, rfl⟩
          rw [hbt] at HF ⊢
          clear hbt
          go_wp2
          go_meet
          case rel => exact ⟨bt, rfl, hc4, HR, Lib.hid HF.out.1, Lib.hid HF.out.2⟩
        · have hd : decide (q < N) = false := decide_eq_false hqN
          refine region_upL0 [0, 1, 2, 3, 4, 5, 6, 7, 8, 9, 10, 11, 12, 13, 14, 15, 16, 17, 18, 19, 20, 21, 22, 23, 24, 25, 26, 27, 28] [] 29 [] (by kernel_rfl) (by kernel_rfl) ?_
          simp only [getOps, List.getElem?_cons_zero, List.getElem?_cons_succ]
          iterate 9 (apply wpUp_step rfl rfl; (focus (intro W hU; go_simp; exact ⟨rfl, Up.refl _⟩)); go_simp)
          iterate 20 (apply wpUp_no rfl; go_simp)
          refine wpUp_nil fun W3 hW3 => ?_
          refine wpNew_nil fun W4 hW4 => ?_
          clear kH hd w_q
          have HR := Lib.hid (hr.out.upM ((up_drew.trans hW3).trans hW4))
          have hc4 := Lib.hid (hc.out.up ((up_drew.trans hW3).trans hW4))
          go_wp2
          go_meet
          case rel => exact ⟨false, rfl, hc4, HR, Lib.hid (fun h => by cases h), Lib.hid (fun _ h => absurd h hqN)⟩
      case rest =>
        obtain ⟨b, rfl, hc2, hr2, hb1, hb2⟩ := hcut
        obtain ⟨w2, rfl⟩ : ∃ w2 : World, w2 = wc := ⟨_, rfl⟩
        go_upto_if 44 with fail
        go_cut [4] from 5 to 93 (fun v wx => ∃ c : Nat, v = .int .i64 c ∧ wx = w2 ∧ c < N ∧ 0 < c ∧ i < c ∧ Hid (par c = i ∧ ∀ j, 0 < j → j < N → par j = i → leA M c j))
        case first =>
          cases b
          · go_wp2
            go_meet
            case rel => exact ⟨j, rfl, rfl, hjN, by omega, by omega, Lib.hid ⟨by unfold par; omega, fun k k1 k2 k3 => by
              rcases (show k = j ∨ k = q by unfold par at k3; omega) with rfl | rfl
              · intro x y hx hy
                rw [hx] at hy; cases hy; exact befB_irrefl _
              · exact hb2.out trivial k2⟩⟩
          · have hqN := (hb1.out rfl).1
            go_wp2
            go_meet
            case rel => exact ⟨q, rfl, rfl, hqN, by omega, by omega, Lib.hid ⟨by unfold par; omega, fun k k1 k2 k3 => by
              rcases (show k = j ∨ k = q by unfold par at k3; omega) with rfl | rfl
              · exact (hb1.out trivial).2
              · intro x y hx hy
                rw [hx] at hy; cases hy; exact befB_irrefl _⟩⟩
        case rest =>
          obtain ⟨c, rfl, rfl, hcN, hc0, hic, hpc⟩ := hcut
          obtain ⟨w3, rfl⟩ : ∃ w3 : World, w3 = wc := ⟨_, rfl⟩
          clear hb1 hb2 w_q
          have bH2 := hB0.out.chg hc2.out hgh
          go_upto_region 4 with (fail)
          have hl := HML.out
          obtain ⟨u, hu1⟩ : ∃ u, M[c]? = some u := ⟨M[c]'(by omega), List.getElem?_eq_getElem _⟩
          obtain ⟨v, hv1⟩ : ∃ v, M[i]? = some v := ⟨M[i]'(by omega), List.getElem?_eq_getElem _⟩
          have kH := bH2.lift
          have ku := (hr2.out.blkM hu1).lift
          have ku0 := liftC (hr2.out.blkM hu1).zero
          have kv := (hr2.out.blkM hv1).lift
          have kv0 := liftC (hr2.out.blkM hv1).zero
          have HX := Lib.hid (And.intro hu1 hv1)
          clear hu1 hv1 hl
          refine region_upL0 [0, 1, 2, 3, 4, 5, 6, 7, 8, 9, 10, 11, 12, 13, 14, 15, 16, 17, 18] [] 19 [] (by kernel_rfl) (by kernel_rfl) ?_
          simp only [getOps, List.getElem?_cons_zero, List.getElem?_cons_succ]
          repeat (first | (apply wpUp_step rfl rfl; (focus (intro W hU; go_simp; first | exact ⟨rfl, Up.refl _⟩ | exact before_any u v W))); go_simp)
          refine wpUp_nil fun W3 hW3 => ?_
          refine wpNew_nil fun W4 hW4 => ?_
          clear kH ku ku0 kv kv0
          have HR := Lib.hid (hr2.out.upM ((up_drew.trans hW3).trans hW4))
          have hc4 := Lib.hid (hc2.out.up ((up_drew.trans hW3).trans hW4))
          rcases hbf : befB u v with _ | _
          · have HB := Lib.hid hbf
            clear hbf
            go_wp2
            refine bodyPost_ret (results_none rfl _ _ _) rfl ?_
            exact ⟨rfl, hc4.out, M, HC.out _ _ hc4.out HR.out, hp.out, hu.out.stop (fun k k1 k2 k3 => (leA.of_no HX.out.2 HX.out.1 HB.out).trans (hpc.out.2 k k1 (by rw [← HML.out]; exact k2) k3) (by rw [HML.out]; exact hcN))⟩
          · have HB := Lib.hid hbf
            clear hbf
            go_upto_region 5 with (fail)
            have kH := (bH2.up ((up_drew.trans hW3).trans hW4)).lift
            have ku := (HR.out.blkM HX.out.1).lift
            have ku0 := liftC (HR.out.blkM HX.out.1).zero
            have kv := (HR.out.blkM HX.out.2).lift
            have kv0 := liftC (HR.out.blkM HX.out.2).zero
            refine region_upL [9] [0, 1, 2, 3, 4, 5, 6, 7, 8, 9, 10, 11, 12, 13, 14, 15, 16, 17, 18, 19, 20, 21, 22, 23, 24] [] 25 [26, 27] (by kernel_rfl) (by kernel_rfl) (fun d _ _ _ _ h => by cases d <;> exact h) ?_
            simp only [getOps, List.getElem?_cons_zero, List.getElem?_cons_succ]
            repeat (first | (apply wpUp_pure rfl; (focus (intro W; go_simp; rfl))) | (apply wpUp_step rfl rfl; (focus (intro W hU; go_simp; exact ⟨rfl, Up.refl _⟩))); go_simp)
            refine wpUp_nil fun W5 hW5 => ?_
            refine wpNew_nil fun W6 hW6 => ?_
            clear kH ku ku0 kv kv0
            have hl := HML.out
            refine wpList_storeM rfl _ _ rfl u i (HR.out.upM ((up_drew.trans hW5).trans hW6)) (hl.symm ▸ hi) rfl rfl fun W7 r7 c7 => ?_
            refine wpList_build rfl (by go_simp; rfl) ?_
            refine wpList_storeM rfl _ _ rfl v c r7 (by rw [List.length_set, hl]; exact hcN) rfl rfl fun W8 r8 c8 => ?_
            have H8 := Lib.hid (And.intro r8 (((hc4.out.up ((up_drew.trans hW5).trans hW6)).trans c7 (fun _ _ e => e)).trans c8 (fun _ _ e => e)))
            clear r7 c7 r8 c8 hl
            go_wp2
            have hxp := HX.out
            have h8 := H8.out.1
            rw [← swp_eq hxp.2 hxp.1] at h8
            exact ⟨⟨c, swp M i c, hcN, rfl, Lib.hid H8.out.2, Lib.hid h8, Lib.hid ((swp_perm _ _ _).trans hp.out), Lib.hid (hu.out.step hc0 (by rw [HML.out]; exact hcN) hpc.out.1 hxp.1 hxp.2 HB.out (fun k k1 k2 k3 => hpc.out.2 k k1 (by rw [← HML.out]; exact k2) k3))⟩, by simp [intOf]; omega⟩
    · have hd : decide ((j : Int) ≥ (N : Int)) = true := decide_eq_true (by omega)
      go_wp2
      refine bodyPost_ret (results_none rfl _ _ _) rfl ?_
      exact ⟨rfl, hc.out, M, HC.out _ _ hc.out hr.out, hp.out, hu.out.stop (fun k k1 k2 k3 => by have := HML.out; unfold par at k3; omega)⟩
end Go.Proofs.YtalmjdlcogdpmaaGreatDoor

namespace Go.Proofs.YtalmjdlcogdpmaaGreatDoor
open Go.RowKit
attribute [local go_sem] upUpon_value upUpon_enter upUpon_skip upUpon_row ucUpon_value ucUpon_skip ucUpon_enter ucUpon_row

theorem OwnR.caseM' {w : World} {v : Value} {L : List Msg} (h : RowM w v L) : (v = .slice none 0 0 ∧ L = []) ∨ ∃ g cap, v = slc g L.length cap := by
  rcases h.is with ⟨h1, h2⟩ | ⟨g, cap, h1, _⟩
  · exact .inl ⟨h1, List.eq_nil_of_length_eq_zero h2⟩
  · exact .inr ⟨g, cap, h1⟩
theorem UpI.of_snoc {L : List Msg} (h : HeapO L) (x : Msg) : UpI (L ++ [x]) L.length :=
  ⟨fun j h1 h2 h3 => by
    rw [List.length_append, List.length_singleton] at h2
    have hp : par j < j := by unfold par; omega
    exact (h j h1 (by omega)).congr (List.getElem?_append_left (by omega)) (List.getElem?_append_left (by omega)),
   fun j h1 h2 h3 h4 => by
    rw [List.length_append, List.length_singleton] at h2
    have hp : par j < j := by unfold par; omega
    omega⟩
theorem set_perm_erase (z : Msg) : ∀ (L : List Msg) (i : Nat), i < L.length → (L.set i z).Perm (L.eraseIdx i ++ [z])
  | [], _, h => by simp at h
  | y :: L, 0, _ => by simp only [List.set_cons_zero, List.eraseIdx_zero, List.tail_cons]; exact List.perm_append_comm (l₁ := [z]) (l₂ := L)
  | y :: L, i + 1, h => by
    simp only [List.set_cons_succ, List.eraseIdx_cons_succ, List.cons_append]
    exact List.Perm.cons _ (set_perm_erase z L i (by simpa using h))
theorem cut_perm {L : List Msg} {i : Nat} {z : Msg} (hi : i < L.length) (hz : L[L.length - 1]? = some z) : ((L.set i z).take (L.length - 1)).Perm (L.eraseIdx i) := by
  rcases List.eq_nil_or_concat L with h | ⟨K, y, h⟩
  · subst h; simp at hi
  · rw [List.concat_eq_append] at h
    subst h
    simp only [List.length_append, List.length_singleton, Nat.add_sub_cancel] at hi hz ⊢
    rw [List.getElem?_append_right (Nat.le_refl _), Nat.sub_self] at hz
    simp at hz
    subst hz
    by_cases e : i < K.length
    · rw [List.set_append_left _ _ e, List.take_append_of_le_length (by rw [List.length_set]; omega), List.take_of_length_le (by rw [List.length_set]; omega), List.eraseIdx_append_of_lt_length e]
      exact set_perm_erase _ _ _ e
    · have : i = K.length := by omega
      subst this
      rw [List.set_append_right _ _ (Nat.le_refl _), List.take_append_of_le_length (Nat.le_refl _), List.take_of_length_le (Nat.le_refl _), List.eraseIdx_append_of_length_le (Nat.le_refl _)]
      simp

set_option maxRecDepth 100000 in
set_option maxHeartbeats 2000000 in
theorem heappush_any (h : Nat) (v : Value) (m : Msg) (L : List Msg) (w : World) (x : HeapIs w h v L) (hn : L.length ≤ 100000) (hO : HeapO L) :
    Calls Tryz.prog 128 #[.pointer (some ⟨h, 0, none⟩), m.val] w fun e w' => e = .returned (.tuple #[]) ∧ Chg (heapFoot h v) w w' ∧ ∃ v' L', HeapIs w' h v' L' ∧ L'.Perm (L ++ [m]) ∧ HeapO L' ∧ ∀ k, sameBlock v' k → sameBlock v k ∨ w.heap.size ≤ k := by
  have H := Lib.hid (And.intro x (And.intro hO hn))
  have hlt : h < w.heap.size := x.lt h (.inl rfl)
  clear x hO hn
  simp only [Msg.val]
  go_enter Tryz.func128, Tryz.ntmps128
  go_upto_region 1 with (fail)
  refine wp_alloc1 fun W1 hU1 hs1 bM => ?_
  have x1 := H.out.1.up hU1
  obtain ⟨p, c, hv⟩ := OwnR.form x1.r
  have kH := x1.b.lift
  rw [hv] at kH
  have kM := bM.lift
  have HV := Lib.hid (And.intro hv x1)
  clear hv x1
  refine region_upL [0] [0, 1, 2, 3, 4, 5] [6] 7 [8, 9, 10] (by kernel_rfl) (by kernel_rfl) (fun d _ _ _ _ h => by cases d <;> exact h) ?_
  simp only [getOps, List.getElem?_cons_zero, List.getElem?_cons_succ]
  repeat (first | (apply wpUp_pure rfl; (focus (intro W; go_simp; rfl))) | (apply wpUp_step rfl rfl; (focus (intro W hU; go_simp; exact ⟨rfl, Up.refl _⟩))); go_simp)
  refine wpUp_nil fun W3 hW3 => ?_
  clear kH kM
  refine wpNew_step rfl fun W4 hW4 K hK => ?_
  go_simp
  refine ⟨alloc_up _ _ _, hK _ _ ?_⟩
  clear hK K
  refine wpNew_nil fun W5 hW5 => ?_
  have hU15 : Up W1 W5 := (((up_drew.trans hW3).trans hW4).trans (alloc_up _ _ _)).trans hW5
  have hX : HeapIs W5 h v L := HV.out.2.up hU15
  have hb5 := (Blk.alloc W4 m.list 43).up hW5
  have hv5 := HV.out.1
  have hr5 := hX.r
  rw [hv5] at hr5
  refine wpList_appendM (K := [m]) rfl (.tmp 8) (.tmp 10) rfl rfl hr5 rfl (srcBlkM hb5) (by have := H.out.2.2; simp; omega) fun v' W6 hA => ?_
  have HA := Lib.hid (And.intro hX (And.intro hA hU15))
  have hbk : Chg (sameBlock v) W5 W6 := by rw [hv5]; exact hA.chg
  have b6 : Blk W6 h [v, befF] := hX.b.chg hbk hX.ap
  have hlen : (L ++ [m]).length = L.length + 1 := by simp
  obtain ⟨g', c', hv'⟩ : ∃ g' c', v' = slc g' (L.length + 1) c' := by
    rcases hA.row.caseM' with ⟨_, h1⟩ | ⟨g', c', h1⟩
    · simp at h1
    · exact ⟨g', c', by rw [← hlen]; exact h1⟩
  have hF6 : ∀ j, W6.frozen? ⟨h, j, none⟩ = false := fun j => (hbk.marks _).trans (hX.fz j)
  have b7 : Blk (W6.setCell ⟨h, 0, none⟩ v') h [v', befF] := b6.set 0 v' (by simp)
  have hap : ¬ sameBlock v' h := fun hk => by
    rcases hA.new h hk with h1 | h1
    · rw [← hv5] at h1; exact hX.ap h1
    · have := hU1.1.size; have := hU15.1.size; omega
  have c7 : Chg (· = h) W6 (W6.setCell ⟨h, 0, none⟩ v') := Chg.setCell (S := (· = h)) (p := ⟨h, 0, none⟩) (Chg.refl _ _) (Or.inl rfl) _
  have hX7 : HeapIs (W6.setCell ⟨h, 0, none⟩ v') h v' (L ++ [m]) := ⟨b7, hA.row.chgM c7 (fun k hk e => by subst e; exact hap hk), fun j => (c7.marks _).trans (hF6 j), hap⟩
  have cT : Chg (heapFoot h v) w (W6.setCell ⟨h, 0, none⟩ v') := ((Chg.of_up (S := heapFoot h v) (hU1.trans hU15)).trans hbk (fun _ _ e => .inr e)).trans c7 (fun _ _ e => .inl e)
  have hnw : ∀ k, sameBlock v' k → sameBlock v k ∨ w.heap.size ≤ k := fun k hk => by
    rcases hA.new k hk with h1 | h1
    · left; rw [hv5]; exact h1
    · right; have := hU1.1.size; have := hU15.1.size; omega
  have rb6 := b6.get
  subst hv'
  have H7 := Lib.hid (And.intro hX7 (And.intro cT hnw))
  have H6 := Lib.hid (And.intro b6 hF6)
  have hF60 := hF6 0
  have rb7 := b7.get
  clear hX hb5 hr5 hA hbk b6 hF6 b7 hap c7 hX7 cT hnw HA hv5 hlen
  have hn := H.out.2.2
  have hup := heapup_any h g' c' L.length (L ++ [m]) (W6.setCell ⟨h, 0, none⟩ (slc g' (L.length + 1) c')) (by rw [List.length_append, List.length_singleton]; exact H7.out.1) (by simp) (by simp; omega) (UpI.of_snoc H.out.2.1 m)
  rw [List.length_append, List.length_singleton] at hup
  have HUP := Lib.hid hup
  clear hup
  go_wp2_with fail
  refine HUP.out.mono ?_
  rintro e w2 ⟨rfl, hc, L', hx, hp, ho⟩
  have H2 := Lib.hid (And.intro hc (And.intro hx (And.intro hp ho)))
  clear hc hx hp ho
  go_wp2
  go_end0
  refine ⟨rfl, H7.out.2.1.trans H2.out.1 (fun k hk e => ?_), _, L', H2.out.2.1, H2.out.2.2.1, H2.out.2.2.2, H7.out.2.2⟩
  rcases H7.out.2.2 k (same_slc.2 e) with h1 | h1
  · exact .inr h1
  · omega

theorem msgCells_take (L : List Msg) (k : Nat) : msgCells (L.take k) = (msgCells L).take (k * 7) := by
  induction L generalizing k with
  | nil => simp [msgCells]
  | cons e L ih =>
    cases k with
    | zero => simp [msgCells]
    | succ k =>
      simp only [List.take_succ_cons, msgCells, List.flatMap_cons] at ih ⊢
      rw [ih k, List.take_append, show e.list.length = 7 from rfl, List.take_of_length_le (l := e.list) (by show (7 : Nat) ≤ _; omega), show (k + 1) * 7 - 7 = k * 7 by omega]
theorem OwnR.takeM {W : World} {g n cap k : Nat} {L : List Msg} (h : RowM W (slc g n cap) L) (hk : k ≤ L.length) (c : Nat) (hc1 : k ≤ c) (hc2 : c ≤ cap) : RowM W (slc g k c) (L.take k) := by
  have hn := OwnR.lenM h
  subst hn
  have hks : k * 7 ≤ L.length * 7 := Nat.mul_le_mul_right _ hk
  unfold RowM
  rw [msgCells_take, List.length_take, Nat.min_eq_left hk]
  refine ⟨by rw [List.length_take, msgCells_length]; omega, ?_⟩
  rcases h.2 with ⟨h1, _⟩ | ⟨g', cap', cur, h1, h2, h3, h4, h5, h6⟩
  · cases h1
  · injection h1 with e1 e2 e3
    injection e1 with e1
    injection e1 with e1 _ _
    subst e1 e3
    refine .inr ⟨g, c, cur, rfl, h2, hc1, by omega, by have : c * 7 ≤ cap * 7 := Nat.mul_le_mul_right _ hc2; omega, ?_⟩
    rw [← h6, List.take_take]
    congr 1
    omega
theorem HeapO.take {L : List Msg} (h : HeapO L) (k : Nat) : HeapO (L.take k) := fun j h1 h2 => by
  rw [List.length_take] at h2
  have hp : par j < j := by unfold par; omega
  exact (h j h1 (by omega)).congr (List.getElem?_take_of_lt (by omega)) (List.getElem?_take_of_lt (by omega))

set_option maxRecDepth 100000 in
set_option maxHeartbeats 2000000 in
theorem heapcut_any (h : Nat) (v : Value) (i : Nat) (m : Msg) (L : List Msg) (w : World) (x : HeapIs w h v L) (hi : L[i]? = some m) (hn : L.length ≤ 100000) (hO : HeapO L) :
    Calls Tryz.prog 126 #[.pointer (some ⟨h, 0, none⟩), .int .i64 i] w fun e w' => e = .returned m.val ∧ Chg (heapFoot h v) w w' ∧ ∃ v' L', HeapIs w' h v' L' ∧ L'.Perm (L.eraseIdx i) ∧ HeapO L' ∧ ∀ k, sameBlock v' k → sameBlock v k := by
  have hil := (List.getElem?_eq_some_iff.1 hi).1
  obtain ⟨N, hN⟩ : ∃ N, L.length = N + 1 := ⟨L.length - 1, by omega⟩
  obtain ⟨z, hz⟩ : ∃ z, L[N]? = some z := ⟨L[N]'(by omega), List.getElem?_eq_getElem _⟩
  obtain ⟨g, cap, hv, _⟩ := x.r.atM hi
  rw [hN] at hv hil
  have hgh : h ≠ g := fun e => x.ap (by rw [hv]; exact same_slc.2 e)
  have hlt : h < w.heap.size := x.lt h (.inl rfl)
  have hglt : g < w.heap.size := x.lt g (.inr (by rw [hv]; rfl))
  obtain ⟨Q, hQ⟩ : ∃ Q, Q = N + 1 := ⟨_, rfl⟩
  rw [← hQ] at hv hN hil
  have hQ1 : N < Q := by omega
  have hQ2 : Q ≤ N + 1 := by omega
  have hb0 := x.b
  have hr0 := x.r
  rw [hv] at hb0 hr0
  have H := Lib.hid (And.intro x (And.intro hO (And.intro hi (And.intro hz (And.intro hN (And.intro hv (And.intro hb0 hr0)))))))
  rw [hN] at hn
  clear x hO hi hz hN hv hb0 hr0 hQ
  go_enter Tryz.func126, Tryz.ntmps126
  go_upto_region 1 with (fail)
  refine wp_alloc1 fun W1 hU1 hs1 bR => ?_
  have b1 := H.out.2.2.2.2.2.2.1.up hU1
  have r1 := H.out.2.2.2.2.2.2.2.upM hU1
  have be := r1.blkM H.out.2.2.1
  have kH := b1.lift
  have ke := be.lift
  have ke0 := liftC be.zero
  have kHc : ∀ W, Chg (fun q => W1.heap.size ≤ q) W1.drew W → ∀ i, i < 2 → W.cell? ⟨h, i, none⟩ = some ([slc g Q cap, befF].getD i undef) := fun W hW => ((b1.up up_drew).chg hW (fun e => by have : W1.heap.size ≤ h := e; have := hU1.1.size; omega)).get
  have w_n : IntKind.i64.wrap ((Q : Int) - 1) = (N : Int) := by rw [IntWalk.i64_in _ (by omega)]; omega
  clear be
  refine region_two (fun q => W1.heap.size ≤ q) [7, 8, 9, 10, 11, 12] [0, 1, 2, 3, 4, 5, 6, 7, 8, 9, 10, 11, 12] [13] 14 [15] (by kernel_rfl) (by kernel_rfl) ?_
  simp only [getOps, List.getElem?_cons_zero, List.getElem?_cons_succ]
  repeat (first | (apply wpUp2_step rfl rfl; (focus (intro W hU; go_simp; exact ⟨rfl, Up.refl _⟩))) | (apply wpUp2_read rfl; (focus (intro W hU; go_simp; rfl))); go_simp)
  refine wpUp2_nil fun W3 hW3 => ?_
  clear kH ke ke0 kHc
  refine wpNew_step rfl fun W4 hW4 K hK => ?_
  go_simp
  refine ⟨alloc_up _ _ _, hK _ _ ?_⟩
  clear hK K
  refine wpNew_nil fun W5 hW5 W6 hW6 => ?_
  have hU14 : Up W1 W4 := (up_drew.trans hW3).trans hW4
  have hU46 : Up W4 W6 := ((alloc_up _ _ _).trans hW5).trans hW6
  have hU16 := hU14.trans hU46
  have bX := ((Blk.alloc W4 zeroMsg.list 43).up hW5).up hW6
  have hX1 := hU14.1.size
  obtain ⟨X, hX⟩ : ∃ X, W4.heap.size = X := ⟨_, rfl⟩
  have hFX : ∀ j, W6.frozen? ⟨X, j, none⟩ = false := fun j => new_free W4 (.map #[] 0) hU46 j _ (by omega)
  rw [hX] at bX hX1
  rw [hX]
  have hXlt : X < W6.heap.size := bX.lt (by simp [zeroMsg])
  refine wpTailS_store rfl 43 _ _ rfl X 0 m.list rfl rfl (bX.there hFX (by simp [zeroMsg])) infoMsgN (msg_one m) (by show w.heap.size + 1 ≤ X; omega) ?_
  have bX7 := Blk.sets m.list 0 bX (by simp [zeroMsg])
  have cX7 : Chg (· = X) W6 (W6.setCells X 0 m.list) := Chg.setCells (S := (· = X)) (Or.inl rfl) m.list 0 (Chg.refl _ W6)
  have hz7 : setL zeroMsg.list 0 m.list = m.list := rfl
  rw [hz7] at bX7
  generalize (W6.setCells X 0 m.list) = W7 at *
  have hU17 : Up W1 W7 := ((Chg.of_up hU16).trans cX7 (fun _ _ e => e)).to_up (fun k hk e => by omega)
  have H7 := Lib.hid (And.intro bX7 (And.intro hU17 (And.intro hs1 (And.intro bR hX1))))
  have hXw : w.heap.size < X := by omega
  clear bX cX7 hz7 bX7 hU16 hU17 hFX hX hXlt hU14 hU46 hs1 bR b1 r1 hX1
  refine wpTailS_step rfl fun K hK => ?_
  go_simp
  refine ⟨Chg.refl _ _, hK _ _ ?_⟩
  clear hK K
  refine wpTailS_nil ?_
  have hU07 := hU1.trans H7.out.2.1
  have b7 := H.out.2.2.2.2.2.2.1.up hU07
  have r7 := H.out.2.2.2.2.2.2.2.upM hU07
  have be := r7.blkM H.out.2.2.2.1
  have HW7 := Lib.hid (And.intro hU07 (And.intro b7 r7))
  have kH := b7.lift
  have ke := be.lift
  have ke0 := liftC be.zero
  clear be b7 r7 hU07
  go_upto_region 2 with (fail)
  refine region_upL0 [0, 1, 2, 3, 4, 5, 6, 7, 8, 9, 10, 11, 12] [] 13 [] (by kernel_rfl) (by kernel_rfl) ?_
  simp only [getOps, List.getElem?_cons_zero, List.getElem?_cons_succ]
  repeat (apply wpUp_step rfl rfl; (focus (intro W hU; go_simp; exact ⟨rfl, Up.refl _⟩)); go_simp)
  refine wpUp_nil fun W8 hW8 => ?_
  refine wpNew_nil fun W9 hW9 => ?_
  clear kH ke ke0
  have hU79 : Up W7 W9 := (up_drew.trans hW8).trans hW9
  have r9 := HW7.out.2.2.upM hU79
  refine wpList_storeM rfl _ _ rfl z i r9 (by rw [H.out.2.2.2.2.1]; exact hil) rfl rfl fun W10 r10 c10 => ?_
  have c710 : Chg (· = g) W7 W10 := (Chg.of_up hU79).trans c10 (fun _ _ e => e)
  have b10 := HW7.out.2.1.chg c710 hgh
  have bX10 := H7.out.1.chg c710 (fun e => by omega)
  have bR10 := (H7.out.2.2.2.1.up H7.out.2.1).chg c710 (fun e => by omega)
  have rb := b10.get
  have hF10 : W10.frozen? ⟨h, 0, none⟩ = false := (c710.marks _).trans ((HW7.out.1.2 _).trans (H.out.1.fz 0))
  have hNc : N ≤ cap := by
    rcases H.out.2.2.2.2.2.2.2.is with ⟨h1, _⟩ | ⟨_, _, h1, h2⟩
    · cases h1
    · injection h1 with _ h3 h4; rw [H.out.2.2.2.2.1] at h2; omega
  have H10 := Lib.hid (And.intro c710 (And.intro r10 (And.intro b10 (And.intro bX10 bR10))))
  clear r9 r10 c10 c710 b10 bX10 bR10
  go_upto_if 44 with fail
  obtain ⟨M, hM⟩ : ∃ M, (L.set i z).take N = M := ⟨_, rfl⟩
  have hLs : (L.set i z).length = Q := by rw [List.length_set]; exact H.out.2.2.2.2.1
  have hML : M.length = N := by rw [← hM, List.length_take, hLs]; omega
  have c11 : Chg (· = h) W10 (W10.setCell ⟨h, 0, none⟩ (.slice (some ⟨g, 0, none⟩) N cap)) := Chg.setCell (S := (· = h)) (p := ⟨h, 0, none⟩) (Chg.refl _ _) (Or.inl rfl) _
  have b11 := H10.out.2.2.1.set 0 (.slice (some ⟨g, 0, none⟩) N cap) (by simp)
  have r11 := (H10.out.2.1.chgM c11 (fun k hk e => hgh (e.symm.trans (same_slc.1 hk)))).takeM (k := N) (by omega) cap hNc (Nat.le_refl _)
  rw [hM] at r11
  have cT : Chg (fun k => k = h ∨ k = g) w (W10.setCell ⟨h, 0, none⟩ (.slice (some ⟨g, 0, none⟩) N cap)) := ((Chg.of_up HW7.out.1).trans H10.out.1 (fun _ _ e => .inr e)).trans c11 (fun _ _ e => .inl e)
  have bX11 := H10.out.2.2.2.1.chg c11 (fun e => by omega)
  have bR11 := H10.out.2.2.2.2.chg c11 (fun e => by omega)
  generalize (W10.setCell ⟨h, 0, none⟩ (.slice (some ⟨g, 0, none⟩) N cap)) = W11 at *
  have hX11 : HeapIs W11 h (slc g N cap) M := ⟨b11, r11, fun j => (cT.marks _).trans (H.out.1.fz j), fun hk => hgh (same_slc.1 hk)⟩
  have hperm : M.Perm (L.eraseIdx i) := by
    rw [← hM, show N = L.length - 1 by rw [H.out.2.2.2.2.1]; omega]
    exact cut_perm (by rw [H.out.2.2.2.2.1]; exact hil) (by rw [show L.length - 1 = N by rw [H.out.2.2.2.2.1]; omega]; exact H.out.2.2.2.1)
  have HM := Lib.hid (And.intro hM (And.intro hML (And.intro hX11 (And.intro hperm (And.intro cT (And.intro bX11 bR11))))))
  clear hM hLs c11 b11 r11 cT bX11 bR11 hX11 hperm hF10 rb hML
  go_cut [] from 42 to 50 (fun wx => ∃ L', Hid (Chg (fun k => k = h ∨ k = g) w wx) ∧ Hid (Blk wx X m.list) ∧ Hid (Blk wx w.heap.size zeroMsg.list) ∧ Hid (HeapIs wx h (slc g N cap) L' ∧ L'.Perm (L.eraseIdx i) ∧ HeapO L'))
  case first =>
    by_cases hiN : i < N
    · have hst : DownI M i i := DownI.start H.out.2.1 z M (by rw [HM.out.2.1, H.out.2.2.2.2.1]; omega) (fun k k1 k2 => by
          rw [← HM.out.1, List.getElem?_take_of_lt (by rw [HM.out.2.1] at k1; exact k1), List.getElem?_set_ne (fun e => k2 e.symm)]) (by rw [H.out.2.2.2.2.1]; exact hil)
      have hx := HM.out.2.2.1
      rw [← HM.out.2.1] at hx
      have hd := heapdown_any h g cap i M W11 hx (by rw [HM.out.2.1]; exact hiN) (by rw [HM.out.2.1]; omega) hst
      rw [HM.out.2.1] at hd
      have HD := Lib.hid hd
      clear hd hst hx
      go_wp2_with fail
      refine HD.out.mono ?_
      rintro e w2 ⟨rfl, hc, L2, hx2, hp2, hu2⟩
      have hl2 : L2.length = N := by rw [hp2.length_eq]; exact HM.out.2.1
      rw [← hl2] at hx2
      have hd := heapup_any h g cap i L2 w2 hx2 (by rw [hl2]; exact hiN) (by rw [hl2]; omega) hu2
      rw [hl2] at hd
      have H2 := Lib.hid (And.intro hc (And.intro hp2 hd))
      clear hc hx2 hp2 hu2 hl2 hd
      go_wp2_with fail
      refine H2.out.2.2.mono ?_
      rintro e w3 ⟨rfl, hc3, L3, hx3, hp3, ho3⟩
      have H3 := Lib.hid (And.intro hc3 (And.intro hx3 (And.intro hp3 ho3)))
      clear hc3 hx3 hp3 ho3
      go_wp2_with fail
      go_meet
      case rel =>
        have hcc : Chg (· = g) W11 w3 := H2.out.1.trans H3.out.1 (fun _ _ e => e)
        exact ⟨L3, Lib.hid (HM.out.2.2.2.2.1.trans hcc (fun _ _ e => .inr e)), Lib.hid (HM.out.2.2.2.2.2.1.chg hcc (fun e => by omega)), Lib.hid (HM.out.2.2.2.2.2.2.chg hcc (fun e => by omega)), Lib.hid ⟨H3.out.2.1, (H3.out.2.2.1.trans H2.out.2.1).trans HM.out.2.2.2.1, H3.out.2.2.2⟩⟩
    · go_wp2_with fail
      go_meet
      case rel =>
        have hMt : M = L.take N := by
          rw [← HM.out.1, List.take_set, List.set_eq_of_length_le (by rw [List.length_take]; omega)]
        exact ⟨M, Lib.hid HM.out.2.2.2.2.1, Lib.hid HM.out.2.2.2.2.2.1, Lib.hid HM.out.2.2.2.2.2.2, Lib.hid ⟨HM.out.2.2.1, HM.out.2.2.2.1, by rw [hMt]; exact H.out.2.1.take N⟩⟩
  case rest =>
    obtain ⟨L', hc, hbX, hbR, hL'⟩ := hcut
    obtain ⟨w4, rfl⟩ : ∃ w4 : World, w4 = wc := ⟨_, rfl⟩
    have rX := hbX.out.get
    have rR := hbR.out.get
    have hF : ∀ j, w4.frozen? ⟨w.heap.size, j, none⟩ = false := fun j => (hc.out.marks _).trans (frozen_new _ _ (Nat.le_refl _))
    have bR2 := Blk.sets m.list 0 hbR.out (by simp [zeroMsg])
    have cR2 : Chg (· = w.heap.size) w4 (w4.setCells w.heap.size 0 m.list) := Chg.setCells (S := (· = w.heap.size)) (Or.inl rfl) m.list 0 (Chg.refl _ w4)
    have HR := Lib.hid (And.intro bR2 cR2)
    simp only [zeroMsg, Msg.list] at rR
    clear bR2 cR2
    go_wp2
    have hcc : Chg (heapFoot h v) w (w4.setCells w.heap.size 0 m.list) := (hc.out.trans HR.out.2 (fun k hk e => by omega)).mono (fun k _ e => by
      rcases e with e | e
      · exact .inl e
      · exact .inr (by rw [H.out.2.2.2.2.2.1]; exact same_slc.2 e))
    refine bodyPost_ret (w := w4.setCells w.heap.size 0 m.list) (results_blk rfl rfl HR.out.1 Tryz.underlying43 rfl infoMsgN) rfl ⟨rfl, hcc, slc g N cap, L', hL'.out.1.chg HR.out.2 (fun k hk e => ?_), hL'.out.2.1, hL'.out.2.2, fun k hk => by rw [H.out.2.2.2.2.2.1]; exact hk⟩
    rcases hk with hk | hk
    · omega
    · have := same_slc.1 hk; omega
end Go.Proofs.YtalmjdlcogdpmaaGreatDoor

namespace Go.Proofs.YtalmjdlcogdpmaaGreatDoor
open Go.RowKit
attribute [local go_sem] upUpon_value upUpon_enter upUpon_skip upUpon_row ucUpon_value ucUpon_skip ucUpon_enter ucUpon_row

set_option maxRecDepth 100000 in
set_option maxHeartbeats 2000000 in
theorem calpush_any (q b : Nat) (es : List (Int × Value)) (D : Int → List Msg) (n : Nat) (m : Msg) (t : Nat) (w : World) (x : CalIs w q b es D n) (o : CalO es D n) (hn : n ≤ 10000) (hmt : m.t = t) (ht : t ≤ 2000000000) (no : ∀ y ∈ calAll es D, ¬ (y.f = m.f ∧ y.u = m.u)) :
    Calls Tryz.prog 138 #[.pointer (some ⟨q, 0, none⟩), m.val] w fun e w' => e = .returned (.int .i64 0) ∧ ∃ es' D' n', CalTo w w' q b es es' D' n' ∧ (calAll es' D').Perm (m :: calAll es D) := by
  obtain ⟨K, hK⟩ : ∃ K : Int, K = ((t / 16 : Nat) : Int) := ⟨_, rfl⟩
  have hwf : (Lit.int .i64 K).wf = true := WalkArith.wf_i64 (by omega)
  obtain ⟨L, hold⟩ := old_get es D K
  obtain ⟨v, hv⟩ : ∃ v, mget es K = v := ⟨_, rfl⟩
  rw [hv] at hold
  have hsp := all_split x.m.keys hold
  have row : RowM w v L := by
    rcases hold with ⟨h1, h2⟩ | ⟨_, h1, h2⟩
    · rw [h2]; exact x.r _ h1
    · subst h1 h2; exact OwnR.nil _ _ _
  have hfoot : ∀ j, sameBlock v j → calFoot q b es j := fun j hj => by
    rcases hold with ⟨h1, h2⟩ | ⟨_, h1, h2⟩
    · exact .inr (.inr ⟨_, h1, hj⟩)
    · subst h1; exact absurd hj no_block
  have hsrt : Srt L 0 L.length := by
    rcases hold with ⟨h1, h2⟩ | ⟨_, h1, h2⟩
    · rw [h2]; exact o.srt _ h1
    · subst h2; intro i j x y _ _ h; simp at h
  have hkey : ∀ y ∈ L, ∃ t : Nat, y.t = t ∧ K = ((t / 16 : Nat) : Int) := by
    rcases hold with ⟨h1, h2⟩ | ⟨_, h1, h2⟩
    · rw [h2]; exact o.key _ h1
    · subst h2; simp
  have hLn : L.length ≤ n := by rw [o.tot, hsp.length_eq]; simp
  have hvq : ¬ sameBlock v q := by
    rcases hold with ⟨h1, h2⟩ | ⟨_, h1, h2⟩
    · exact x.qr _ h1
    · subst h1; exact no_block
  have hvb : ¬ sameBlock v b := by
    rcases hold with ⟨h1, h2⟩ | ⟨_, h1, h2⟩
    · exact x.br _ h1
    · subst h1; exact no_block
  obtain ⟨p, c, hform⟩ := OwnR.form row
  obtain ⟨N, hN⟩ : ∃ N, L.length = N := ⟨_, rfl⟩
  rw [hN] at hform
  have H := Lib.hid (And.intro x (And.intro o (And.intro no (And.intro row (And.intro hform (And.intro hN (And.intro hsp (And.intro hsrt (And.intro hkey (And.intro hvq (And.intro hvb (And.intro hv (And.intro hmt hK)))))))))))))
  have hN1 : N ≤ n := by omega
  clear x o no row hold hsp hfoot hsrt hkey hvq hvb hLn hN hv hmt hK hform
  simp only [Msg.val]
  go_enter Tryz.func138, Tryz.ntmps138
  go_upto_region 1 with (fail)
  refine wp_alloc1 (A := m.list) fun W1 hU1 hs1 bM => ?_
  have X1 := Lib.hid (And.intro (H.out.1.up hU1) (And.intro hU1 (And.intro bM hs1)))
  clear hU1 hs1 bM
  have rM := X1.out.2.2.1.get
  go_wp2_with fail
  refine (calnone_any q b W1 (X1.out.1.b.at (i := 1) rfl)).mono ?_
  rintro e w2 ⟨rfl, rfl⟩
  go_wp2_with fail
  refine (calfind_no q b es D n m.f m.u w2 X1.out.1 (fun e he => by have := len_le H.out.2.1 e he; omega) (fun e he y hy => H.out.2.2.1 y (mem_calAll.2 ⟨e, he, hy⟩))).mono ?_
  rintro e w3 ⟨hU3, rfl⟩
  have X3 := Lib.hid (And.intro (X1.out.1.up hU3) (And.intro (X1.out.2.1.trans hU3) (X1.out.2.2.1.up hU3)))
  clear rM hU3
  have rM := X3.out.2.2.get
  have rq := X3.out.1.b.get
  have hd : decide ((n : Int) ≥ 16384) = false := by rw [decide_eq_false_iff_not]; omega
  have hd2 : decide (16384 ≤ (n : Int)) = false := by rw [decide_eq_false_iff_not]; omega
  go_wp2_with fail
  refine (calday_at q m.t t H.out.2.2.2.2.2.2.2.2.2.2.2.2.1 ht w3 (X3.out.1.b.at (i := 0) rfl)).mono ?_
  rintro e w4 ⟨rfl, rfl⟩
  rw [← H.out.2.2.2.2.2.2.2.2.2.2.2.2.2]
  have klk : (Instr.lookup 114 (.map (some b)) (.int .i64 K) false).run Tryz.prog w4 = .ok v w4 := by
    rw [map_lookup X3.out.1.m hwf, H.out.2.2.2.2.2.2.2.2.2.2.2.1]
  go_wp2_with fail
  refine (place_any v L m w4 (H.out.2.2.2.1.upM X3.out.2.1) (by have := H.out.2.2.2.2.2.1; omega)).mono ?_
  rintro e w5 ⟨hU5, rfl⟩
  have hcl : L.countP (fun x => befB x m) ≤ N := by rw [← H.out.2.2.2.2.2.1]; exact List.countP_le_length
  have hlo := countP_lo (m := m) H.out.2.2.2.2.2.2.2.1
  generalize (L.countP fun x => befB x m) = k0 at *
  have X5 := Lib.hid (And.intro (X3.out.1.up hU5) (And.intro (X3.out.2.1.trans hU5) (And.intro (X3.out.2.2.up hU5) hlo)))
  clear rM rq klk hU5 hd hd2 hlo
  rw [H.out.2.2.2.2.1]
  go_wp2_with fail
  go_loopw [10] (fun x wr => ∃ k : Nat, k ≤ N ∧ x = .int .i64 k ∧ Hid (Up w5 wr) ∧ Hid (∀ (j : Nat) (y : Msg), j < k → L[j]? = some y → befB m y = false)) (fun x _ => N - (intOf x).toNat)
  case atStart => exact ⟨k0, hcl, rfl, Lib.hid (Up.refl _), Lib.hid X5.out.2.2.2⟩
  case round =>
    obtain ⟨k, hk, rfl, hU, hlo⟩ := hrel
    obtain ⟨wo, rfl⟩ : ∃ wo : World, wo = wr := ⟨_, rfl⟩
    go_upto_region 11 with (fail)
    go_cut [57] from 45 to 57 (fun v wx => ∃ bt : Bool, v = .bool bt ∧ Hid (Up w5 wx) ∧ Hid (bt = true → k < N ∧ ∀ y, L[k]? = some y → befB m y = false) ∧ Hid (bt = false → ∀ y, L[k]? = some y → befB m y = true))
    case first =>
      have bM := X5.out.2.2.1.up hU.out
      by_cases hkN : k < N
      · obtain ⟨y, hy⟩ : ∃ y, L[k]? = some y := ⟨L[k]'(by rw [H.out.2.2.2.2.2.1]; exact hkN), List.getElem?_eq_getElem _⟩
        obtain ⟨g, cap, hv, hbe⟩ := OwnR.atM (H.out.2.2.2.1.upM (X5.out.2.1.trans hU.out)) hy
        have hpg : p = some ⟨g, 0, none⟩ := by have := H.out.2.2.2.2.1; rw [hv] at this; injection this with h1 _ _; exact h1.symm
        have hcc : c = cap := by have := H.out.2.2.2.2.1; rw [hv] at this; injection this with _ _ h1; exact h1.symm
        subst hpg hcc
        have kM := bM.lift
        have kE := hbe.lift
        have kE0 := liftC hbe.zero
        have HE := Lib.hid (And.intro hy hkN)
        clear hy hv hbe
        refine region_upL0 [0, 1, 2, 3, 4, 5, 6, 7, 8, 9, 10, 11] [] 12 [] (by kernel_rfl) (by kernel_rfl) ?_
        simp only [getOps, List.getElem?_cons_zero, List.getElem?_cons_succ]
        iterate 5 (apply wpUp_step rfl rfl; (focus (intro W hU; go_simp; exact ⟨rfl, Up.refl _⟩)); go_simp)
        iterate 5 (apply wpUp_yes rfl rfl; (focus (intro W hU; go_simp; exact ⟨rfl, Up.refl _⟩)); go_simp)
        (apply wpUp_yes rfl rfl; (focus (intro W hU; go_simp; exact before_any m y W)); go_simp)
        (apply wpUp_yes rfl rfl; (focus (intro W hU; go_simp; exact ⟨rfl, Up.refl _⟩)); go_simp)
        refine wpUp_nil fun W3 hW3 => ?_
        refine wpNew_nil fun W4 hW4 => ?_
        clear kM kE kE0
        have HU := Lib.hid (hU.out.trans ((up_drew.trans hW3).trans hW4))
        have HF : Hid ((befB m y = false → k < N ∧ ∀ y, L[k]? = some y → befB m y = false) ∧ (befB m y = true → ∀ y, L[k]? = some y → befB m y = true)) := Lib.hid ⟨fun hb => ⟨hkN, fun z hz => by
            rw [HE.out.1] at hz; cases hz; exact hb⟩, fun hb z hz => by
            rw [HE.out.1] at hz; cases hz; exact hb⟩
        obtain ⟨bt, hbt⟩ : ∃ bt, befB m y = bt := ⟨_, rfl⟩
        rw [hbt] at HF ⊢
        clear hbt hkN bM
        go_wp2
        go_meet
        case rel => exact ⟨!bt, rfl, HU, Lib.hid (fun h => HF.out.1 (by simpa using h)), Lib.hid (fun h => HF.out.2 (by simpa using h))⟩
      · have hkq : decide (k < N) = false := by rw [decide_eq_false_iff_not]; exact hkN
        refine region_upL0 [0, 1, 2, 3, 4, 5, 6, 7, 8, 9, 10, 11] [] 12 [] (by kernel_rfl) (by kernel_rfl) ?_
        simp only [getOps, List.getElem?_cons_zero, List.getElem?_cons_succ]
        iterate 5 (apply wpUp_step rfl rfl; (focus (intro W hU; go_simp; exact ⟨rfl, Up.refl _⟩)); go_simp)
        iterate 7 (apply wpUp_no rfl; go_simp)
        refine wpUp_nil fun W3 hW3 => ?_
        refine wpNew_nil fun W4 hW4 => ?_
        have HU := Lib.hid (hU.out.trans ((up_drew.trans hW3).trans hW4))
        have HN : Hid (∀ y, L[k]? = some y → befB m y = true) := Lib.hid (fun y hy => by have := (List.getElem?_eq_some_iff.1 hy).1; have := H.out.2.2.2.2.2.1; omega)
        clear bM
        go_wp2
        go_meet
        case rel => exact ⟨false, rfl, HU, Lib.hid (fun h => by cases h), Lib.hid (fun _ => HN.out)⟩
    case rest =>
      obtain ⟨bt, rfl, hU2, hb1, hb2⟩ := hcut
      obtain ⟨w6, rfl⟩ : ∃ w6 : World, w6 = wc := ⟨_, rfl⟩
      cases bt
      · have hins : InsAt L m k := insAt_of H.out.2.2.2.2.2.2.2.1 (by rw [H.out.2.2.2.2.2.1]; exact hk) hlo.out (hb2.out rfl)
        have HI := Lib.hid hins
        clear hins hb1 hb2 hlo hU
        obtain ⟨e, he⟩ : ∃ e, N + 1 = e := ⟨_, rfl⟩
        have w_e : IntKind.i64.wrap ((N : Int) + 1) = (e : Int) := by rw [IntWalk.i64_in _ (by omega)]; omega
        obtain ⟨W7, hmk, hU7, row7, hs7⟩ := row_made w6 e (by omega)
        obtain ⟨X, hX⟩ : ∃ X, w6.heap.size = X := ⟨_, rfl⟩
        rw [hX] at hmk row7
        have X7 := Lib.hid (And.intro (X5.out.1.up (hU2.out.trans hU7)) (And.intro (X5.out.2.1.trans (hU2.out.trans hU7)) (And.intro (X5.out.2.2.1.up (hU2.out.trans hU7)) (And.intro row7 (And.intro hX (And.intro he (show w.heap.size < X by rw [← hX]; exact (X5.out.2.2.1.up hU2.out).lt (by simp))))))))
        clear hU7 row7 hs7 hX he
        go_upto_region 14 with (fail)
        clear w_e hmk
        go_cut [] from 64 to 69 (fun wx => Hid (Chg (· = X) W7 wx) ∧ Hid (RowM wx (slc X e e) (spl (List.replicate e zeroMsg) 0 (L.take k))))
        case first =>
          rcases Nat.eq_zero_or_pos k with h0 | h0
          · subst h0
            have hz : (0 : Int) ≤ (c : Int) := by omega
            go_wp2_with ((refine wpList_copy0 rfl (.tmp 64) (.tmp 68) rfl _ _ e e 0 0 rfl rfl (by show min _ _ = 0; omega) ?_))
            go_wp2
            go_meet
            case rel => exact ⟨Lib.hid (Chg.refl _ _), Lib.hid (by rw [List.take_zero, spl_nil]; exact X7.out.2.2.2.1)⟩
          · obtain ⟨g, cap, hv, hbe⟩ := OwnR.atM (i := 0) (m := L[0]'(by rw [H.out.2.2.2.2.2.1]; omega)) (H.out.2.2.2.1.upM X7.out.2.1) (List.getElem?_eq_getElem _)
            have hpg : p = some ⟨g, 0, none⟩ := by have := H.out.2.2.2.2.1; rw [hv] at this; injection this with h1 _ _; exact h1.symm
            subst hpg
            have hcap : N ≤ c := by
              rcases H.out.2.2.2.1.is with ⟨h1, h2⟩ | ⟨_, _, h1, h2⟩
              · have := H.out.2.2.2.2.2.1; omega
              · have h3 := H.out.2.2.2.2.1
                rw [h1] at h3
                injection h3 with _ _ h3
                have := H.out.2.2.2.2.2.1
                omega
            clear hv hbe
            have hk1 : k ≤ c := by omega
            have row6 := H.out.2.2.2.1.upM X7.out.2.1
            have hl : (L.take k).length = k := by rw [List.length_take]; have := H.out.2.2.2.2.2.1; omega
            have hRl : (List.replicate e zeroMsg).length = e := by simp
            have heN := X7.out.2.2.2.2.2.1
            go_wp2_with ((refine wpList_copyM rfl (.tmp 64) (.tmp 68) rfl X7.out.2.2.2.1 (o := 0) (K := L.take k) (by rw [hl, hRl]; omega) e e ⟨g, 0, none⟩ k k rfl rfl (by rw [hl]; show k = min k e; omega) (fun j u hj => ?_) fun W8 row8 c8 => ?_))
            · have hj' : (msgCells L)[j]? = some u := by
                rw [msgCells_take, List.getElem?_take] at hj
                split at hj
                · exact hj
                · cases hj
              rw [show (⟨g, 0, none⟩ : Addr).add j = ⟨g, j, none⟩ by unfold Addr.add; split <;> simp_all]
              exact row6.cell (g := g) (by rw [H.out.2.2.2.2.1]; rfl) _ _ hj'
            · have X8 := Lib.hid (And.intro row8 c8)
              clear row8 c8 row6 hk1 hcap hl hRl
              go_wp2
              go_meet
              case rel => exact ⟨Lib.hid X8.out.2, Lib.hid X8.out.1⟩
        case rest =>
          obtain ⟨hc, hrow⟩ := hcut
          obtain ⟨w8, rfl⟩ : ∃ w8 : World, w8 = wc := ⟨_, rfl⟩
          have hXw := X7.out.2.2.2.2.2.2
          have heN := X7.out.2.2.2.2.2.1
          have hLN := H.out.2.2.2.2.2.1
          have hlen1 : (spl (List.replicate e zeroMsg) 0 (L.take k)).length = e := by
            rw [spl_length (by simp; omega)]; simp
          have bM8 := X7.out.2.2.1.chg hc.out (fun h => by omega)
          have rM := bM8.get
          have hke : k < e := by omega
          have hke2 : (k : Int) < (e : Int) := by omega
          have HL := Lib.hid (And.intro hlen1 (And.intro heN (And.intro hLN hXw)))
          clear hlen1 heN hLN hXw
          go_wp2_with (refine wpList_storeM rfl _ _ rfl m k hrow.out (by rw [HL.out.1]; exact hke) rfl rfl fun W9 r9 c9 => ?_)
          have X9 := Lib.hid (And.intro r9 (hc.out.trans c9 (fun _ _ h => h)))
          clear r9 c9 rM bM8
          obtain ⟨f, hf⟩ : ∃ f, f = k + 1 := ⟨_, rfl⟩
          have w_f : IntKind.i64.wrap ((k : Int) + 1) = (f : Int) := by rw [IntWalk.i64_in _ (by have := HL.out.2.1; omega)]; omega
          have HF := Lib.hid hf
          clear hf
          go_upto_region 16 with (fail)
          go_frame
          go_cut [] from 74 to 81 (fun wx => Hid (Chg (· = X) W9 wx) ∧ Hid (RowM wx (slc X e e) (L.take k ++ m :: L.drop k)))
          case first =>
            have heN := HL.out.2.1
            have hLN := HL.out.2.2.1
            have hDl : (L.drop k).length = N - k := by rw [List.length_drop, hLN]
            have hLl : ((spl (List.replicate e zeroMsg) 0 (L.take k)).set k m).length = e := by rw [List.length_set, HL.out.1]
            have hPut : spl ((spl (List.replicate e zeroMsg) 0 (L.take k)).set k m) (k + 1) (L.drop k) = L.take k ++ m :: L.drop k := by
              have := put_list (L := L) (m := m) (k := k) (by omega)
              rw [hLN, heN] at this
              exact this
            have HP := Lib.hid (And.intro hDl (And.intro hLl hPut))
            have h1 : f ≤ e := by have := HF.out; omega
            have h2 : (f : Int) ≤ (e : Int) := by omega
            clear heN hLN hDl hLl hPut
            rcases Nat.lt_or_ge k N with hkN | hkN
            · obtain ⟨g, cap, hv, hbe⟩ := OwnR.atM (i := 0) (m := L[0]'(by rw [H.out.2.2.2.2.2.1]; omega)) (H.out.2.2.2.1.upM X7.out.2.1) (List.getElem?_eq_getElem _)
              have hpg : p = some ⟨g, 0, none⟩ := by have := H.out.2.2.2.2.1; rw [hv] at this; injection this with h1 _ _; exact h1.symm
              subst hpg
              have hcap : N ≤ c := by
                rcases H.out.2.2.2.1.is with ⟨h1, h2⟩ | ⟨_, _, h1, h2⟩
                · have := H.out.2.2.2.2.2.1; omega
                · have h3 := H.out.2.2.2.2.1
                  rw [h1] at h3
                  injection h3 with _ _ h3
                  have := H.out.2.2.2.2.2.1
                  omega
              clear hv hbe
              have h3 : k ≤ c := by omega
              have h4 : (k : Int) ≤ (N : Int) := by omega
              have h5 : ¬ e = f := by have := HF.out; have := HL.out.2.1; omega
              have h6 : ¬ c = k := by omega
              have hgX : ¬ g = X := fun h => by
                have h7 := OwnR.block_lt H.out.2.2.2.1 g (by rw [H.out.2.2.2.2.1]; rfl)
                have := HL.out.2.2.2
                omega
              have HG := Lib.hid hgX
              clear hgX
              refine region_upL0 [0, 1, 2, 3, 4, 5, 6] [] 7 [] (by kernel_rfl) (by kernel_rfl) ?_
              simp only [getOps, List.getElem?_cons_zero, List.getElem?_cons_succ]
              repeat (apply wpUp_step rfl rfl; (focus (intro W hU; go_simp; exact ⟨rfl, Up.refl _⟩)); go_simp)
              refine wpUp_nil fun W10 hW10 => ?_
              refine wpNew_nil fun W11 hW11 => ?_
              clear w_f
              have hU911 := (up_drew.trans hW10).trans hW11
              have row10 := X9.out.1.upM hU911
              have rowL := ((H.out.2.2.2.1.upM X7.out.2.1).chgM X9.out.2 (fun j hj h => HG.out (by rw [H.out.2.2.2.2.1] at hj; exact (same_slc.1 hj).symm.trans h))).upM hU911
              refine wpList_copyM rfl (.tmp 77) (.tmp 80) rfl row10 (o := f) (K := L.drop k) (by rw [HP.out.1, HP.out.2.1]; have := HF.out; have := HL.out.2.1; omega) (e - f) (e - f) ⟨g, k * 7, none⟩ (N - k) (c - k) rfl rfl (by rw [HP.out.1]; show N - k = min (N - k) (e - f); have := HF.out; have := HL.out.2.1; omega) (fun j u hj => ?_) fun W12 row12 c12 => ?_
              · rw [msgCells_drop, List.getElem?_drop] at hj
                rw [Addr.add_mid]
                exact rowL.cell (g := g) (by rw [H.out.2.2.2.2.1]; rfl) _ _ hj
              · have c912 := (Chg.of_up (S := (· = X)) hU911).trans c12 (fun _ _ e => e)
                rw [HF.out, HP.out.2.2] at row12
                have X12 := Lib.hid (And.intro row12 c912)
                clear row12 c912 c12 row10 rowL h1 h2 h3 h4 h5 h6
                go_wp2
                go_meet
                case rel => exact ⟨Lib.hid X12.out.2, Lib.hid X12.out.1⟩
            · have hcap : N ≤ c ∧ ((p = none ∧ c = 0) ∨ ∃ g, p = some ⟨g, 0, none⟩) := by
                rcases H.out.2.2.2.1.is with ⟨h1, h2⟩ | ⟨g, _, h1, h2⟩
                · have h3 := H.out.2.2.2.2.1
                  rw [h1] at h3
                  injection h3 with h5 _ h4
                  have := H.out.2.2.2.2.2.1
                  exact ⟨by omega, .inl ⟨h5.symm, h4.symm⟩⟩
                · have h3 := H.out.2.2.2.2.1
                  rw [h1] at h3
                  injection h3 with h5 _ h3
                  have := H.out.2.2.2.2.2.1
                  exact ⟨by omega, .inr ⟨g, h5.symm⟩⟩
              obtain ⟨hcap, hp⟩ := hcap
              have h3 : k ≤ c := by omega
              have h4 : (k : Int) ≤ (N : Int) := by omega
              have hp3 : (p = none ∧ c = 0) ∨ (∃ g, p = some ⟨g, 0, none⟩ ∧ k = c) ∨ (∃ g, p = some ⟨g, 0, none⟩ ∧ ¬ c = k) := by
                rcases hp with h | ⟨g, h⟩
                · exact .inl h
                · by_cases hck : c = k
                  · exact .inr (.inl ⟨g, h, hck.symm⟩)
                  · exact .inr (.inr ⟨g, h, hck⟩)
              rcases hp3 with ⟨rfl, rfl⟩ | ⟨g, rfl, rfl⟩ | ⟨g, rfl, h6⟩
              all_goals
                refine region_upL0 [0, 1, 2, 3, 4, 5, 6] [] 7 [] (by kernel_rfl) (by kernel_rfl) ?_
                simp only [getOps, List.getElem?_cons_zero, List.getElem?_cons_succ]
                repeat (apply wpUp_step rfl rfl; (focus (intro W hU; go_simp; exact ⟨rfl, Up.refl _⟩)); go_simp)
                refine wpUp_nil fun W10 hW10 => ?_
                refine wpNew_nil fun W11 hW11 => ?_
                clear w_f
                have hU911 := (up_drew.trans hW10).trans hW11
                have hz : e - f = 0 := by have := HF.out; have := HL.out.2.1; omega
                refine wpList_copy0 rfl (.tmp 77) (.tmp 80) rfl _ _ _ _ _ _ rfl rfl (by show min _ _ = 0; omega) ?_
                have hX12 : RowM W11 (slc X e e) (L.take k ++ m :: L.drop k) := by
                  have h7 := HP.out.2.2
                  rw [List.drop_eq_nil_of_le (show L.length ≤ k by have := H.out.2.2.2.2.2.1; omega), spl_nil] at h7
                  rw [List.drop_eq_nil_of_le (show L.length ≤ k by have := H.out.2.2.2.2.2.1; omega), ← h7]
                  exact X9.out.1.upM hU911
                have X12 := Lib.hid (And.intro hX12 (Chg.of_up (S := (· = X)) hU911))
                clear hX12 hU911 hz h1 h2 h3 h4 hcap
                generalize (if e = f then some (⟨X, 0, none⟩ : Addr) else some ⟨X, f * 7, none⟩) = dp
                go_wp2
                go_meet
                case rel => exact ⟨Lib.hid X12.out.2, Lib.hid X12.out.1⟩
          case rest =>
            obtain ⟨hc2, hrow2⟩ := hcut
            obtain ⟨w10, rfl⟩ : ∃ w10 : World, w10 = wc := ⟨_, rfl⟩
            have hXw := HL.out.2.2.2
            have c710 : Chg (· = X) W7 w10 := X9.out.2.trans hc2.out (fun _ _ h => h)
            have hfl := fun j (hj : calFoot q b es j) => H.out.1.lt j hj
            have x10 : CalIs w10 q b es D n := X7.out.1.chg c710 (fun j hj h => by have := hfl j hj; omega)
            have c010 : Chg (fun j => j = q ∨ j = b) w w10 := (Chg.to_up ((Chg.of_up (S := (· = X)) X7.out.2.1).trans c710 (fun _ _ h => h)) (fun j hj h => by omega)) |> fun u => Chg.of_up u
            have X10 := Lib.hid (And.intro x10 (And.intro c010 hrow2.out))
            clear c710 hfl x10 c010
            have rq := X10.out.1.b.get
            have hel : es.length < maxLen := Nat.lt_of_le_of_lt (es_le H.out.2.1) (Nat.lt_of_le_of_lt hn (by decide))
            clear w_f
            go_wp2_with (at_mapUpdate; refine wpList_mapPut rfl _ _ _ rfl rfl X10.out.1.m hel rfl hwf rfl ?_)
            intro W11 es' m11 hp c11
            clear rq
            have b11 := X10.out.1.b.chg c11 H.out.1.qb
            have row11 := X10.out.2.2.chgM c11 (fun j hj h => by
              have := same_slc.1 hj
              have := H.out.1.lt b (.inr (.inl rfl))
              omega)
            obtain ⟨n1, hn1⟩ : ∃ n1, n1 = n + 1 := ⟨_, rfl⟩
            have w_n : IntKind.i64.wrap ((n : Int) + 1) = (n1 : Int) := by rw [IntWalk.i64_in _ (by omega)]; omega
            have rq := b11.get
            have hF : ∀ j, W11.frozen? ⟨q, j, none⟩ = false := fun j => (c11.marks _).trans (X10.out.1.fz j)
            have c12 : Chg (· = q) W11 (W11.setCell ⟨q, 2, none⟩ (.int .i64 n1)) := Chg.setCell (S := (· = q)) (p := ⟨q, 2, none⟩) (Chg.refl _ _) (Or.inl rfl) _
            have b12 := b11.set 2 (.int .i64 n1) (by simp)
            have X12 := Lib.hid (And.intro m11 (And.intro hp (And.intro c11 (And.intro row11 (And.intro c12 (And.intro b12 hn1))))))
            clear m11 hp c11 row11 c12 b12 hn1 b11
            go_wp2
            go_ret
            obtain ⟨m11, hp, c11, row11, c12, b12, hn1⟩ := X12.out
            obtain ⟨hx, ho, hno, hrow, hform, hLN, hsp, hsrt, hkey, hvq, hvb, hvv, hmt, hK⟩ := H.out
            have hlq := hx.lt q (.inl rfl)
            have hqb := hx.qb
            have hLL : (L.take k ++ m :: L.drop k).Perm (m :: L) := List.perm_middle.trans (by rw [List.take_append_drop])
            have hP : (calAll es' (updD D K (L.take k ++ m :: L.drop k))).Perm (m :: calAll es D) :=
              (all_put _ hp).trans ((hLL.append_right _).trans (hsp.symm.cons m))
            have c0f : Chg (fun j => j = q ∨ j = b) w (W11.setCell ⟨q, 2, none⟩ (.int .i64 n1)) := (X10.out.2.1.trans (c11.mono (T := fun j => j = q ∨ j = b) (fun _ _ h => .inr h)) (fun _ _ h => h)).trans (c12.mono (T := fun j => j = q ∨ j = b) (fun _ _ h => .inl h)) (fun _ _ h => h)
            exact ⟨rfl, es', _, n1, CalTo.put hx ho hp (m11.chg c12 (fun h => hqb h.symm)) (row11.chgM c12 (fun j hj h => by have := same_slc.1 hj; omega)) c0f b12 (fun j hj => by have := same_slc.1 hj; omega)
              (ho.put hp (by simp) (HI.out.srt hsrt) (fun z hz => by
                rcases List.mem_cons.1 (hLL.mem_iff.1 hz) with rfl | h
                · exact ⟨t, hmt, hK⟩
                · exact hkey z h) (by
                have h1 := (hLL.append_right (calAll (restD es K) D)).length_eq
                have h2 := hsp.length_eq
                rw [← ho.tot] at h2
                rw [h1, List.cons_append, List.length_cons, ← h2, hn1])), hP⟩
      · have h1 := (hb1.out rfl).1
        have HF := Lib.hid (hb1.out rfl).2
        clear hb1 hb2
        go_wp2
        exact ⟨⟨k + 1, by omega, by go_num, hU2, Lib.hid (fun j y hj hy => by
          rcases Nat.lt_or_ge j k with h2 | h2
          · exact hlo.out j y h2 hy
          · have : j = k := by omega
            subst this
            exact HF.out y hy)⟩, by simp [intOf]; omega⟩
end Go.Proofs.YtalmjdlcogdpmaaGreatDoor

namespace Go.Proofs.YtalmjdlcogdpmaaGreatDoor
open Go Go.RowKit

theorem frozen_plain {W : World} {a : Addr} {o : Obj} (h : W.heap[a.block]? = some o) (ho : o.isCells = false) : W.frozen? a = false := by
  unfold World.frozen?
  rw [h]
  cases o <;> first | rfl | (simp [Obj.isCells] at ho)
theorem alloc_up_any (W : World) (o : Obj) (ho : o.isCells = false) : Up W (W.alloc o) :=
  ⟨(Below.refl _ W).alloc (Nat.le_refl _) o, fun a => by
    by_cases h : a.block = W.heap.size
    · rw [frozen_plain (o := o) (by rw [h]; exact heap_alloc_new W o) ho, frozen_new _ _ (by omega)]
    · unfold World.frozen?
      rcases Nat.lt_or_ge a.block W.heap.size with h1 | h1
      · rw [Below.heap_alloc W o a.block h1]
      · have h2 : (W.alloc o).heap[a.block]? = none := by rw [Array.getElem?_eq_none]; rw [World.size_alloc]; omega
        have h3 : W.heap[a.block]? = none := by rw [Array.getElem?_eq_none]; omega
        rw [h2, h3]⟩
theorem putObj_chg {W : World} {l : Nat} {o : Obj} (o' : Obj) (h : W.heap[l]? = some o) (ho : o.isCells = false) (ho' : o'.isCells = false) : Chg (· = l) W (W.putObj l o') where
  os := rfl
  tape := rfl
  output := rfl
  size := by simp
  block := fun k _ hk => World.putObj_heap_other hk
  marks := fun a => by
    by_cases e : a.block = l
    · rw [frozen_plain (W := W) (o := o) (by rw [e]; exact h) ho, frozen_plain (W := W.putObj l o') (o := o') (by rw [e]; exact World.putObj_heap_same (Array.getElem?_eq_some_iff.1 h).1) ho']
    · unfold World.frozen?
      rw [World.putObj_heap_other e]

theorem wideR_round (ro : Option Nat) : (wideR ro).round = ro := rfl
section
variable {P : Program}
/-- The record of a loop. -/
structure Rc where
  fn : FuncId
  tmps : Array Value
  params : Array Tmp
  assign : Code
  body : Code
  defers : Nat
def Rc.at (r : Rc) (s : LoopState) (p : Option Code) : Obj := .loop ⟨s, p, r.fn, r.tmps, r.params, r.assign, r.body, r.defers⟩

/-- A call of yield. -/
theorem yieldAt_of {l : Nat} {r : Rc} {args : Array Value} {W : World} {R : Ending → World → Prop} (hl : W.heap[l]? = some (r.at .ready none)) (hsz : args.size = r.params.size)
    (h : r.assign.wpIn (wideR (some l)) 0 P (Exit.then (fun a₁ w₁ => w₁.heap[l]? = some (r.at .ready none) ∧
      r.body.wpIn (wideR (some l)) 0 P (fun e _ w₃ => match e with
        | .normal => w₃.heap[l]? = some (r.at .busy none) ∧ R (.returned (.bool true)) (w₃.putObj l (r.at .ready none))
        | .ret => w₃.heap[l]? = some (r.at .busy none) ∧ R (.returned (.bool false)) (w₃.putObj l (r.at .done (some .ret)))
        | .exit id => w₃.heap[l]? = some (r.at .busy none) ∧ R (.returned (.bool false)) (w₃.putObj l (r.at .done (some (.exit id))))
        | _ => False) a₁ (w₁.putObj l (r.at .busy none))) (fun _ _ _ => False))
      { tmps := (r.params.zip args).foldl (fun t (p, v) => t.setIfInBounds p v) r.tmps, defers := [] } W) :
    YieldAt Fence.wide 0 P l args W R := by
  refine ⟨r.fn, _, r.assign, r.body, run_yield hl hsz, roundIn_of_wpIn trivial (wpIn_mono h ?_)⟩
  rintro e a₁ w₁ hq
  cases e with
  | normal =>
    obtain ⟨h1, h2⟩ := hq
    refine ⟨_, run_beginRound h1 rfl, wpIn_mono h2 ?_⟩
    rintro e a₃ w₃ hq
    cases e with
    | normal => exact ⟨_, _, run_endRound none hq.1, hq.2⟩
    | ret => exact ⟨_, _, run_endRound (some .ret) hq.1, hq.2⟩
    | exit id => exact ⟨_, _, run_endRound (some (.exit id)) hq.1, hq.2⟩
    | goto t => exact hq.elim
    | panic c => exact hq.elim
    | outgrown => exact hq.elim
  | exit id => exact hq.elim
  | goto t => exact hq.elim
  | ret => exact hq.elim
  | panic c => exact hq.elim
  | outgrown => exact hq.elim

/-- The statement. -/
theorem wp_range {g : Operand} {ps : Array Tmp} {assign body : Code} {Q : Exit → Act → World → Prop} {a : Act} {w : World} {gf : FuncId} {lb : Array Value}
    (hg : a.eval g = .func (.func gf) #[] lb) (eg : ∀ (args : Array Value) (w : World), (callFunc gf args).run P w = .ok (.enter gf args) w)
    (h : ∀ (fn : FuncId) (W1 : World), Up w W1 → W1.heap.size = w.heap.size + 2 → W1.heap[w.heap.size]? = some (.deferred (some [])) →
      W1.heap[w.heap.size + 1]? = some (Rc.at ⟨fn, a.tmps, ps, assign, body, w.heap.size⟩ .ready none) →
      CallsIn Fence.wide 0 P gf (#[.func (.yield (w.heap.size + 1)) #[] #[]] ++ lb) W1 fun e W3 => (∃ v, e = .returned v) ∧
        ∃ st pe, st ≠ LoopState.busy ∧ W3.heap[w.heap.size + 1]? = some (Rc.at ⟨fn, a.tmps, ps, assign, body, w.heap.size⟩ st pe) ∧
          ∀ W4, Chg (· = w.heap.size + 1) W3 W4 → (match pe with
            | none => Q .normal { a with defers := { target := .collected w.heap.size, args := #[] } :: a.defers } W4
            | some c => c.wp P Q { a with defers := { target := .collected w.heap.size, args := #[] } :: a.defers } W4)) :
    (Code.rangeFunc g ps assign body).wp P Q a w := by
  refine (wpIn_wide (n := 1)).1 (wpIn_rangeFunc ?_)
  intro fn hfn
  obtain ⟨W1, hW1⟩ : ∃ W1, (w.alloc (.deferred (some []))).alloc (Rc.at ⟨fn, a.tmps, ps, assign, body, w.heap.size⟩ .ready none) = W1 := ⟨_, rfl⟩
  have hL1 : W1.heap[w.heap.size + 1]? = some (Rc.at ⟨fn, a.tmps, ps, assign, body, w.heap.size⟩ .ready none) := by
    rw [← hW1]; have := World.alloc_heap_new (w.alloc (.deferred (some []))) (Rc.at ⟨fn, a.tmps, ps, assign, body, w.heap.size⟩ .ready none); rwa [World.size_alloc] at this
  have hK1 : W1.heap[w.heap.size]? = some (.deferred (some [])) := by
    rw [← hW1]; exact (Below.heap_alloc _ _ _ (by simp)).trans (World.alloc_heap_new w _)
  have hU1 : Up w W1 := by rw [← hW1]; exact (alloc_up_any _ _ rfl).trans (alloc_up_any _ _ rfl)
  have hs1 : W1.heap.size = w.heap.size + 2 := by rw [← hW1]; simp
  refine ⟨w.heap.size + 1, [{ target := .collected w.heap.size, args := #[] }], W1, { target := .fn (.func gf) lb, args := #[.func (.yield (w.heap.size + 1)) #[] #[]] }, W1, gf,
    #[.func (.yield (w.heap.size + 1)) #[] #[]] ++ lb, W1, ?_, ?_, ?_, ?_, fun _ => Nat.le_refl _, ?_⟩
  · rw [← hW1]; exact run_enterLoop_outer _ _ _ _ _
  · simp only [resolve, hg]
    simp [go_sem]
  · intro f' _; trivial
  · simp [invoke, go_sem, eg]
  · refine (h fn W1 hU1 hs1 hK1 hL1).mono ?_
    rintro e W3 ⟨⟨v, rfl⟩, st, pe, hst, hl3, hQ⟩
    refine ⟨pe, _, run_endLoop hl3 hst, ?_⟩
    have := hQ _ (putObj_chg (.loop { state := .exhausted, pending := pe, fn := fn, tmps := a.tmps, params := ps, assign := assign, body := body, defers := w.heap.size }) hl3 rfl rfl)
    cases pe with
    | none => exact this
    | some c => exact wpIn_wide.2 this
end

/-- What is asked at a function's end behind a range over a function. -/
theorem marks_ret {P : Program} {fn : Func} {R : Ending → World → Prop} {tmps : Array Value} {D : Nat} {W : World} (hD : W.heap[D]? = some (.deferred (some [])))
    (h : ∀ W', Chg (· = D) W W' → ∃ v, (results fn tmps).run P W' = .ok v W' ∧ R (.returned v) W') :
    bodyPostM Fence.wide 0 P fn R .ret { tmps := tmps, defers := [{ target := .collected D, args := #[] }] } W := by
  refine ⟨by simp, .inl ⟨_, _, rfl, run_takeDeferred hD, ?_⟩⟩
  obtain ⟨v, hv, hR⟩ := h _ (putObj_chg (.deferred none) hD rfl rfl)
  exact ⟨v, hv, hR⟩
end Go.Proofs.YtalmjdlcogdpmaaGreatDoor

namespace Go.Proofs.YtalmjdlcogdpmaaGreatDoor
open Go.RowKit
attribute [local go_sem] upUpon_value upUpon_enter upUpon_skip upUpon_row ucUpon_value ucUpon_skip ucUpon_enter ucUpon_row

set_option maxHeartbeats 1000000 in
theorem each_any (h : Nat) (w : World) : Calls Tryz.prog 131 #[.pointer (some ⟨h, 0, none⟩)] w fun e w' => e = .returned (.func (.func 132) #[] #[.pointer (some ⟨w.heap.size, 0, none⟩)]) ∧ Up w w' ∧ w'.heap.size = w.heap.size + 1 ∧ Blk w' w.heap.size [.pointer (some ⟨h, 0, none⟩)] := by
  go_enter Tryz.func131, Tryz.ntmps131
  go_upto_region 1 with (fail)
  refine wp_alloc1 fun W hU hs b0 => ?_
  go_wp2
  go_ret
  exact ⟨rfl, hU, hs, b0⟩

set_option maxRecDepth 100000 in
set_option maxHeartbeats 2000000 in
/-- The iterator, whatever a round does. -/
theorem each1_any (h Bp l : Nat) (v : Value) (L : List Msg) (hlen : L.length ≤ 1000000) (J : Nat → World → Prop) (Stop : World → Prop)
    (hJR : ∀ i W, J i W → RowM W v L) (hJu : ∀ i W W', J i W → Up W W' → J i W')
    (hY : ∀ i m W, J i W → L[i]? = some m → YieldAt Fence.wide 0 Tryz.prog l #[.int .i64 i, m.val] W fun e W' => (e = .returned (.bool true) ∧ J (i + 1) W') ∨ (e = .returned (.bool false) ∧ Stop W'))
    (w : World) (hx : HeapIs w h v L) (hb : Blk w Bp [.pointer (some ⟨h, 0, none⟩)]) (h0 : J 0 w) :
    CallsIn Fence.wide 0 Tryz.prog 132 #[.func (.yield l) #[] #[], .pointer (some ⟨Bp, 0, none⟩)] w fun e W' => e = .returned (.tuple #[]) ∧ (J L.length W' ∨ Stop W') := by
  obtain ⟨p, c, hv⟩ := OwnR.form hx.r
  have rh := hx.b.get
  rw [hv] at rh
  have rb := hb.get
  have H := Lib.hid (And.intro hx (And.intro hv h0))
  clear hx hb hv h0
  refine callsIn_wide.2 ?_
  go_enter Tryz.func132, Tryz.ntmps132
  go_wp2_with fail
  clear rh rb
  go_loopw [10] (fun v wr => ∃ i : Nat, i ≤ L.length ∧ v = .int .i64 i ∧ Hid (J i wr)) (fun v _ => L.length - (intOf v).toNat)
  case atStart => exact ⟨0, Nat.zero_le _, rfl, Lib.hid H.out.2.2⟩
  case round =>
    obtain ⟨i, hi, rfl, hJ⟩ := hrel
    by_cases hlt : i < L.length
    · obtain ⟨m, hm⟩ : ∃ m, L[i]? = some m := ⟨L[i], by simp [hlt]⟩
      obtain ⟨g, cap, hv, hbe⟩ := OwnR.atM (hJR _ _ hJ.out) hm
      have hpg : p = some ⟨g, 0, none⟩ := by have := H.out.2.1; rw [hv] at this; injection this with h1 _ _; exact h1.symm
      have hcc : c = cap := by have := H.out.2.1; rw [hv] at this; injection this with _ _ h1; exact h1.symm
      subst hpg hcc
      have rE := hbe.get
      have rE0 := hbe.zero
      have HE := Lib.hid hm
      clear hm hv hbe
      go_upto_region 3 with (fail)
      refine wp_alloc1 (A := m.list) fun W hU hs bX => ?_
      have hJW := hJu _ _ _ hJ.out hU
      obtain ⟨fn, tmps, assign, body, hy, hR⟩ := hY i m W hJW HE.out
      have rX := bX.get
      clear rE rE0 hs
      simp only [Msg.val] at hy
      refine (wpIn_wide (n := 0)).1 ?_
      gi_wp2
      refine ⟨rfl, hR.mono ?_⟩
      clear hR hy rX
      rintro e' W3 (⟨rfl, hJ3⟩ | ⟨rfl, hS3⟩)
      · have HJ3 := Lib.hid hJ3
        clear hJ3
        gi_wp2
        go_wp2
        exact ⟨⟨i + 1, by omega, by go_num, HJ3⟩, by simp [intOf]; omega⟩
      · have HS3 := Lib.hid hS3
        clear hS3
        gi_wp2
        go_wp2
        refine bodyPost_ret (results_none rfl _ _ _) rfl ?_
        exact ⟨rfl, .inr HS3.out⟩
    · have hie : i = L.length := by omega
      have HI := Lib.hid hie
      clear hie
      go_wp2
      go_end0
      exact ⟨rfl, .inl (by rw [← HI.out]; exact hJ.out)⟩
end Go.Proofs.YtalmjdlcogdpmaaGreatDoor

namespace Go.Proofs.YtalmjdlcogdpmaaGreatDoor
open Go.RowKit
attribute [local go_sem] upUpon_value upUpon_enter upUpon_skip upUpon_row ucUpon_value ucUpon_skip ucUpon_enter ucUpon_row tUpon_value tUpon_skip tUpon_enter Oper.semAt_some wideR_round

theorem Chg.objM {S : Nat → Prop} {W W' : World} (h : Chg S W W') {l : Nat} {o : Obj} (hl : W.heap[l]? = some o) (hn : ¬ S l) : W'.heap[l]? = some o := (h.block l (Array.getElem?_eq_some_iff.1 hl).1 hn).trans hl
/-- What find answers. -/
def FindSays (L : List Msg) (fr uid k : Int) : Prop := (k = -1 ∧ ∀ m ∈ L, ¬ (m.f = fr ∧ m.u = uid)) ∨ ∃ (i : Nat) (m : Msg), k = i ∧ L[i]? = some m ∧ m.f = fr ∧ m.u = uid

set_option maxRecDepth 100000 in
set_option maxHeartbeats 2000000 in
theorem heapfind_any (h : Nat) (v : Value) (L : List Msg) (fr uid : Int) (w : World) (x : HeapIs w h v L) (hlen : L.length ≤ 100000) :
    Calls Tryz.prog 127 #[.pointer (some ⟨h, 0, none⟩), .int .i64 fr, .int .i64 uid] w fun e w' => Up w w' ∧ ∃ k, e = .returned (.int .i64 k) ∧ FindSays L fr uid k := by
  have H := Lib.hid (And.intro x hlen)
  clear x hlen
  refine (callsIn_wide (n := 0)).1 ?_
  refine callsIn_of_wp_marks (n := 0) Tryz.func127 rfl trivial ?_
  refine wpIn_wide.2 ?_
  simp only [Tryz.ntmps127, List.size_toArray, List.length_cons, List.length_nil, Nat.reduceAdd, Nat.reduceSub, Array.replicate_succ, Array.replicate_zero, List.push_toArray, List.append_toArray, List.nil_append, List.cons_append]
  go_upto_region 1 with (fail)
  refine wp_alloc3 fun W1 hU1 hs1 bF bU bR => ?_
  go_wp2_with fail
  refine (each_any h W1).mono ?_
  rintro e W2 ⟨rfl, hU2, hs2, bP⟩
  go_wp2_with fail
  refine wp_range rfl (enters_of Tryz.func132 (by kernel_rfl) rfl) ?_
  intro fn W6 hU6 hs6 hD6 hl6
  obtain ⟨F, hF⟩ : ∃ F, w.heap.size = F := ⟨_, rfl⟩
  obtain ⟨U, hU⟩ : ∃ U, F + 1 = U := ⟨_, rfl⟩
  obtain ⟨R, hR⟩ : ∃ R, U + 1 = R := ⟨_, rfl⟩
  obtain ⟨B, hB⟩ : ∃ B, F + 3 = B := ⟨_, rfl⟩
  obtain ⟨D, hD⟩ : ∃ D, W2.heap.size = D := ⟨_, rfl⟩
  have hDR : D = R + 2 := by omega
  have hBR : B = R + 1 := by omega
  have hN : W6.heap.size = D + 2 := by omega
  rw [hF, hU, hR] at bR
  rw [hF, hU] at bU
  rw [hF] at bF
  rw [hs1, hF, hB] at bP
  simp only [hD, hF, hU, hR, hB] at hl6 hD6 ⊢
  obtain ⟨rc, hl6, hrc⟩ : ∃ rc : Rc, W6.heap[D + 1]? = some (rc.at .ready none) ∧ rc = _ := ⟨_, hl6, rfl⟩
  rw [← hrc]
  have hU16 := hU2.trans hU6
  have hU06 := hU1.trans hU16
  have hfl : ∀ k, heapFoot h v k → k < F := fun k hk => by have := H.out.1.lt k hk; omega
  refine (each1_any h B (D + 1) v L (by have := H.out.2; omega)
    (fun i W => Up w W ∧ (Blk W F [.int .i64 fr] ∧ Blk W U [.int .i64 uid] ∧ Blk W R [.int .i64 0]) ∧ W.heap[D + 1]? = some (rc.at .ready none) ∧ W.heap[D]? = some (.deferred (some [])) ∧ ∀ (j : Nat) (m : Msg), j < i → L[j]? = some m → ¬ (m.f = fr ∧ m.u = uid))
    (fun W => Up w W ∧ W.heap[D + 1]? = some (rc.at .done (some .ret)) ∧ W.heap[D]? = some (.deferred (some [])) ∧ ∃ (i : Nat) (m : Msg), Blk W R [.int .i64 i] ∧ L[i]? = some m ∧ m.f = fr ∧ m.u = uid)
    (fun i W hJ => (H.out.1.up hJ.1).r) ?hJu ?hY W6 (H.out.1.up hU06) (bP.up hU6) ⟨hU06, ⟨bF.up hU16, bU.up hU16, bR.up hU16⟩, hl6, hD6, fun j m hj => by omega⟩).mono ?_
  case hJu =>
    rintro i W W' ⟨h1, ⟨h2, h3, h4⟩, h5, h6, h7⟩ hu
    exact ⟨h1.trans hu, ⟨h2.up hu, h3.up hu, h4.up hu⟩, (Chg.of_up (S := fun _ => False) hu).objM h5 id, (Chg.of_up (S := fun _ => False) hu).objM h6 id, h7⟩
  case hY =>
    rintro i m W ⟨h1, ⟨h2, h3, h4⟩, h5, h6, h7⟩ hm
    have e1 := congrArg Rc.assign hrc
    have e2 := congrArg Rc.body hrc
    have e3 := congrArg Rc.params hrc
    have e4 := congrArg Rc.tmps hrc
    dsimp only at e1 e2 e3 e4
    suffices hX : ∀ RR : Ending → World → Prop,
        (∀ W', (Up w W' ∧ (Blk W' F [.int .i64 fr] ∧ Blk W' U [.int .i64 uid] ∧ Blk W' R [.int .i64 0]) ∧ W'.heap[D + 1]? = some (rc.at .ready none) ∧ W'.heap[D]? = some (.deferred (some [])) ∧ ∀ (j : Nat) (m : Msg), j < i + 1 → L[j]? = some m → ¬ (m.f = fr ∧ m.u = uid)) → RR (.returned (.bool true)) W') →
        (∀ W', (Up w W' ∧ W'.heap[D + 1]? = some (rc.at .done (some .ret)) ∧ W'.heap[D]? = some (.deferred (some [])) ∧ ∃ (i : Nat) (m : Msg), Blk W' R [.int .i64 i] ∧ L[i]? = some m ∧ m.f = fr ∧ m.u = uid) → RR (.returned (.bool false)) W') →
        YieldAt Fence.wide 0 Tryz.prog (D + 1) #[.int .i64 i, m.val] W RR from
      hX _ (fun W' h => .inl ⟨rfl, h⟩) (fun W' h => .inr ⟨rfl, h⟩)
    intro RR hR1 hR2
    refine yieldAt_of h5 (by rw [e3]; rfl) ?_
    rw [e1, e2, e3, e4]
    have HY := Lib.hid (And.intro h1 (And.intro h2 (And.intro h3 (And.intro h4 (And.intro h5 (And.intro h6 h7))))))
    have HE := Lib.hid hm
    have HR := Lib.hid (And.intro hR1 hR2)
    have HN := Lib.hid (And.intro hDR (And.intro hR (And.intro hU (And.intro hF hBR))))
    clear e1 e2 e3 e4 h1 h2 h3 h4 h5 h6 h7 hm hrc hU06 hU16 hl6 hD6 hR1 hR2 hDR hN hD hR hU hF hB hBR hs1 hs2 hs6 bF bU bR bP hfl
    simp only [Msg.val]
    gi_wp2
    obtain ⟨y1, y2, y3, y4, y5, y6, y7⟩ := HY.out
    have hDlt : D + 1 < W.heap.size := (Array.getElem?_eq_some_iff.1 y5).1
    obtain ⟨W1a, hW1a⟩ : ∃ W1a, W.alloc (.cells m.list.toArray 43) = W1a := ⟨_, rfl⟩
    have hUa : Up W W1a := by rw [← hW1a]; exact alloc_up _ _ _
    have bX : Blk W1a W.heap.size m.list := by rw [← hW1a]; exact Blk.alloc W m.list 43
    have hsa : W1a.heap.size = W.heap.size + 1 := by rw [← hW1a]; simp
    rw [hW1a]
    have hl1a := (Chg.of_up (S := fun _ => False) hUa).objM y5 id
    refine ⟨hl1a, ?_⟩
    have hcb : Chg (· = D + 1) W1a (W1a.putObj (D + 1) (rc.at .busy none)) := putObj_chg _ hl1a rfl rfl
    have hlb : (W1a.putObj (D + 1) (rc.at .busy none)).heap[D + 1]? = some (rc.at .busy none) := World.putObj_heap_same (by omega)
    obtain ⟨X, hX⟩ : ∃ X, W.heap.size = X := ⟨_, rfl⟩
    rw [hX] at bX hDlt ⊢
    have bXb := bX.chg hcb (fun e => by omega)
    generalize (W1a.putObj (D + 1) (rc.at .busy none)) = W2 at *
    have hc02 : Chg (· = D + 1) W W2 := (Chg.of_up hUa).trans hcb (fun _ _ e => e)
    obtain ⟨n1, n2, n3, n4, n5⟩ := HN.out
    have bF2 := y2.chg hc02 (fun e => by omega)
    have bU2 := y3.chg hc02 (fun e => by omega)
    have bR2 := y4.chg hc02 (fun e => by omega)
    have hFR2 : W2.frozen? ⟨R, 0, none⟩ = false := (hc02.marks _).trans (new_free w (.map #[] 0) y1 0 _ (by omega))
    have H2 := Lib.hid (And.intro hlb (And.intro hc02 (And.intro hX bR2)))
    have rX := bXb.get
    have rF := bF2.get
    have rU := bU2.get
    have rR := bR2.get
    clear hlb hc02 hX y1 y2 y3 y4 y5 y6 y7 bX bXb hcb hl1a hUa hsa hW1a bF2 bU2 bR2 n1 n2 n3 n4 n5
    by_cases hf : m.f = fr
    · by_cases hu : m.u = uid
      · have hd1 : (m.f == fr) = true := by rw [beq_iff_eq]; exact hf
        have hd2 : (m.u == uid) = true := by rw [beq_iff_eq]; exact hu
        have HM := Lib.hid (And.intro hf hu)
        clear hf hu
        gi_wp2
        obtain ⟨b1, b2, b3, b4⟩ := H2.out
        obtain ⟨y1, y2, y3, y4, y5, y6, y7⟩ := HY.out
        obtain ⟨n1, n2, n3, n4, n5⟩ := HN.out
        have c3 : Chg (· = R) W2 (W2.setCell ⟨R, 0, none⟩ (.int .i64 i)) := Chg.setCell (S := (· = R)) (p := ⟨R, 0, none⟩) (Chg.refl _ _) (Or.inl rfl) _
        have b5 := b4.set 0 (.int .i64 i) (by simp)
        have hl3 := c3.objM b1 (fun e => by omega)
        have c2R : Chg (fun q => q = D + 1 ∨ q = R) W (W2.setCell ⟨R, 0, none⟩ (.int .i64 i)) := (b2.mono (T := fun q => q = D + 1 ∨ q = R) (fun _ _ e => .inl e)).trans c3 (fun _ _ e => .inr e)
        generalize (W2.setCell ⟨R, 0, none⟩ (.int .i64 i)) = W3 at *
        refine ⟨hl3, HR.out.2 _ ?_⟩
        have c4 : Chg (· = D + 1) W3 (W3.putObj (D + 1) (rc.at .done (some .ret))) := putObj_chg _ hl3 rfl rfl
        have hlr : (W3.putObj (D + 1) (rc.at .done (some .ret))).heap[D + 1]? = some (rc.at .done (some .ret)) := World.putObj_heap_same (Array.getElem?_eq_some_iff.1 hl3).1
        have cT := c2R.trans c4 (fun _ _ e => .inl e)
        exact ⟨((Chg.of_up y1).trans cT (fun _ _ e => e)).to_up (fun q hq e => by rcases e with e | e <;> omega), hlr, cT.objM y6 (fun e => by rcases e with e | e <;> omega), i, m, b5.chg c4 (fun e => by omega), HE.out, HM.out.1, HM.out.2⟩
      · have hd1 : (m.f == fr) = true := by rw [beq_iff_eq]; exact hf
        have hd2 : (m.u == uid) = false := by rw [beq_eq_false_iff_ne]; exact hu
        have HM : Hid (¬ (m.f = fr ∧ m.u = uid)) := Lib.hid (fun h => hu h.2)
        clear hf hu
        gi_wp2
        obtain ⟨b1, b2, b3, b4⟩ := H2.out
        obtain ⟨y1, y2, y3, y4, y5, y6, y7⟩ := HY.out
        obtain ⟨n1, n2, n3, n4, n5⟩ := HN.out
        refine ⟨b1, HR.out.1 _ ?_⟩
        have c3 : Chg (· = D + 1) W2 (W2.putObj (D + 1) (rc.at .ready none)) := putObj_chg _ b1 rfl rfl
        have hlr : (W2.putObj (D + 1) (rc.at .ready none)).heap[D + 1]? = some (rc.at .ready none) := World.putObj_heap_same (Array.getElem?_eq_some_iff.1 b1).1
        have c4 := b2.trans c3 (fun _ _ e => e)
        exact ⟨((Chg.of_up y1).trans c4 (fun _ _ e => e)).to_up (fun q hq e => by omega), ⟨y2.chg c4 (fun e => by omega), y3.chg c4 (fun e => by omega), y4.chg c4 (fun e => by omega)⟩, hlr, c4.objM y6 (fun e => by omega), fun j m' hj hm' => by
          rcases Nat.lt_or_ge j i with h1 | h1
          · exact y7 j m' h1 hm'
          · have : j = i := by omega
            subst this
            rw [HE.out] at hm'
            cases hm'
            exact HM.out⟩
    · have hd1 : (m.f == fr) = false := by rw [beq_eq_false_iff_ne]; exact hf
      have HM : Hid (¬ (m.f = fr ∧ m.u = uid)) := Lib.hid (fun h => hf h.1)
      clear hf
      gi_wp2
      obtain ⟨b1, b2, b3, b4⟩ := H2.out
      obtain ⟨y1, y2, y3, y4, y5, y6, y7⟩ := HY.out
      obtain ⟨n1, n2, n3, n4, n5⟩ := HN.out
      refine ⟨b1, HR.out.1 _ ?_⟩
      have c3 : Chg (· = D + 1) W2 (W2.putObj (D + 1) (rc.at .ready none)) := putObj_chg _ b1 rfl rfl
      have hlr : (W2.putObj (D + 1) (rc.at .ready none)).heap[D + 1]? = some (rc.at .ready none) := World.putObj_heap_same (Array.getElem?_eq_some_iff.1 b1).1
      have c4 := b2.trans c3 (fun _ _ e => e)
      exact ⟨((Chg.of_up y1).trans c4 (fun _ _ e => e)).to_up (fun q hq e => by omega), ⟨y2.chg c4 (fun e => by omega), y3.chg c4 (fun e => by omega), y4.chg c4 (fun e => by omega)⟩, hlr, c4.objM y6 (fun e => by omega), fun j m' hj hm' => by
        rcases Nat.lt_or_ge j i with h1 | h1
        · exact y7 j m' h1 hm'
        · have : j = i := by omega
          subst this
          rw [HE.out] at hm'
          cases hm'
          exact HM.out⟩
  · rintro e W3 ⟨rfl, h | h⟩
    · obtain ⟨h1, ⟨h2, h3, h4⟩, h5, h6, h7⟩ := h
      refine ⟨⟨_, rfl⟩, .ready, none, by simp, h5, fun W4 hc4 => ?_⟩
      dsimp only
      have b6 := hc4.objM h6 (fun e => by omega)
      have hU4 : Up w W4 := ((Chg.of_up h1).trans hc4 (fun _ _ e => e)).to_up (fun q hq e => by omega)
      have bR4 := h4.chg hc4 (fun e => by omega)
      have hFR4 : W4.frozen? ⟨R, 0, none⟩ = false := new_free w (.map #[] 0) hU4 0 _ (by omega)
      have hno : ∀ m ∈ L, ¬ (m.f = fr ∧ m.u = uid) := fun m hm => by
        obtain ⟨j, hj⟩ := List.getElem?_of_mem hm
        exact h7 j m (List.getElem?_eq_some_iff.1 hj).1 hj
      have bR5 := bR4.set 0 (.int .i64 (-1)) (by simp)
      have cR5 : Chg (· = R) W4 (W4.setCell ⟨R, 0, none⟩ (.int .i64 (-1))) := Chg.setCell (S := (· = R)) (p := ⟨R, 0, none⟩) (Chg.refl _ _) (Or.inl rfl) _
      have HZ := Lib.hid (And.intro b6 (And.intro hU4 (And.intro hno (And.intro bR5 cR5))))
      have HK := Lib.hid (And.intro hDR (And.intro hR (And.intro hU hF)))
      have rR := bR4.get
      clear h1 h2 h3 h4 h5 h6 h7 hc4 b6 hU4 hno bR4 hrc hl6 hD6 bF bU bR bP hU06 hU16 hfl hN hD hB hBR hDR hR hU hF bR5 cR5 hs1 hs2 hs6
      go_wp2
      obtain ⟨n1, n2, n3, n4⟩ := HK.out
      obtain ⟨z1, z2, z3, z4, z5⟩ := HZ.out
      refine marks_ret (z5.objM z1 (fun e => by omega)) fun W' hc => ⟨.int .i64 (-1), ?_, ?_⟩
      · have := (z4.chg hc (fun e => by omega)).at (i := 0) rfl
        simp [results, Tryz.results127, go_sem, this]
      · exact ⟨((Chg.of_up z2).trans ((z5.mono (T := fun q => q = R ∨ q = D) (fun _ _ e => .inl e)).trans hc (fun _ _ e => .inr e)) (fun _ _ e => e)).to_up (fun q hq e => by rcases e with e | e <;> omega), -1, rfl, .inl ⟨rfl, z3⟩⟩
    · obtain ⟨h1, h2, h3, i, m, h4, h5, h6⟩ := h
      refine ⟨⟨_, rfl⟩, .done, some .ret, by simp, h2, fun W4 hc4 => ?_⟩
      dsimp only
      have b6 := hc4.objM h3 (fun e => by omega)
      have hU4 : Up w W4 := ((Chg.of_up h1).trans hc4 (fun _ _ e => e)).to_up (fun q hq e => by omega)
      have bR4 := h4.chg hc4 (fun e => by omega)
      have HZ := Lib.hid (And.intro b6 (And.intro hU4 (And.intro bR4 (And.intro hDR (And.intro hR (And.intro hU (And.intro hF (And.intro h5 (And.intro h6 ‹L[i]? = some m›)))))))))
      clear h1 h2 h3 h4 h5 h6 hc4 b6 hU4 bR4 hrc hl6 hD6 bF bU bR bP hU06 hU16 hfl hN hD hB hBR hDR hR hU hF hs1 hs2 hs6
      go_wp2
      obtain ⟨z1, z2, z3, n1, n2, n3, n4, z4, z5, z6⟩ := HZ.out
      refine marks_ret z1 fun W' hc => ⟨.int .i64 i, ?_, ?_⟩
      · have := (z3.chg hc (fun e => by omega)).at (i := 0) rfl
        simp [results, Tryz.results127, go_sem, this]
      · exact ⟨((Chg.of_up z2).trans hc (fun _ _ e => e)).to_up (fun q hq e => by omega), i, rfl, .inr ⟨i, m, rfl, z4, z5⟩⟩
end Go.Proofs.YtalmjdlcogdpmaaGreatDoor

namespace Go.Proofs.YtalmjdlcogdpmaaGreatDoor
open Go.RowKit
attribute [local go_sem] upUpon_value upUpon_enter upUpon_skip upUpon_row ucUpon_value ucUpon_skip ucUpon_enter ucUpon_row

set_option maxRecDepth 100000 in
set_option maxHeartbeats 2000000 in
theorem heapPush_any (h : Nat) (v : Value) (m : Msg) (L : List Msg) (w : World) (x : HeapIs w h v L) (hn : L.length ≤ 10000) (hO : HeapO L) (hno : ∀ y ∈ L, ¬ (y.f = m.f ∧ y.u = m.u)) :
    Calls Tryz.prog 124 #[.pointer (some ⟨h, 0, none⟩), m.val] w fun e w' => e = .returned (.int .i64 0) ∧ Chg (heapFoot h v) w w' ∧ ∃ v' L', HeapIs w' h v' L' ∧ L'.Perm (L ++ [m]) ∧ HeapO L' ∧ ∀ k, sameBlock v' k → sameBlock v k ∨ w.heap.size ≤ k := by
  have H := Lib.hid (And.intro x (And.intro hO (And.intro hn hno)))
  have hlt : h < w.heap.size := x.lt h (.inl rfl)
  clear x hO hn hno
  simp only [Msg.val]
  go_enter Tryz.func124, Tryz.ntmps124
  go_upto_region 1 with (fail)
  refine wp_alloc1 fun W1 hU1 hs1 bM => ?_
  have rM := bM.get
  have x1 := H.out.1.up hU1
  have HN := Lib.hid (heapnone_any h W1 (x1.b.at (i := 1) rfl))
  have X1 := Lib.hid x1
  clear x1
  go_wp2_with fail
  refine HN.out.mono ?_
  rintro e w2 ⟨rfl, rfl⟩
  go_wp2_with fail
  refine (heapfind_any h v L m.f m.u w2 X1.out (by have := H.out.2.2.1; omega)).mono ?_
  rintro e w3 ⟨hU3, k, rfl, hk⟩
  have hk1 : k = -1 := by
    rcases hk with ⟨h1, _⟩ | ⟨i, y, _, h2, h3, h4⟩
    · exact h1
    · exact absurd ⟨h3, h4⟩ (H.out.2.2.2 y (List.mem_of_getElem? h2))
  subst hk1
  clear hk HN
  have x3 := X1.out.up hU3
  obtain ⟨p, c, hv⟩ := OwnR.form x3.r
  have rh := x3.b.get
  rw [hv] at rh
  have hd : decide ((L.length : Int) ≥ 16384) = false := decide_eq_false (by have := H.out.2.2.1; omega)
  have X3 := Lib.hid (And.intro x3 (And.intro (hU1.trans hU3) (bM.up hU3)))
  clear x3 hv rM
  go_upto_region 7 with (fail)
  clear rh hd
  have kM := X3.out.2.2.lift
  refine region_upL0 [0, 1, 2, 3] [] 4 [] (by kernel_rfl) (by kernel_rfl) ?_
  simp only [getOps, List.getElem?_cons_zero, List.getElem?_cons_succ]
  repeat (apply wpUp_step rfl rfl; (focus (intro W hU; go_simp; exact ⟨rfl, Up.refl _⟩)); go_simp)
  refine wpUp_nil fun W5 hW5 => ?_
  refine wpNew_nil fun W6 hW6 => ?_
  clear kM
  have hU36 : Up w3 W6 := (up_drew.trans hW5).trans hW6
  have HP := Lib.hid (heappush_any h v m L W6 (X3.out.1.up hU36) (by have := H.out.2.2.1; omega) H.out.2.1)
  have X6 := Lib.hid (X3.out.2.1.trans hU36)
  clear hU36
  go_wp2_with fail
  refine HP.out.mono ?_
  rintro e w7 ⟨rfl, hc, v', L', hx, hp, ho, hnw⟩
  have H7 := Lib.hid (And.intro hc (And.intro hx (And.intro hp (And.intro ho hnw))))
  clear hc hx hp ho hnw
  go_wp2
  go_ret
  exact ⟨rfl, (Chg.of_up X6.out).trans H7.out.1 (fun _ _ e => e), v', L', H7.out.2.1, H7.out.2.2.1, H7.out.2.2.2.1, fun k hk => by
    rcases H7.out.2.2.2.2 k hk with h1 | h1
    · exact .inl h1
    · exact .inr (Nat.le_trans X6.out.1.size h1)⟩

set_option maxRecDepth 100000 in
set_option maxHeartbeats 2000000 in
theorem heapPop_any (h : Nat) (v : Value) (m : Msg) (L : List Msg) (w : World) (x : HeapIs w h v L) (hn : L.length ≤ 100000) (hO : HeapO L) (hm : L[0]? = some m) :
    Calls Tryz.prog 123 #[.pointer (some ⟨h, 0, none⟩)] w fun e w' => e = .returned (.tuple #[m.val, .int .i64 0]) ∧ Chg (heapFoot h v) w w' ∧ ∃ v' L', HeapIs w' h v' L' ∧ L'.Perm (L.eraseIdx 0) ∧ HeapO L' ∧ ∀ k, sameBlock v' k → sameBlock v k := by
  have H := Lib.hid (And.intro x (And.intro hO (And.intro hn hm)))
  have hlt : ∀ k, heapFoot h v k → k < w.heap.size := x.lt
  have HLT := Lib.hid hlt
  clear x hO hn hm hlt
  go_enter Tryz.func123, Tryz.ntmps123
  go_upto_region 1 with (fail)
  refine wp_alloc1 fun W1 hU1 hs1 bR => ?_
  have x1 := Lib.hid (H.out.1.up hU1)
  go_wp2_with fail
  refine (heapfirst_any h v L W1 x1.out).mono ?_
  rintro e w2 ⟨hU2, hf⟩
  obtain rfl : e = .returned (.tuple #[m.val, .int .i64 0]) := by
    rcases hf with ⟨h1, _⟩ | ⟨m', h1, h2⟩
    · have := H.out.2.2.2; rw [h1] at this; cases this
    · rw [H.out.2.2.2] at h1; cases h1; exact h2
  clear hf
  have x2 := Lib.hid (And.intro (x1.out.up hU2) (And.intro (hU1.trans hU2) (bR.up hU2)))
  have hs2 : w.heap.size + 1 ≤ w2.heap.size := by have := hU2.1.size; omega
  clear x1 hU2 hU1 bR hs1
  go_upto_region 2 with (fail)
  refine wp_alloc1 (A := m.list) fun W3 hU3 hs3 bX => ?_
  obtain ⟨X, hX⟩ : ∃ X, w2.heap.size = X := ⟨_, rfl⟩
  rw [hX] at bX hs2
  simp only [hX]
  have HP := Lib.hid (heapcut_any h v 0 m L W3 (x2.out.1.up hU3) H.out.2.2.2 H.out.2.2.1 H.out.2.1)
  have x3 := Lib.hid (And.intro (x2.out.2.1.trans hU3) (And.intro (x2.out.2.2.up hU3) bX))
  clear x2 hU3 hs3 bX hX
  go_wp2_with fail
  refine HP.out.mono ?_
  rintro e w4 ⟨rfl, hc, v', L', hx, hp, ho, hnw⟩
  have hwn : ¬ heapFoot h v w.heap.size := fun hk => by have := HLT.out _ hk; omega
  have hXn : ¬ heapFoot h v X := fun hk => by have := HLT.out _ hk; omega
  have bR4 := x3.out.2.1.chg hc hwn
  have bX4 := x3.out.2.2.chg hc hXn
  have c4 : Chg (heapFoot h v) w w4 := (Chg.of_up x3.out.1).trans hc (fun _ _ e => e)
  have rX := bX4.get
  have rR := bR4.get
  have hF : ∀ j, w4.frozen? ⟨w.heap.size, j, none⟩ = false := fun j => (c4.marks _).trans (frozen_new _ _ (Nat.le_refl _))
  have bR5 := Blk.sets m.list 0 bR4 (by simp)
  have cR5 : Chg (· = w.heap.size) w4 (w4.setCells w.heap.size 0 m.list) := Chg.setCells (S := (· = w.heap.size)) (Or.inl rfl) m.list 0 (Chg.refl _ w4)
  have H5 := Lib.hid (And.intro bR5 (And.intro cR5 (And.intro c4 (And.intro hx (And.intro hp (And.intro ho hnw))))))
  clear bR5 cR5 c4 hx hp ho hnw bR4 bX4 hc hXn
  go_wp2
  obtain ⟨z1, z2, z3, z4, z5, z6, z7⟩ := H5.out
  refine bodyPost_ret (w := w4.setCells w.heap.size 0 m.list) (results_blk_tmp rfl rfl z1 Tryz.underlying43 rfl infoMsgN) rfl ⟨rfl, z3.trans z2 (fun k hk e => by omega), v', L', z4.chg z2 (fun k hk e => ?_), z5, z6, z7⟩
  subst e
  exact hwn (hk.imp id (z7 _))
end Go.Proofs.YtalmjdlcogdpmaaGreatDoor

namespace Go.Proofs.YtalmjdlcogdpmaaGreatDoor
open Go.RowKit
section
variable {w w' : World} {q : Nat} {lv rv lv' rv' : Value} {vs : List Value} {L L' : List Msg} {Rs : List (List Msg)}
/-- Another foot: of the old one or new. -/
def footNew (w : World) (F F' : Nat → Prop) : Prop := ∀ k, F' k → F k ∨ w.heap.size ≤ k
theorem LadIs.bottom (x : LadIs w q lv rv vs L Rs) (hc : Chg (fun k => k = q ∨ sameBlock lv k) w w') (hb : Blk w' q [lv', .int .i64 32, rv]) (hr : RowM w' lv' L') (hn : ∀ j, sameBlock lv' j → sameBlock lv j ∨ w.heap.size ≤ j) :
    LadIs w' q lv' rv vs L' Rs ∧ Chg (ladFoot q lv rv vs) w w' ∧ footNew w (ladFoot q lv rv vs) (ladFoot q lv' rv vs) := by
  have hq : q < w.heap.size := x.lt q (.inl rfl)
  refine ⟨⟨hb, hr, OwnR.chg x.g hc fun k hk e => ?_, x.len, fun k v R hv hR => (x.rr k v R hv hR).chgM hc fun j hj e => ?_, fun j => (hc.marks _).trans (x.fz j), fun h => ?_, x.qr, x.qv, fun k hk hk2 => ?_, fun v hv k hk hk2 => ?_, x.rs, x.ss⟩, hc.mono fun k _ e => e.imp id fun e => .inl e, fun k hk => ?_⟩
  · rcases e with rfl | e
    · exact x.qr hk
    · exact x.lr k e hk
  · rcases e with rfl | e
    · exact x.qv v (List.mem_of_getElem? hv) hj
    · exact x.ls v (List.mem_of_getElem? hv) j e hj
  · rcases hn q h with h1 | h1
    · exact x.ql h1
    · omega
  · rcases hn k hk with h1 | h1
    · exact x.lr k h1 hk2
    · have := x.lt k (.inr (.inr (.inl hk2))); omega
  · rcases hn k hk with h1 | h1
    · exact x.ls v hv k h1 hk2
    · have := x.lt k (.inr (.inr (.inr ⟨v, hv, hk2⟩))); omega
  · rcases hk with h1 | h1 | h1 | h1
    · exact .inl (.inl h1)
    · exact (hn k h1).imp (fun h => .inr (.inl h)) id
    · exact .inl (.inr (.inr (.inl h1)))
    · exact .inl (.inr (.inr (.inr h1)))
theorem OwnR.lt_of {w : World} {e : TypeId} {size : Nat} {v : Value} {n : Nat} {xs : List Value} (h : OwnR w e size v n xs) : ∀ k, sameBlock v k → k < w.heap.size := OwnR.block_lt h
/-- One more rung. -/
theorem LadIs.rung (x : LadIs w q lv rv vs L Rs) (hc : Chg (fun k => k = q ∨ sameBlock rv k) w w') (hb : Blk w' q [lv, .int .i64 32, rv']) {v1 : Value} {R1 : List Msg} (hg : RowV w' rv' (vs ++ [v1])) (hr1 : RowM w' v1 R1)
    (hn : ∀ j, sameBlock rv' j → sameBlock rv j ∨ w.heap.size ≤ j) (hn1 : ∀ j, sameBlock v1 j → w.heap.size ≤ j) (hd : ∀ j, sameBlock v1 j → ¬ sameBlock rv' j) :
    LadIs w' q lv rv' (vs ++ [v1]) L (Rs ++ [R1]) ∧ Chg (ladFoot q lv rv vs) w w' ∧ footNew w (ladFoot q lv rv vs) (ladFoot q lv rv' (vs ++ [v1])) := by
  have hq : q < w.heap.size := x.lt q (.inl rfl)
  have lo : ∀ k, sameBlock lv k → k < w.heap.size := fun k hk => x.lt k (.inr (.inl hk))
  have so : ∀ v ∈ vs, ∀ k, sameBlock v k → k < w.heap.size := fun v hv k hk => x.lt k (.inr (.inr (.inr ⟨v, hv, hk⟩)))
  have key : ∀ (i : Nat) (v : Value), (vs ++ [v1])[i]? = some v → (i < vs.length ∧ vs[i]? = some v) ∨ (i = vs.length ∧ v = v1) := fun i v hv => by
    have hi := (List.getElem?_eq_some_iff.1 hv).1
    rw [List.length_append, List.length_singleton] at hi
    rcases Nat.lt_or_ge i vs.length with h1 | h1
    · rw [List.getElem?_append_left h1] at hv; exact .inl ⟨h1, hv⟩
    · have : i = vs.length := by omega
      subst this
      rw [List.getElem?_append_right (Nat.le_refl _), Nat.sub_self] at hv
      simp at hv
      exact .inr ⟨rfl, hv.symm⟩
  have mem : ∀ v ∈ vs ++ [v1], v ∈ vs ∨ v = v1 := fun v hv => by
    rcases List.mem_append.1 hv with h1 | h1
    · exact .inl h1
    · exact .inr (List.mem_singleton.1 h1)
  refine ⟨⟨hb, x.r.chgM hc fun k hk e => ?_, hg, by simp [x.len], fun k v R hv hR => ?_, fun j => (hc.marks _).trans (x.fz j), x.ql, fun h => ?_, fun v hv h => ?_, fun k hk hk2 => ?_, fun v hv k hk hk2 => ?_, fun v hv k hk hk2 => ?_, fun i j v u hij hv hu k hk hk2 => ?_⟩, hc.mono fun k _ e => e.imp id fun e => .inr (.inl e), fun k hk => ?_⟩
  · rcases e with rfl | e
    · exact x.ql hk
    · exact x.lr k hk e
  · rcases key k v hv with ⟨h1, h2⟩ | ⟨h1, h2⟩
    · rw [List.getElem?_append_left (by rw [← x.len]; exact h1)] at hR
      refine (x.rr k v R h2 hR).chgM hc fun j hj e => ?_
      rcases e with rfl | e
      · exact x.qv v (List.mem_of_getElem? h2) hj
      · exact x.rs v (List.mem_of_getElem? h2) j e hj
    · subst h2
      rw [List.getElem?_append_right (by rw [← x.len]; omega), h1, x.len, Nat.sub_self] at hR
      simp at hR
      subst hR
      exact hr1
  · rcases hn q h with h1 | h1
    · exact x.qr h1
    · omega
  · rcases mem v hv with h1 | rfl
    · exact x.qv v h1 h
    · have := hn1 q h; omega
  · rcases hn k hk2 with h1 | h1
    · exact x.lr k hk h1
    · have := lo k hk; omega
  · rcases mem v hv with h1 | rfl
    · exact x.ls v h1 k hk hk2
    · have := hn1 k hk2; have := lo k hk; omega
  · rcases mem v hv with h1 | rfl
    · rcases hn k hk with h2 | h2
      · exact x.rs v h1 k h2 hk2
      · have := so v h1 k hk2; omega
    · exact hd k hk2 hk
  · rcases key i v hv with ⟨h1, h2⟩ | ⟨h1, h2⟩
    · rcases key j u hu with ⟨h3, h4⟩ | ⟨h3, h4⟩
      · exact x.ss i j v u hij h2 h4 k hk hk2
      · subst h4; have := hn1 k hk2; have := so v (List.mem_of_getElem? h2) k hk; omega
    · subst h2
      rcases key j u hu with ⟨h3, h4⟩ | ⟨h3, h4⟩
      · have := hn1 k hk; have := so u (List.mem_of_getElem? h4) k hk2; omega
      · omega
  · rcases hk with h1 | h1 | h1 | ⟨v, hv, h1⟩
    · exact .inl (.inl h1)
    · exact .inl (.inr (.inl h1))
    · exact (hn k h1).imp (fun h => .inr (.inr (.inl h))) id
    · rcases mem v hv with h2 | rfl
      · exact .inl (.inr (.inr (.inr ⟨v, h2, h1⟩)))
      · exact .inr (hn1 k h1)
/-- One rung has turned. -/
theorem LadIs.into (x : LadIs w q lv rv vs L Rs) {n : Nat} {v0 v1 : Value} {R1 : List Msg} (hv0 : vs[n]? = some v0) (hc : Chg (fun k => sameBlock rv k ∨ sameBlock v0 k) w w') (hg : RowV w' rv (vs.set n v1)) (hr1 : RowM w' v1 R1)
    (hn1 : ∀ j, sameBlock v1 j → sameBlock v0 j ∨ w.heap.size ≤ j) :
    LadIs w' q lv rv (vs.set n v1) L (Rs.set n R1) ∧ Chg (ladFoot q lv rv vs) w w' ∧ footNew w (ladFoot q lv rv vs) (ladFoot q lv rv (vs.set n v1)) := by
  have hnl := (List.getElem?_eq_some_iff.1 hv0).1
  have m0 := List.mem_of_getElem? hv0
  have hq : q < w.heap.size := x.lt q (.inl rfl)
  have lo : ∀ k, sameBlock lv k → k < w.heap.size := fun k hk => x.lt k (.inr (.inl hk))
  have ro : ∀ k, sameBlock rv k → k < w.heap.size := fun k hk => x.lt k (.inr (.inr (.inl hk)))
  have so : ∀ v ∈ vs, ∀ k, sameBlock v k → k < w.heap.size := fun v hv k hk => x.lt k (.inr (.inr (.inr ⟨v, hv, hk⟩)))
  have key : ∀ (i : Nat) (v : Value), (vs.set n v1)[i]? = some v → (i = n ∧ v = v1) ∨ (i ≠ n ∧ vs[i]? = some v) := fun i v hv => by
    rw [List.getElem?_set] at hv
    by_cases e : n = i
    · rw [if_pos e, if_pos hnl] at hv; cases hv; exact .inl ⟨e.symm, rfl⟩
    · rw [if_neg e] at hv; exact .inr ⟨fun h => e h.symm, hv⟩
  have mem : ∀ v ∈ vs.set n v1, v ∈ vs ∨ v = v1 := fun v hv => by
    obtain ⟨i, hi⟩ := List.getElem?_of_mem hv
    rcases key i v hi with ⟨_, h⟩ | ⟨_, h⟩
    · exact .inr h
    · exact .inl (List.mem_of_getElem? h)
  refine ⟨⟨x.b.chg hc fun e => ?_, x.r.chgM hc fun k hk e => ?_, by unfold RowV; exact hg, by simp [x.len], fun k v R hv hR => ?_, fun j => (hc.marks _).trans (x.fz j), x.ql, x.qr, fun v hv h => ?_, x.lr, fun v hv k hk hk2 => ?_, fun v hv k hk hk2 => ?_, fun i j v u hij hv hu k hk hk2 => ?_⟩, hc.mono fun k _ e => e.elim (fun e => .inr (.inr (.inl e))) (fun e => .inr (.inr (.inr ⟨v0, m0, e⟩))), fun k hk => ?_⟩
  · rcases e with e | e
    · exact x.qr e
    · exact x.qv v0 m0 e
  · rcases e with e | e
    · exact x.lr k hk e
    · exact x.ls v0 m0 k hk e
  · rcases key k v hv with ⟨rfl, rfl⟩ | ⟨h1, h2⟩
    · rw [List.getElem?_set, if_pos rfl, if_pos (by rw [← x.len]; exact hnl)] at hR
      cases hR
      exact hr1
    · rw [List.getElem?_set, if_neg (fun e => h1 e.symm)] at hR
      refine (x.rr k v R h2 hR).chgM hc fun j hj e => ?_
      rcases e with e | e
      · exact x.rs v (List.mem_of_getElem? h2) j e hj
      · exact x.ss k n v v0 h1 h2 hv0 j hj e
  · rcases mem v hv with h1 | rfl
    · exact x.qv v h1 h
    · rcases hn1 q h with h1 | h1
      · exact x.qv v0 m0 h1
      · omega
  · rcases mem v hv with h1 | rfl
    · exact x.ls v h1 k hk hk2
    · rcases hn1 k hk2 with h1 | h1
      · exact x.ls v0 m0 k hk h1
      · have := lo k hk; omega
  · rcases mem v hv with h1 | rfl
    · exact x.rs v h1 k hk hk2
    · rcases hn1 k hk2 with h1 | h1
      · exact x.rs v0 m0 k hk h1
      · have := ro k hk; omega
  · rcases key i v hv with ⟨h1, h2⟩ | ⟨h1, h2⟩
    · subst h2
      rcases key j u hu with ⟨h3, h4⟩ | ⟨h3, h4⟩
      · omega
      · rcases hn1 k hk with h5 | h5
        · exact x.ss n j v0 u (fun e => h3 e.symm) hv0 h4 k h5 hk2
        · have := so u (List.mem_of_getElem? h4) k hk2; omega
    · rcases key j u hu with ⟨h3, h4⟩ | ⟨h3, h4⟩
      · subst h4
        rcases hn1 k hk2 with h5 | h5
        · exact x.ss i n v v0 h1 h2 hv0 k hk h5
        · have := so v (List.mem_of_getElem? h2) k hk; omega
      · exact x.ss i j v u hij h2 h4 k hk hk2
  · rcases hk with h1 | h1 | h1 | ⟨v, hv, h1⟩
    · exact .inl (.inl h1)
    · exact .inl (.inr (.inl h1))
    · exact .inl (.inr (.inr (.inl h1)))
    · rcases mem v hv with h2 | rfl
      · exact .inl (.inr (.inr (.inr ⟨v, h2, h1⟩)))
      · rcases hn1 k h1 with h3 | h3
        · exact .inl (.inr (.inr (.inr ⟨v0, m0, h3⟩)))
        · exact .inr h3
end
end Go.Proofs.YtalmjdlcogdpmaaGreatDoor
