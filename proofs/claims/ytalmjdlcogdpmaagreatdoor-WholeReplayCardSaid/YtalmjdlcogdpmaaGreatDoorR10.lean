/- Contracts and plain laws for the statement of this claim; no condition. Here: package ladder: Push. slices.rotateCmpFunc on messages. slices.symMergeCmpFunc on messages: one element on one side. slices.symMergeCmpFunc on messages: one element on the other side. slices.symMergeCmpFunc on messages. slices.stableCmpFunc and SortStableFunc on messages. event.Sorted. package ladder: fill, First. -/
import Derived.Test.YtalmjdlcogdpmaaGreatDoorR9
import Derived.Test.YtalmjdlcogdpmaaGreatDoorR7
import Derived.Deep.CutRange
import Derived.WalkSpells
set_option linter.unusedVariables false
set_option linter.unusedSimpArgs false

namespace Go.Proofs.YtalmjdlcogdpmaaGreatDoor
open Go.RowKit
attribute [local go_sem] upUpon_value upUpon_enter upUpon_skip upUpon_row ucUpon_value ucUpon_skip ucUpon_enter ucUpon_row

set_option maxRecDepth 100000 in
set_option maxHeartbeats 2000000 in
theorem ladspill_no (q : Nat) (lv rv : Value) (L : List Msg) (w : World) (hb : Blk w q [lv, .int .i64 32, rv]) (hr : RowM w lv L) (hn : L.length ≤ 64) :
    Calls Tryz.prog 160 #[.pointer (some ⟨q, 0, none⟩)] w fun e w' => e = .returned (.tuple #[]) ∧ Up w w' := by
  obtain ⟨p, c, hv⟩ := OwnR.form hr
  have kq := hb.lift
  rw [hv] at kq
  obtain ⟨N, hN⟩ : ∃ N, L.length = N := ⟨_, rfl⟩
  rw [hN] at kq hn
  clear hb hr hv hN
  have hd : decide ((N : Int) ≤ 64) = true := decide_eq_true (by omega)
  go_enter Tryz.func160, Tryz.ntmps160
  go_upto_region 0 with (fail)
  refine region_upL0 [0, 1, 2, 3, 4, 5, 6, 7, 8, 9, 10] [] 11 [] (by kernel_rfl) (by kernel_rfl) ?_
  simp only [getOps, List.getElem?_cons_zero, List.getElem?_cons_succ]
  repeat (apply wpUp_step rfl rfl; (focus (intro W hU; go_simp; exact ⟨rfl, Up.refl _⟩)); go_simp)
  refine wpUp_nil fun W3 hW3 => ?_
  refine wpNew_nil fun W4 hW4 => ?_
  have HU := Lib.hid ((up_drew.trans hW3).trans hW4)
  clear kq
  go_wp2
  refine bodyPost_ret (results_none rfl _ _ _) rfl ?_
  exact ⟨rfl, HU.out⟩

/-- What Push leaves. -/
structure LadPush (w w' : World) (q : Nat) (lv rv : Value) (vs : List Value) (L : List Msg) (Rs : List (List Msg)) (m : Msg) (lv' rv' : Value) (vs' : List Value) (L' : List Msg) (Rs' : List (List Msg)) : Prop where
  is : LadIs w' q lv' rv' vs' L' Rs'
  o : LadO L' Rs'
  perm : (ladAll L' Rs').Perm (ladAll L Rs ++ [m])
  chg : Chg (ladFoot q lv rv vs) w w'
  foot : footNew w (ladFoot q lv rv vs) (ladFoot q lv' rv' vs')

theorem srcBlkV {W : World} {b : Nat} {cs : List Value} (h : Blk W b cs) : SrcR W (slc b 1 1) 1 cs :=
  .inr ⟨_, 1, rfl, fun j u hj => by
    rw [show (⟨b, 0, none⟩ : Addr).add j = ⟨b, j, none⟩ by unfold Addr.add; split <;> simp_all]
    exact h.at hj⟩
theorem new_row (W : World) (m : Msg) : RowM (W.alloc (.cells m.list.toArray 43)) (slc W.heap.size 1 1) [m] :=
  ⟨rfl, .inr ⟨W.heap.size, 1, m.list.toArray, rfl, heap_alloc_new W _, Nat.le_refl _, by decide, Nat.le_refl _, rfl⟩⟩
theorem infoRung : (Tryz.prog.info? 235).map (fun i => (i.zero, i.size, i.bytes)) = some (some (.slice none 0 0), 1, 24) := by kernel_rfl

set_option maxRecDepth 100000 in
set_option maxHeartbeats 4000000 in
theorem ladPush_any (q : Nat) (lv rv : Value) (vs : List Value) (L : List Msg) (Rs : List (List Msg)) (m : Msg) (w : World) (x : LadIs w q lv rv vs L Rs) (o : LadO L Rs) (hn : ladN L Rs ≤ 60) (hr : Rs.length ≤ 60)
    (hno : ∀ y ∈ ladAll L Rs, ¬ (y.f = m.f ∧ y.u = m.u)) :
    Calls Tryz.prog 152 #[.pointer (some ⟨q, 0, none⟩), m.val] w fun e w' => e = .returned (.int .i64 0) ∧ ∃ lv' rv' vs' L' Rs', LadPush w w' q lv rv vs L Rs m lv' rv' vs' L' Rs' := by
  obtain ⟨pr, cr, hrv⟩ := OwnR.form x.g
  obtain ⟨K, hK⟩ : ∃ K, vs.length = K := ⟨_, rfl⟩
  have hK2 : K ≤ 60 := by rw [← hK, x.len]; exact hr
  have hqw : q < w.heap.size := x.lt q (.inl rfl)
  have hLl : L.length ≤ 60 := by unfold ladN at hn; omega
  have hno1 : ∀ y ∈ L, ¬ (y.f = m.f ∧ y.u = m.u) := fun y hy => hno y (List.mem_append_left _ hy)
  have hno2 : ∀ R ∈ Rs, ∀ y ∈ R, ¬ (y.f = m.f ∧ y.u = m.u) := fun R hR y hy => hno y (List.mem_append_right _ (List.mem_flatten.2 ⟨R, hR, hy⟩))
  rw [hK] at hrv
  have H := Lib.hid (And.intro x (And.intro o (And.intro hn (And.intro hrv (And.intro hK (And.intro hno1 hno2))))))
  have hKR : Hid (K = Rs.length) := Lib.hid (by rw [← hK]; exact x.len)
  clear x o hn hr hno hrv hK hno1 hno2
  simp only [Msg.val]
  go_enter Tryz.func152, Tryz.ntmps152
  go_upto_region 1 with (fail)
  refine wp_alloc1 (A := m.list) fun W1 hU1 hs1 bM => ?_
  have X1 := Lib.hid (And.intro (H.out.1.up hU1) (And.intro hU1 bM))
  have rM := bM.get
  clear hU1 hs1 bM
  go_wp2_with fail
  refine (ladnone_any q W1 (X1.out.1.b.at (i := 1) rfl)).mono ?_
  rintro e w2 ⟨rfl, rfl⟩
  go_wp2_with fail
  refine (ladfind_no q lv rv vs L Rs m.f m.u w2 X1.out.1 (by have := H.out.2.2.1; omega) (by have := hKR.out; omega) H.out.2.2.2.2.2.1 H.out.2.2.2.2.2.2).mono ?_
  rintro e w3 ⟨hU3, rfl⟩
  have X3 := Lib.hid (And.intro (X1.out.1.up hU3) (And.intro (X1.out.2.1.trans hU3) (X1.out.2.2.up hU3)))
  clear hU3 X1 rM
  go_wp2_with fail
  refine (ladlen_any q lv rv vs L Rs w3 X3.out.1 (by have := H.out.2.2.1; omega) (by have := hKR.out; omega)).mono ?_
  rintro e w4 ⟨rfl, rfl⟩
  have hd : decide ((ladN L Rs : Int) ≥ 16384) = false := decide_eq_false (by have := H.out.2.2.1; omega)
  have rq := X3.out.1.b.get
  rw [H.out.2.2.2.1] at rq
  go_wp2_with fail
  clear rq hd
  go_loopw [8] (fun v wr => ∃ k : Nat, k ≤ K ∧ v = .int .i64 k ∧ Hid (Up w3 wr) ∧ Hid (∀ (j : Nat) (R : List Msg), k ≤ j → Rs[j]? = some R → abvB R m = false)) (fun v _ => (intOf v).toNat)
  case atStart => exact ⟨K, Nat.le_refl _, rfl, Lib.hid (Up.refl _), Lib.hid (fun j R h hR => by have := (List.getElem?_eq_some_iff.1 hR).1; have := hKR.out; omega)⟩
  case round =>
    obtain ⟨k, hk, rfl, hU, hall⟩ := hrel
    obtain ⟨wo, rfl⟩ : ∃ wo : World, wo = wr := ⟨_, rfl⟩
    have bq := X3.out.1.b.up hU.out
    have bM := X3.out.2.2.up hU.out
    rw [H.out.2.2.2.1] at bq
    go_upto_region 9 with (fail)
    go_cut [45] from 31 to 47 (fun v wx => ∃ b : Bool, v = .bool b ∧ Hid (Up w3 wx) ∧ Hid (b = true → 0 < k ∧ ∀ R, Rs[k - 1]? = some R → abvB R m = false) ∧ Hid (b = false → NAt Rs m k))
    case first =>
      rcases Nat.eq_zero_or_pos k with h0 | h0
      · subst h0
        have hi : NAt Rs m 0 := ⟨Nat.zero_le _, hall.out, fun h => absurd h (Nat.lt_irrefl _)⟩
        have HI := Lib.hid hi
        clear hi
        refine region_upL0 [0, 1, 2, 3, 4, 5, 6, 7, 8, 9, 10, 11, 12, 13] [] 14 [] (by kernel_rfl) (by kernel_rfl) ?_
        simp only [getOps, List.getElem?_cons_zero, List.getElem?_cons_succ]
        iterate 3 (apply wpUp_step rfl rfl; (focus (intro W hU; go_simp; exact ⟨rfl, Up.refl _⟩)); go_simp)
        iterate 11 (apply wpUp_no rfl; go_simp)
        refine wpUp_nil fun W3 hW3 => ?_
        refine wpNew_nil fun W4 hW4 => ?_
        have HU := Lib.hid (hU.out.trans ((up_drew.trans hW3).trans hW4))
        go_wp2
        go_meet
        case rel => exact ⟨false, rfl, HU, Lib.hid (fun h => by cases h), Lib.hid (fun _ => HI.out)⟩
      · obtain ⟨j, hj⟩ : ∃ j, j = k - 1 := ⟨_, rfl⟩
        have hjK : j < K := by omega
        obtain ⟨v, hv⟩ : ∃ v, vs[j]? = some v := ⟨vs[j]'(by rw [H.out.2.2.2.2.1]; exact hjK), List.getElem?_eq_getElem _⟩
        obtain ⟨R, hR⟩ : ∃ R, Rs[j]? = some R := ⟨Rs[j]'(by rw [← hKR.out]; exact hjK), List.getElem?_eq_getElem _⟩
        have hxr := X3.out.1.up hU.out
        obtain ⟨g, cap, hg⟩ := OwnR.pos hxr.g (by rw [H.out.2.2.2.2.1]; omega)
        have hpg : pr = some ⟨g, 0, none⟩ := by have := H.out.2.2.2.1; rw [hg] at this; injection this with h1 _ _; exact h1.symm
        have hcell := hxr.g.cell (g := g) (by rw [hg]; rfl) j v hv
        have hrow := hxr.rr j v R hv hR
        obtain ⟨pv, cv, hvf⟩ := OwnR.form hrow
        rw [hvf] at hcell hrow
        subst hpg
        have hRl : R.length ≤ 100 := by
          have h1 := mem_le_sum (Rs.map List.length) R.length (List.mem_map.2 ⟨R, List.mem_of_getElem? hR, rfl⟩)
          have h2 := H.out.2.2.1
          unfold ladN at h2
          omega
        have kq := bq.lift
        have kM := bM.lift
        have kC := liftC hcell
        have w_j : IntKind.i64.wrap ((k : Int) - 1) = (j : Int) := by rw [IntWalk.i64_in _ (by omega)]; omega
        have HE := Lib.hid (And.intro hR (And.intro hj hrow))
        clear hv hR hg hcell hrow hvf hxr hj
        refine region_upL0 [0, 1, 2, 3, 4, 5, 6, 7, 8, 9, 10, 11, 12, 13] [] 14 [] (by kernel_rfl) (by kernel_rfl) ?_
        simp only [getOps, List.getElem?_cons_zero, List.getElem?_cons_succ]
        iterate 3 (apply wpUp_step rfl rfl; (focus (intro W hU; go_simp; exact ⟨rfl, Up.refl _⟩)); go_simp)
        iterate 9 (apply wpUp_yes rfl rfl; (focus (intro W hU; go_simp; exact ⟨rfl, Up.refl _⟩)); go_simp)
        (apply wpUp_yes rfl rfl; (focus (intro W hU; go_simp; exact (above_any _ R m W (HE.out.2.2.upM (up_drew.trans hU)) (by omega)).mono fun _ _ h => ⟨h.2, h.1⟩)); go_simp)
        (apply wpUp_yes rfl rfl; (focus (intro W hU; go_simp; exact ⟨rfl, Up.refl _⟩)); go_simp)
        refine wpUp_nil fun W3 hW3 => ?_
        refine wpNew_nil fun W4 hW4 => ?_
        clear kq kM kC w_j
        have HU := Lib.hid (hU.out.trans ((up_drew.trans hW3).trans hW4))
        have HF : Hid (((!abvB R m) = true → 0 < k ∧ ∀ R, Rs[k - 1]? = some R → abvB R m = false) ∧ ((!abvB R m) = false → NAt Rs m k)) := Lib.hid ⟨fun hb => ⟨h0, fun Q hQ => by
            rw [← HE.out.2.1, HE.out.1] at hQ; cases hQ; simpa using hb⟩, fun hb => ⟨by rw [← hKR.out]; exact hk, hall.out, fun _ Q hQ => by
            rw [← HE.out.2.1, HE.out.1] at hQ; cases hQ; simpa using hb⟩⟩
        obtain ⟨bt, hbt⟩ : ∃ bt, (!abvB R m) = bt := ⟨_, rfl⟩
        rw [hbt] at HF ⊢
        clear hbt
        go_wp2
        go_meet
        case rel => exact ⟨bt, rfl, HU, Lib.hid HF.out.1, Lib.hid HF.out.2⟩
    case rest =>
      obtain ⟨b, rfl, hU2, hb1, hb2⟩ := hcut
      obtain ⟨w5, rfl⟩ : ∃ w5 : World, w5 = wc := ⟨_, rfl⟩
      clear bq bM
      cases b
      · have HI := Lib.hid (hb2.out rfl)
        clear hb1 hb2
        have bq := X3.out.1.b.up hU2.out
        have bM := X3.out.2.2.up hU2.out
        obtain ⟨pl, cl, hlv⟩ := OwnR.form X3.out.1.r
        rw [H.out.2.2.2.1, hlv] at bq
        obtain ⟨N, hN⟩ : ∃ N, L.length = N := ⟨_, rfl⟩
        rw [hN] at bq hLl hlv
        have HL := Lib.hid (And.intro hlv hN)
        clear hlv hN
        go_upto_region 12 with (fail)
        go_cut [64] from 48 to 120 (fun v wx => ∃ b : Bool, v = .bool b ∧ Hid (Up w3 wx) ∧ Hid (b = true → k = K) ∧ Hid (b = false → k = K → bhdB L m = true))
        case first =>
          have kq := bq.lift
          have kM := bM.lift
          by_cases hkK : k < K
          · have hd : ((k : Int) == (K : Int)) = false := by rw [beq_eq_false_iff_ne]; omega
            have hd2 : (k == K) = false := by rw [beq_eq_false_iff_ne]; omega
            refine region_upL0 [0, 1, 2, 3, 4, 5, 6, 7, 8, 9, 10, 11, 12, 13, 14, 15, 16, 17, 18, 19, 20, 21, 22, 23, 24, 25, 26, 27, 28, 29] [] 30 [] (by kernel_rfl) (by kernel_rfl) ?_
            simp only [getOps, List.getElem?_cons_zero, List.getElem?_cons_succ]
            iterate 8 (apply wpUp_step rfl rfl; (focus (intro W hU; go_simp; exact ⟨rfl, Up.refl _⟩)); go_simp)
            iterate 21 (apply wpUp_no rfl; go_simp)
            (apply wpUp_step rfl rfl; (focus (intro W hU; go_simp; exact ⟨rfl, Up.refl _⟩)); go_simp)
            refine wpUp_nil fun W3 hW3 => ?_
            refine wpNew_nil fun W4 hW4 => ?_
            clear kq kM
            have HU := Lib.hid (hU2.out.trans ((up_drew.trans hW3).trans hW4))
            go_wp2
            go_meet
            case rel => exact ⟨false, rfl, HU, Lib.hid (fun h => by cases h), Lib.hid (fun _ h => by omega)⟩
          · have hd : ((k : Int) == (K : Int)) = true := by rw [beq_iff_eq]; omega
            have hd2 : (k == K) = true := by rw [beq_iff_eq]; omega
            by_cases hL32 : N < 32
            · have hd3 : decide ((N : Int) < 32) = true := decide_eq_true (by omega)
              refine region_upL0 [0, 1, 2, 3, 4, 5, 6, 7, 8, 9, 10, 11, 12, 13, 14, 15, 16, 17, 18, 19, 20, 21, 22, 23, 24, 25, 26, 27, 28, 29] [] 30 [] (by kernel_rfl) (by kernel_rfl) ?_
              simp only [getOps, List.getElem?_cons_zero, List.getElem?_cons_succ]
              iterate 8 (apply wpUp_step rfl rfl; (focus (intro W hU; go_simp; exact ⟨rfl, Up.refl _⟩)); go_simp)
              iterate 12 (apply wpUp_yes rfl rfl; (focus (intro W hU; go_simp; exact ⟨rfl, Up.refl _⟩)); go_simp)
              iterate 8 (apply wpUp_no rfl; go_simp)
              (apply wpUp_yes rfl rfl; (focus (intro W hU; go_simp; exact ⟨rfl, Up.refl _⟩)); go_simp)
              (apply wpUp_step rfl rfl; (focus (intro W hU; go_simp; exact ⟨rfl, Up.refl _⟩)); go_simp)
              refine wpUp_nil fun W3 hW3 => ?_
              refine wpNew_nil fun W4 hW4 => ?_
              clear kq kM
              have HU := Lib.hid (hU2.out.trans ((up_drew.trans hW3).trans hW4))
              go_wp2
              go_meet
              case rel => exact ⟨true, rfl, HU, Lib.hid (fun _ => by omega), Lib.hid (fun h => by cases h)⟩
            · have hd3 : decide ((N : Int) < 32) = false := decide_eq_false (by omega)
              have row2 := Lib.hid (X3.out.1.r.upM hU2.out)
              refine region_upL0 [0, 1, 2, 3, 4, 5, 6, 7, 8, 9, 10, 11, 12, 13, 14, 15, 16, 17, 18, 19, 20, 21, 22, 23, 24, 25, 26, 27, 28, 29] [] 30 [] (by kernel_rfl) (by kernel_rfl) ?_
              simp only [getOps, List.getElem?_cons_zero, List.getElem?_cons_succ]
              iterate 8 (apply wpUp_step rfl rfl; (focus (intro W hU; go_simp; exact ⟨rfl, Up.refl _⟩)); go_simp)
              iterate 18 (apply wpUp_yes rfl rfl; (focus (intro W hU; go_simp; exact ⟨rfl, Up.refl _⟩)); go_simp)
              (apply wpUp_yes rfl rfl; (focus (intro W hU; go_simp; exact (behind_any _ L m W (by have := row2.out.upM (up_drew.trans hU); rw [HL.out.1] at this; exact this) (by have := HL.out.2; omega) (fun h => by have := HL.out.2; rw [h] at this; simp at this; omega)).mono fun _ _ h => ⟨h.2, h.1⟩)); go_simp)
              iterate 2 (apply wpUp_yes rfl rfl; (focus (intro W hU; go_simp; exact ⟨rfl, Up.refl _⟩)); go_simp)
              (apply wpUp_step rfl rfl; (focus (intro W hU; go_simp; exact ⟨rfl, Up.refl _⟩)); go_simp)
              refine wpUp_nil fun W3 hW3 => ?_
              refine wpNew_nil fun W4 hW4 => ?_
              clear kq kM
              have HU := Lib.hid (hU2.out.trans ((up_drew.trans hW3).trans hW4))
              have HF : Hid (((!bhdB L m) = true → k = K) ∧ ((!bhdB L m) = false → k = K → bhdB L m = true)) := Lib.hid ⟨fun _ => by omega, fun hb _ => by simpa using hb⟩
              obtain ⟨bt, hbt⟩ : ∃ bt, (!bhdB L m) = bt := ⟨_, rfl⟩
              rw [hbt] at HF ⊢
              clear hbt
              go_wp2
              go_meet
              case rel => exact ⟨bt, rfl, HU, Lib.hid HF.out.1, Lib.hid HF.out.2⟩
        case rest =>
          obtain ⟨b, rfl, hU6, hb1, hb2⟩ := hcut
          obtain ⟨w6, rfl⟩ : ∃ w6 : World, w6 = wc := ⟨_, rfl⟩
          clear bq bM
          have X6 := Lib.hid (And.intro (X3.out.1.up hU6.out) (And.intro (X3.out.2.1.trans hU6.out) (X3.out.2.2.up hU6.out)))
          cases b
          · have bq := X6.out.1.b
            rw [H.out.2.2.2.1, HL.out.1] at bq
            have rq := bq.get
            rcases Nat.lt_or_ge k K with hkK | hkK
            · have hd : ((k : Int) == (K : Int)) = false := by rw [beq_eq_false_iff_ne]; omega
              have hd2 : (k == K) = false := by rw [beq_eq_false_iff_ne]; omega
              go_upto_region 11 with (fail)
              clear rq hd hd2
              obtain ⟨v0, hv0⟩ : ∃ v0, vs[k]? = some v0 := ⟨vs[k]'(by rw [H.out.2.2.2.2.1]; exact hkK), List.getElem?_eq_getElem _⟩
              obtain ⟨R0, hR0⟩ : ∃ R0, Rs[k]? = some R0 := ⟨Rs[k]'(by rw [← hKR.out]; exact hkK), List.getElem?_eq_getElem _⟩
              obtain ⟨g, cap, hg⟩ := OwnR.pos X6.out.1.g (by rw [H.out.2.2.2.2.1]; omega)
              have hpg : pr = some ⟨g, 0, none⟩ := by have := H.out.2.2.2.1; rw [hg] at this; injection this with h1 _ _; exact h1.symm
              have hcell := X6.out.1.g.cell (g := g) (by rw [hg]; rfl) k v0 hv0
              have hrow := X6.out.1.rr k v0 R0 hv0 hR0
              obtain ⟨pv, cv, hvf⟩ := OwnR.form hrow
              rw [hvf] at hcell
              subst hpg
              have hRl : R0.length ≤ 100 := by
                have h1 := mem_le_sum (Rs.map List.length) R0.length (List.mem_map.2 ⟨R0, List.mem_of_getElem? hR0, rfl⟩)
                have h2 := H.out.2.2.1
                unfold ladN at h2
                omega
              have hqs : ¬ (sameBlock rv q ∨ sameBlock v0 q) := fun e => e.elim X6.out.1.qr (X6.out.1.qv v0 (List.mem_of_getElem? hv0))
              have kq := bq.lift
              have kqc : ∀ W, Chg (fun j => sameBlock rv j ∨ sameBlock v0 j) w6.drew W → ∀ i, i < 3 → W.cell? ⟨q, i, none⟩ = some ([Value.slice pl N cl, .int .i64 32, .slice (some ⟨g, 0, none⟩) K cr].getD i undef) := fun W hW => ((bq.up up_drew).chg hW hqs).get
              have kM := X6.out.2.2.lift
              have kC := liftC hcell
              have HE := Lib.hid (And.intro hv0 (And.intro hR0 (And.intro hvf hrow)))
              clear hv0 hR0 hg hcell hrow hvf hqs
              refine region_two (fun j => sameBlock rv j ∨ sameBlock v0 j) [0, 1, 2, 3, 4] [0, 1, 2, 3, 4, 5, 6, 7, 8, 9, 10, 11, 12] [13] 14 [15, 16] (by kernel_rfl) (by kernel_rfl) ?_
              simp only [getOps, List.getElem?_cons_zero, List.getElem?_cons_succ]
              repeat (first | (apply wpUp2_step rfl rfl; (focus (intro W hU; go_simp; exact ⟨rfl, Up.refl _⟩))) | (apply wpUp2_read rfl; (focus (intro W hU; go_simp; rfl))); go_simp)
              refine wpUp2_nil fun W7 hW7 => ?_
              clear kq kqc kM kC
              refine wpNew_step rfl fun W8 hW8 J hJ => ?_
              go_simp
              refine ⟨alloc_up _ _ _, hJ _ _ ?_⟩
              clear hJ J
              refine wpNew_nil fun W9 hW9 W10 hW10 => ?_
              have hU8 := (up_drew.trans hW7).trans hW8
              have hU10 : Up w6 W10 := ((hU8.trans (alloc_up _ _ _)).trans hW9).trans hW10
              have bX := ((Blk.alloc W8 m.list 43).up hW9).up hW10
              have x10 := X6.out.1.up hU10
              have hrow := HE.out.2.2.2.upM hU10
              rw [HE.out.2.2.1] at hrow
              obtain ⟨i0, hi0, hz0, hz1, hz2⟩ := info_parts infoMsg
              have hsrc := srcBlkM bX
              refine wpTailS_append rfl (.tmp 59) (.tmp 61) 235 rfl 43 i0 _ 7 56 Tryz.underlying235 hi0 hz0 hz1 hz2 rfl (by decide) _ R0.length _ rfl hrow (fun j hj => .inr (by rw [HE.out.2.2.1]; exact hj)) _ 1 (msgCells [m]) rfl rfl hsrc (msgs_one _) (by unfold maxLen; omega) (by omega) fun v1 W11 hown hc11 hnew => ?_
              have hA : Apd W10 (.slice pv R0.length cv) R0 [m] v1 W11 := .mk' hown hc11 hnew
              have hk1 : k < K := hkK
              have hgc : RowV W11 (.slice (some ⟨g, 0, none⟩) K cr) vs := by
                have := OwnR.chg x10.g hA.chg (fun j hj e => x10.rs v0 (List.mem_of_getElem? HE.out.1) j hj (by rw [HE.out.2.2.1]; exact e))
                rw [H.out.2.2.2.1] at this
                exact this
              have hFg : W11.frozen? ⟨g, k, none⟩ = false := hgc.frozen (g := g) rfl k
              have hgk := hgc.cell (g := g) rfl k v0 HE.out.1
              have hrw : ∀ j, sameBlock v1 j → sameBlock v0 j ∨ w6.heap.size ≤ j := fun j hj => by
                rcases hA.new j hj with h1 | h1
                · left; rw [HE.out.2.2.1]; exact h1
                · right; exact Nat.le_trans hU10.1.size h1
              have c12 : Chg (· = g) W11 (W11.setCell ⟨g, k, none⟩ v1) := Chg.setCell (S := (· = g)) (p := ⟨g, k, none⟩) (Chg.refl _ _) (Or.inl rfl) _
              have hg12 : RowV (W11.setCell ⟨g, k, none⟩ v1) rv (vs.set k v1) := by
                have := hgc.set (g := g) rfl (j := k) (by rw [H.out.2.2.2.2.1]; exact hkK) v1
                unfold RowV
                rw [List.length_set, H.out.2.2.2.1]
                exact this
              have hgw : g < w6.heap.size := X6.out.1.lt g (.inr (.inr (.inl (by rw [H.out.2.2.2.1]; rfl))))
              have hr12 : RowM (W11.setCell ⟨g, k, none⟩ v1) v1 (R0 ++ [m]) := hA.row.chgM c12 (fun j hj e => by
                subst e
                rcases hrw j hj with h1 | h1
                · exact X6.out.1.rs v0 (List.mem_of_getElem? HE.out.1) j (by rw [H.out.2.2.2.1]; rfl) h1
                · omega)
              have cT : Chg (fun j => sameBlock rv j ∨ sameBlock v0 j) w6 (W11.setCell ⟨g, k, none⟩ v1) := (((Chg.of_up hU10).trans hA.chg (fun _ _ e => e)).mono (T := fun j => sameBlock rv j ∨ sameBlock v0 j) (fun j _ e => .inr (by rw [HE.out.2.2.1]; exact e))).trans c12 (fun j _ e => .inl (by rw [H.out.2.2.2.1]; exact same_slc.2 e))
              have hI := X6.out.1.into HE.out.1 cT hg12 hr12 hrw
              obtain ⟨p1, c1, hv1⟩ := OwnR.form hA.row
              rw [hv1] at hI ⊢
              have hcw : Chg (fun j => sameBlock rv j ∨ sameBlock v0 j) W11 (W11.setCell ⟨g, k, none⟩ (.slice p1 (R0.length + 1) c1)) := by
                have h0 := c12.mono (T := fun j => sameBlock rv j ∨ sameBlock v0 j) (fun j _ e => .inl (by rw [H.out.2.2.2.1]; exact same_slc.2 e))
                rw [hv1, List.length_append] at h0
                exact h0
              rw [List.length_append, List.length_singleton] at hI
              have H12 := Lib.hid (And.intro hI hcw)
              clear hI hcw cT hr12 hgw hg12 c12 hrw hA hown hc11 hnew hsrc x10 hrow bX hi0 hz0 hz1 hz2 hv1 hgc
              refine wpTailS_step rfl fun J hJ => ?_
              go_simp
              refine ⟨Chg.refl _ _, hJ _ _ ?_⟩
              clear hJ J
              refine wpTailS_step rfl fun J hJ => ?_
              go_simp
              refine ⟨H12.out.2, hJ _ _ ?_⟩
              clear hJ J
              refine wpTailS_nil ?_
              generalize (W11.setCell ⟨g, k, none⟩ (.slice p1 (R0.length + 1) c1)) = W12 at *
              go_wp2
              go_ret
              have hU06 := X6.out.2.1
              exact ⟨rfl, lv, rv, _, L, _, ⟨H12.out.1.1, H.out.2.1.into HI.out (by rw [← hKR.out]; exact hkK) HE.out.2.1, ladAll_into HE.out.2.1, (Chg.of_up hU06).trans H12.out.1.2.1 (fun _ _ e => e), fun j hj => (H12.out.1.2.2 j hj).imp id (fun h => Nat.le_trans hU06.1.size h)⟩⟩
            · have hkK2 : k = K := by omega
              have HNA : Hid (NAt Rs m Rs.length) := Lib.hid (by rw [← hKR.out, ← hkK2]; exact HI.out)
              have HBH := Lib.hid (hb2.out rfl hkK2)
              have hd : ((k : Int) == (K : Int)) = true := by rw [beq_iff_eq]; omega
              have hd2 : (k == K) = true := by rw [beq_iff_eq]; omega
              clear hkK2
              go_upto_region 16 with (fail)
              clear rq hd hd2
              have kq := bq.lift
              have kM := X6.out.2.2.lift
              refine region_upL [0] [0, 1, 2, 3, 4, 5] [6, 7] 8 [9, 10, 11] (by kernel_rfl) (by kernel_rfl) (fun d _ _ _ _ h => by cases d <;> exact h) ?_
              simp only [getOps, List.getElem?_cons_zero, List.getElem?_cons_succ]
              repeat (first | (apply wpUp_pure rfl; (focus (intro W; go_simp; rfl))) | (apply wpUp_step rfl rfl; (focus (intro W hU; go_simp; exact ⟨rfl, Up.refl _⟩))); go_simp)
              refine wpUp_nil fun W7 hW7 => ?_
              clear kq kM
              refine wpNew_step rfl fun W8 hW8 J hJ => ?_
              go_simp
              refine ⟨alloc_up _ _ _, hJ _ _ ?_⟩
              clear hJ J
              refine wpNew_step rfl fun W9 hW9 J hJ => ?_
              go_simp
              refine ⟨alloc_up _ _ _, hJ _ _ ?_⟩
              clear hJ J
              refine wpNew_nil fun W10 hW10 => ?_
              have hU8 := (up_drew.trans hW7).trans hW8
              have hU9 : Up w6 W9 := (hU8.trans (alloc_up _ _ _)).trans hW9
              have hU10 : Up w6 W10 := (hU9.trans (alloc_up _ _ _)).trans hW10
              have hrow1 := ((new_row W8 m).upM hW9).upM ((alloc_up W9 #[slc W8.heap.size 1 1] 235).trans hW10)
              have bX := (Blk.alloc W9 [slc W8.heap.size 1 1] 235).up hW10
              have x10 := X6.out.1.up hU10
              have hg10 := x10.g
              unfold RowV at hg10
              rw [H.out.2.2.2.1, H.out.2.2.2.2.1] at hg10
              have h8 := hU8.1.size
              have h9 : W8.heap.size + 1 ≤ W9.heap.size := by have := hW9.1.size; rw [World.size_alloc] at this; exact this
              obtain ⟨B1, hB1⟩ : ∃ B1, W8.heap.size = B1 := ⟨_, rfl⟩
              obtain ⟨B2, hB2⟩ : ∃ B2, W9.heap.size = B2 := ⟨_, rfl⟩
              rw [hB1] at hrow1 bX h8 h9
              rw [hB2] at bX h9
              rw [hB1, hB2]
              obtain ⟨i0, hi0, hz0, hz1, hz2⟩ := info_parts infoRung
              have hB2lt : B2 < W10.heap.size := bX.lt (by simp)
              refine wpList_append_chg rfl (.tmp 114) (.tmp 117) 119 rfl 235 i0 _ 1 24 Tryz.underlying119 hi0 hz0 hz1 hz2 rfl (by decide) (.slice pr K cr) K vs rfl hg10 (slc B2 1 1) 1 [slc B1 1 1] rfl rfl (srcBlkV bX) (by simp [Value.oneCell']) (by unfold maxLen; omega) (by omega) fun rv' W11 hown hc11 hnew => ?_
              have hnw : ∀ j, sameBlock rv' j → sameBlock rv j ∨ W10.heap.size ≤ j := fun j hj => (hnew j hj).imp (fun h => by rw [H.out.2.2.2.1]; exact h) id
              have hcr : Chg (sameBlock rv) W10 W11 := by rw [H.out.2.2.2.1]; exact hc11
              have b11 : Blk W11 q [lv, .int .i64 32, rv] := x10.b.chg hcr X6.out.1.qr
              have hqr : ¬ sameBlock rv' q := fun h => by
                rcases hnw q h with h1 | h1
                · exact X6.out.1.qr h1
                · have := hU10.1.size; have := X6.out.2.1.1.size; omega
              have b12 := b11.set 2 rv' (by simp)
              have c12 : Chg (· = q) W11 (W11.setCell ⟨q, 2, none⟩ rv') := Chg.setCell (S := (· = q)) (p := ⟨q, 2, none⟩) (Chg.refl _ _) (Or.inl rfl) _
              have hF11 : W11.frozen? ⟨q, 2, none⟩ = false := (hcr.marks _).trans (x10.fz 2)
              have cT : Chg (fun j => j = q ∨ sameBlock rv j) w6 (W11.setCell ⟨q, 2, none⟩ rv') := (((Chg.of_up hU10).trans hcr (fun _ _ e => e)).mono (T := fun j => j = q ∨ sameBlock rv j) (fun _ _ e => .inr e)).trans c12 (fun _ _ e => .inl e)
              have hB1r : ¬ sameBlock rv B1 := fun h => by have := X6.out.1.lt B1 (.inr (.inr (.inl h))); omega
              have hr12 : RowM (W11.setCell ⟨q, 2, none⟩ rv') (slc B1 1 1) [m] := (hrow1.chgM hcr (fun j hj e => hB1r (by rw [← same_slc.1 hj]; exact e))).chgM c12 (fun j hj e => by have h1 := same_slc.1 hj; have := X6.out.2.1.1.size; omega)
              have hg12 : RowV (W11.setCell ⟨q, 2, none⟩ rv') rv' (vs ++ [slc B1 1 1]) := by
                have := OwnR.chg hown c12 (fun j hj e => hqr (by rw [← e]; exact hj))
                unfold RowV
                rw [List.length_append, List.length_singleton, H.out.2.2.2.2.1]
                exact this
              have hI := X6.out.1.rung cT b12 hg12 hr12 (fun j hj => (hnw j hj).imp id (fun h => Nat.le_trans hU10.1.size h)) (fun j hj => by have := same_slc.1 hj; omega) (fun j hj h => by
                have h1 := same_slc.1 hj
                rcases hnw j h with h2 | h2
                · exact hB1r (by rw [← h1]; exact h2)
                · omega)
              obtain ⟨pr', cr', hrv'⟩ := OwnR.form hown
              rw [hrv'] at hI ⊢
              have H12 := Lib.hid hI
              have rq11 := b11.get
              rw [H.out.2.2.2.1, HL.out.1] at rq11
              clear hI cT hr12 hg12 hnw hown hc11 hnew x10 hrow1 bX hi0 hz0 hz1 hz2 hrv' b11 b12 hqr hg10 hB1 hB2 h8 h9 hB1r bq
              go_wp2
              go_ret
              have hU06 := X6.out.2.1
              exact ⟨rfl, lv, _, _, L, _, ⟨H12.out.1, H.out.2.1.rung HNA.out HBH.out, ladAll_rung L Rs m, (Chg.of_up hU06).trans H12.out.2.1 (fun _ _ e => e), fun j hj => (H12.out.2.2 j hj).imp id (fun h => Nat.le_trans hU06.1.size h)⟩⟩
          · have hkK := hb1.out rfl
            have HNA : Hid (NAt Rs m Rs.length) := Lib.hid (by rw [← hKR.out, ← hkK]; exact HI.out)
            clear hkK
            go_upto_region 13 with (fail)
            have kM := X6.out.2.2.lift
            refine region_upL0 [0, 1, 2, 3] [] 4 [] (by kernel_rfl) (by kernel_rfl) ?_
            simp only [getOps, List.getElem?_cons_zero, List.getElem?_cons_succ]
            repeat (apply wpUp_step rfl rfl; (focus (intro W hU; go_simp; exact ⟨rfl, Up.refl _⟩)); go_simp)
            refine wpUp_nil fun W7 hW7 => ?_
            refine wpNew_nil fun W8 hW8 => ?_
            clear kM
            have X8 := Lib.hid (And.intro (X6.out.1.up ((up_drew.trans hW7).trans hW8)) (X6.out.2.1.trans ((up_drew.trans hW7).trans hW8)))
            have HIns := Lib.hid (ladinsert_any q lv (.int .i64 32) rv L m W8 X8.out.1.b X8.out.1.r X8.out.1.fz X8.out.1.ql (by have := HL.out.2; omega))
            go_wp2_with fail
            refine HIns.out.mono ?_
            rintro e w9 ⟨rfl, hc9, lv9, k9, hi9, hb9, hr9, hn9⟩
            have hB := X8.out.1.bottom hc9 hb9 hr9 hn9
            have H9 := Lib.hid (And.intro hB hi9)
            clear hB hc9 hi9 hb9 hr9 hn9 HIns
            go_wp2_with fail
            refine (ladspill_no q lv9 rv _ w9 H9.out.1.1.b H9.out.1.1.r (by have h1 := HL.out.2; have h2 := H9.out.2.le; simp; omega)).mono ?_
            rintro e w10 ⟨rfl, hU10⟩
            have HU10 := Lib.hid hU10
            clear hU10
            go_wp2
            go_ret
            have hU08 := X8.out.2
            exact ⟨rfl, lv9, rv, vs, _, Rs, ⟨H9.out.1.1.up HU10.out, H.out.2.1.bottom HNA.out H9.out.2, ladAll_bottom L Rs m k9, ((Chg.of_up hU08).trans H9.out.1.2.1 (fun _ _ e => e)).up HU10.out, fun j hj => (H9.out.1.2.2 j hj).imp id (fun h => Nat.le_trans hU08.1.size h)⟩⟩
      · have h1 := (hb1.out rfl).1
        have HF := Lib.hid (hb1.out rfl).2
        clear hb1 hb2
        go_wp2
        exact ⟨⟨k - 1, by omega, by rw [show ((k - 1 : Nat) : Int) = (k : Int) - 1 by omega], hU2, Lib.hid (fun j R hj hR => by
          rcases Nat.lt_or_ge j k with h2 | h2
          · have : j = k - 1 := by omega
            subst this
            exact HF.out R hR
          · exact hall.out j R h2 hR)⟩, by simp [intOf]; omega⟩
end Go.Proofs.YtalmjdlcogdpmaaGreatDoor

namespace Go.Proofs.YtalmjdlcogdpmaaGreatDoor
open Go.RowKit
attribute [local go_sem] upUpon_value upUpon_enter upUpon_skip upUpon_row ucUpon_value ucUpon_skip ucUpon_enter ucUpon_row

set_option maxRecDepth 100000 in
set_option maxHeartbeats 2000000 in
theorem rotate_any (g cap a m b : Nat) (L : List Msg) (cv : Value) (w : World) (h : RowM w (slc g L.length cap) L) (ham : a < m) (hmb : m < b) (hb : b ≤ L.length) (hn : L.length ≤ 1000000) :
    Calls Tryz.prog 88 #[slc g L.length cap, .int .i64 a, .int .i64 m, .int .i64 b, cv] w fun e w' => e = .returned (.tuple #[]) ∧ Chg (· = g) w w' ∧ ∃ L', RowM w' (slc g L.length cap) L' ∧ Mov a b L L' ∧ ∀ k, L'[k]? = rotG L a m b k := by
  have H := Lib.hid h
  obtain ⟨N, hN⟩ : ∃ N, L.length = N := ⟨_, rfl⟩
  have HN := Lib.hid hN
  rw [hN] at hb hn ⊢
  clear h hN
  go_enter Tryz.func88, Tryz.ntmps88
  go_wp2_with fail
  go_loopw [10, 11] (fun v x wr => ∃ i j : Nat, ∃ M : List Msg, 1 ≤ i ∧ 1 ≤ j ∧ i ≤ m - a ∧ j ≤ b - m ∧ v = .int .i64 i ∧ x = .int .i64 j ∧ Hid (Chg (· = g) w wr) ∧ Hid (RowM wr (slc g N cap) M) ∧ Hid (Mov a b L M) ∧ Hid (∀ k, rotG M (m - i) m (m + j) k = rotG L a m b k)) (fun v x _ => (intOf v).toNat + (intOf x).toNat)
  case atStart => exact ⟨m - a, b - m, L, by omega, by omega, Nat.le_refl _, Nat.le_refl _, by go_num, by go_num, Lib.hid (Chg.refl _ _), Lib.hid (by have := H.out; rw [HN.out] at this; exact this), Lib.hid (Mov.refl _ _ _), Lib.hid (fun k => by rw [show m - (m - a) = a by omega, show m + (b - m) = b by omega])⟩
  case round =>
    obtain ⟨i, j, M, hi1, hj1, hi2, hj2, rfl, rfl, hc, hr, hm, hs⟩ := hrel
    have HL : Hid (M.length = N) := Lib.hid (by rw [hm.out.len]; exact HN.out)
    have hr' := hr.out
    have hl := HL.out
    rw [← hl] at hr'
    have w_1 : IntKind.i64.wrap ((m : Int) - i) = ((m - i : Nat) : Int) := by rw [IntWalk.i64_in _ (by omega)]; omega
    rcases Nat.lt_trichotomy i j with hij | hij | hij
    · have hd : ((i : Int) != (j : Int)) = true := by rw [bne_iff_ne]; omega
      have hd2 : decide (j < i) = false := decide_eq_false (by omega)
      have w_2 : IntKind.i64.wrap ((m : Int) + j - i) = ((m + j - i : Nat) : Int) := by rw [IntWalk.i64_in _ (by omega)]; omega
      have hsw := swapRange_any g cap (m - i) (m + j - i) i M cv wr hr' (by omega) (by omega) (by omega)
      rw [hl] at hsw
      have HSW := Lib.hid hsw
      clear hsw hr' hl
      go_wp2_with fail
      refine HSW.out.mono ?_
      rintro e w2 ⟨rfl, hc2, hr2⟩
      have H2 := Lib.hid (And.intro hc2 hr2)
      clear hc2 hr2
      go_wp2_with fail
      refine ⟨⟨i, j - i, swpN M (m - i) (m + j - i) i, hi1, by omega, hi2, by omega, rfl, by rw [show ((j - i : Nat) : Int) = (j : Int) - i by omega], Lib.hid (hc.out.trans H2.out.1 (fun _ _ e => e)), Lib.hid H2.out.2, Lib.hid ?_, Lib.hid (fun k => ?_)⟩, by simp [intOf]; omega⟩
      · exact hm.out.trans (swpN_mov (by omega) (by omega) (by omega) (by omega) (by have := HL.out; omega))
      · rw [← hs.out k, ← rotG_right hij (by omega) (by have := HL.out; omega) k, show m + (j - i) = m + j - i by omega]
    · subst hij
      have hd : ((i : Int) != (i : Int)) = false := by simp
      have hsw := swapRange_any g cap (m - i) m i M cv wr hr' (by omega) (by omega) (by omega)
      rw [hl] at hsw
      have HSW := Lib.hid hsw
      clear hsw hr' hl
      go_wp2_with fail
      refine HSW.out.mono ?_
      rintro e w2 ⟨rfl, hc2, hr2⟩
      have H2 := Lib.hid (And.intro hc2 hr2)
      clear hc2 hr2
      go_wp2_with fail
      go_end0
      exact ⟨rfl, hc.out.trans H2.out.1 (fun _ _ e => e), _, H2.out.2, hm.out.trans (swpN_mov (by omega) (by omega) (by omega) (by omega) (by have := HL.out; omega)), fun k => by
        rw [← hs.out k]; exact rotG_last (by omega) (by have := HL.out; omega) k⟩
    · have hd : ((i : Int) != (j : Int)) = true := by rw [bne_iff_ne]; omega
      have hd2 : decide (j < i) = true := decide_eq_true (by omega)
      have hsw := swapRange_any g cap (m - i) m j M cv wr hr' (by omega) (by omega) (by omega)
      rw [hl] at hsw
      have HSW := Lib.hid hsw
      clear hsw hr' hl
      go_wp2_with fail
      refine HSW.out.mono ?_
      rintro e w2 ⟨rfl, hc2, hr2⟩
      have H2 := Lib.hid (And.intro hc2 hr2)
      clear hc2 hr2
      go_wp2_with fail
      refine ⟨⟨i - j, j, swpN M (m - i) m j, by omega, hj1, by omega, hj2, by rw [show ((i - j : Nat) : Int) = (i : Int) - j by omega], rfl, Lib.hid (hc.out.trans H2.out.1 (fun _ _ e => e)), Lib.hid H2.out.2, Lib.hid ?_, Lib.hid (fun k => ?_)⟩, by simp [intOf]; omega⟩
      · exact hm.out.trans (swpN_mov (by omega) (by omega) (by omega) (by omega) (by have := HL.out; omega))
      · rw [← hs.out k, ← rotG_left hij (by omega) (by have := HL.out; omega) k, show m - (i - j) = m - i + j by omega]
end Go.Proofs.YtalmjdlcogdpmaaGreatDoor

namespace Go.Proofs.YtalmjdlcogdpmaaGreatDoor
open Go.RowKit
attribute [local go_sem] upUpon_value upUpon_enter upUpon_skip upUpon_row ucUpon_value ucUpon_skip ucUpon_enter ucUpon_row

set_option maxRecDepth 100000 in
set_option maxHeartbeats 4000000 in
theorem sym_one (g cap a b : Nat) (L : List Msg) (w : World) (h : RowM w (slc g L.length cap) L) (hab : a + 1 < b) (hb : b ≤ L.length) (hn : L.length ≤ 1000000) (hs : Srt L (a + 1) b) :
    Calls Tryz.prog 68 #[slc g L.length cap, .int .i64 a, .int .i64 (a + 1 : Nat), .int .i64 b, ordF] w fun e w' => e = .returned (.tuple #[]) ∧ Chg (· = g) w w' ∧ ∃ L', RowM w' (slc g L.length cap) L' ∧ Mov a b L L' ∧ Srt L' a b := by
  have H := Lib.hid h
  obtain ⟨N, hN⟩ : ∃ N, L.length = N := ⟨_, rfl⟩
  have HN := Lib.hid hN
  rw [hN] at hb hn ⊢
  obtain ⟨x, hx⟩ : ∃ x, L[a]? = some x := ⟨L[a]'(by omega), List.getElem?_eq_getElem _⟩
  have HS := Lib.hid (And.intro hs hx)
  obtain ⟨m, hm⟩ : ∃ m, m = a + 1 := ⟨_, rfl⟩
  rw [← hm]
  have hm1 : a + 1 ≤ m := by omega
  have hm2 : m ≤ a + 1 := by omega
  have hmb : m < b := by omega
  clear h hN hs hx
  have w_1 : IntKind.i64.wrap ((m : Int) - a) = 1 := by rw [IntWalk.i64_in _ (by omega)]; omega
  clear hm
  go_enter Tryz.func68, Tryz.ntmps68
  go_wp2_with fail
  clear w_1
  go_loopw [10, 11] (fun v y wr => ∃ i j : Nat, m ≤ i ∧ i ≤ j ∧ j ≤ b ∧ v = .int .i64 i ∧ y = .int .i64 j ∧ Hid (Chg (· = g) w wr) ∧ Hid (RowM wr (slc g N cap) L) ∧ Hid (∀ p y, a + 1 ≤ p → p < i → L[p]? = some y → befB y x = true) ∧ Hid (∀ p y, j ≤ p → p < b → L[p]? = some y → befB y x = false)) (fun v x _ => (intOf x).toNat - (intOf v).toNat)
  case atStart => exact ⟨m, b, Nat.le_refl _, by omega, Nat.le_refl _, rfl, rfl, Lib.hid (Chg.refl _ _), Lib.hid (by have := H.out; rw [HN.out] at this; exact this), Lib.hid (fun p y h1 h2 => by omega), Lib.hid (fun p y h1 h2 => by omega)⟩
  case round =>
    obtain ⟨i, j, hi1, hij, hj1, rfl, rfl, hc, hr, h1, h2⟩ := hrel
    by_cases hlt : i < j
    · obtain ⟨k, hk⟩ : ∃ k, k = (i + j) / 2 := ⟨_, rfl⟩
      have w_h : ((i : Int) + j) / 2 = (k : Int) := by omega
      have hk1 : i ≤ k := by omega
      have hk2 : k < j := by omega
      have hkN : k < N := by omega
      have haN : a < N := by omega
      clear hk
      go_upto_region 5 with (fail)
      obtain ⟨y, hy⟩ : ∃ y, L[k]? = some y := ⟨L[k]'(by rw [HN.out]; omega), List.getElem?_eq_getElem _⟩
      have kx := (hr.out.blkM HS.out.2).lift
      have kx0 := liftC (hr.out.blkM HS.out.2).zero
      have ky := (hr.out.blkM hy).lift
      have ky0 := liftC (hr.out.blkM hy).zero
      have HY := Lib.hid hy
      clear hy w_h
      refine region_upL0 [0, 1, 2, 3, 4, 5, 6, 7, 8, 9] [] 10 [] (by kernel_rfl) (by kernel_rfl) ?_
      simp only [getOps, List.getElem?_cons_zero, List.getElem?_cons_succ]
      repeat (first | (apply wpUp_step rfl rfl; (focus (intro W hU; go_simp; first | exact ⟨rfl, Up.refl _⟩ | exact order_any y x W))); go_simp)
      refine wpUp_nil fun W3 hW3 => ?_
      refine wpNew_nil fun W4 hW4 => ?_
      clear kx kx0 ky ky0
      have hr4 := Lib.hid (hr.out.upM ((up_drew.trans hW3).trans hW4))
      have hc4 := Lib.hid (hc.out.up ((up_drew.trans hW3).trans hW4))
      have hor := ordv_neg y x
      rcases hbf : befB y x with _ | _
      · rw [hbf] at hor
        have HB := Lib.hid hbf
        clear hbf
        go_wp2
        exact ⟨⟨i, k, hi1, hk1, by omega, rfl, rfl, hc4, hr4, h1, Lib.hid (fun p z q1 q2 hz => by
          cases hzx : befB z x
          · rfl
          · exfalso
            have := nbef_bef (HS.out.1.le (show a + 1 ≤ k by omega) q1 q2 HY.out hz) hzx
            rw [HB.out] at this
            cases this)⟩, by simp [intOf]; omega⟩
      · rw [hbf] at hor
        have HB := Lib.hid hbf
        clear hbf
        go_wp2
        exact ⟨⟨k + 1, j, by omega, by omega, hj1, by go_num, rfl, hc4, hr4, Lib.hid (fun p z q1 q2 hz => nbef_bef (HS.out.1.le q1 (show p ≤ k by omega) (by omega) hz HY.out) HB.out), h2⟩, by simp [intOf]; omega⟩
    · obtain rfl : i = j := by omega
      go_wp2_with fail
      obtain ⟨wo, rfl⟩ : ∃ wo : World, wo = wr := ⟨_, rfl⟩
      go_loopw [13] (fun v wr => ∃ k : Nat, ∃ M : List Msg, a ≤ k ∧ k ≤ i - 1 ∧ v = .int .i64 k ∧ Hid (Chg (· = g) w wr) ∧ Hid (RowM wr (slc g N cap) M) ∧ Hid (Mov a b L M) ∧ Hid (ShUp L M a k)) (fun v _ => i - (intOf v).toNat)
      case atStart => exact ⟨a, L, Nat.le_refl _, by omega, rfl, hc, hr, Lib.hid (Mov.refl _ _ _), Lib.hid (ShUp.start _ _)⟩
      case round =>
        obtain ⟨k, M, hk1, hk2, rfl, hc, hr, hm, hsh⟩ := hrel
        have HL : Hid (M.length = N) := Lib.hid (by rw [hm.out.len]; exact HN.out)
        by_cases hlt : k < i - 1
        · have hd : decide ((k : Int) < (i : Int) - 1) = true := decide_eq_true (by omega)
          go_upto_region 11 with (fail)
          obtain ⟨q, hq⟩ : ∃ q, q = k + 1 := ⟨_, rfl⟩
          have hl := HL.out
          obtain ⟨u, hu⟩ : ∃ u, M[k]? = some u := ⟨M[k]'(by omega), List.getElem?_eq_getElem _⟩
          obtain ⟨v, hv⟩ : ∃ v, M[q]? = some v := ⟨M[q]'(by omega), List.getElem?_eq_getElem _⟩
          have ku := (hr.out.blkM hu).lift
          have ku0 := liftC (hr.out.blkM hu).zero
          have kv := (hr.out.blkM hv).lift
          have kv0 := liftC (hr.out.blkM hv).zero
          have hi3 : k < N := by omega
          have hi4 : q < N := by omega
          have w_1 : IntKind.i64.wrap ((k : Int) + 1) = (q : Int) := by rw [IntWalk.i64_in _ (by omega)]; omega
          have HX := Lib.hid (And.intro hu (And.intro hv hq))
          clear hu hv hq
          refine region_upL [2, 3, 4] [0, 1, 2, 3, 4, 5, 6, 7, 8, 9, 10, 11, 12, 13, 14] [] 15 [16, 17] (by kernel_rfl) (by kernel_rfl) (fun d _ _ _ _ h => by cases d <;> exact h) ?_
          simp only [getOps, List.getElem?_cons_zero, List.getElem?_cons_succ]
          repeat (first | (apply wpUp_pure rfl; (focus (intro W; go_simp; rfl))) | (apply wpUp_step rfl rfl; (focus (intro W hU; go_simp; exact ⟨rfl, Up.refl _⟩))); go_simp)
          refine wpUp_nil fun W5 hW5 => ?_
          refine wpNew_nil fun W6 hW6 => ?_
          clear ku ku0 kv kv0 w_1
          refine wpList_storeM rfl _ _ rfl v k (hr.out.upM ((up_drew.trans hW5).trans hW6)) (by omega) rfl rfl fun W7 r7 c7 => ?_
          refine wpList_build rfl (by go_simp; rfl) ?_
          refine wpList_storeM rfl _ _ rfl u q r7 (by rw [List.length_set]; omega) rfl rfl fun W8 r8 c8 => ?_
          have H8 := Lib.hid (And.intro r8 (((hc.out.up ((up_drew.trans hW5).trans hW6)).trans c7 (fun _ _ e => e)).trans c8 (fun _ _ e => e)))
          clear r7 c7 r8 c8 hl hd
          go_wp2
          have hxp := HX.out
          have h8 := H8.out.1
          rw [← swp_eq hxp.1 hxp.2.1, hxp.2.2] at h8
          exact ⟨⟨k + 1, swp M k (k + 1), by omega, by omega, by go_num, Lib.hid H8.out.2, Lib.hid h8, Lib.hid (hm.out.trans (swp_mov (by have := HL.out; omega) (by have := HL.out; omega) (by omega) (by omega) (by omega) (by omega))), Lib.hid (hsh.out.step hk1 (by have := HL.out; omega))⟩, by simp [intOf]; omega⟩
        · have hd : decide ((k : Int) < (i : Int) - 1) = false := decide_eq_false (by omega)
          go_wp2
          refine bodyPost_ret (results_none rfl _ _ _) rfl ?_
          obtain rfl : k = i - 1 := by omega
          exact ⟨rfl, hc.out, M, hr.out, hm.out, hsh.out.srt (by omega) hj1 HS.out.1 HS.out.2 h1.out h2.out⟩
end Go.Proofs.YtalmjdlcogdpmaaGreatDoor

namespace Go.Proofs.YtalmjdlcogdpmaaGreatDoor
open Go.RowKit
attribute [local go_sem] upUpon_value upUpon_enter upUpon_skip upUpon_row ucUpon_value ucUpon_skip ucUpon_enter ucUpon_row

set_option maxRecDepth 100000 in
set_option maxHeartbeats 4000000 in
theorem sym_last (g cap a m : Nat) (L : List Msg) (w : World) (h : RowM w (slc g L.length cap) L) (ham : a + 1 < m) (hb : m + 1 ≤ L.length) (hn : L.length ≤ 1000000) (hs : Srt L a m) :
    Calls Tryz.prog 68 #[slc g L.length cap, .int .i64 a, .int .i64 m, .int .i64 (m + 1 : Nat), ordF] w fun e w' => e = .returned (.tuple #[]) ∧ Chg (· = g) w w' ∧ ∃ L', RowM w' (slc g L.length cap) L' ∧ Mov a (m + 1) L L' ∧ Srt L' a (m + 1) := by
  have H := Lib.hid h
  obtain ⟨N, hN⟩ : ∃ N, L.length = N := ⟨_, rfl⟩
  have HN := Lib.hid hN
  rw [hN] at hb hn ⊢
  obtain ⟨x, hx⟩ : ∃ x, L[m]? = some x := ⟨L[m]'(by omega), List.getElem?_eq_getElem _⟩
  have HS := Lib.hid (And.intro hs hx)
  obtain ⟨b, hb'⟩ : ∃ b, b = m + 1 := ⟨_, rfl⟩
  rw [← hb']
  have hm1 : m + 1 ≤ b := by omega
  have hm2 : b ≤ m + 1 := by omega
  clear h hN hs hx
  have w_1 : IntKind.i64.wrap ((b : Int) - m) = 1 := by rw [IntWalk.i64_in _ (by omega)]; omega
  have w_2 : IntKind.i64.wrap ((m : Int) - a) = (m : Int) - a := IntWalk.i64_in _ (by omega)
  have hd1 : ((m : Int) - a == 1) = false := by rw [beq_eq_false_iff_ne]; omega
  have HB := Lib.hid hb'
  clear hb'
  go_enter Tryz.func68, Tryz.ntmps68
  go_wp2_with fail
  clear w_1 w_2 hd1
  go_loopw [14, 15] (fun v y wr => ∃ i j : Nat, a ≤ i ∧ i ≤ j ∧ j ≤ m ∧ v = .int .i64 i ∧ y = .int .i64 j ∧ Hid (Chg (· = g) w wr) ∧ Hid (RowM wr (slc g N cap) L) ∧ Hid (∀ p y, a ≤ p → p < i → L[p]? = some y → befB x y = false) ∧ Hid (∀ p y, j ≤ p → p < m → L[p]? = some y → befB x y = true)) (fun v x _ => (intOf x).toNat - (intOf v).toNat)
  case atStart => exact ⟨a, m, Nat.le_refl _, by omega, Nat.le_refl _, rfl, rfl, Lib.hid (Chg.refl _ _), Lib.hid (by have := H.out; rw [HN.out] at this; exact this), Lib.hid (fun p y h1 h2 => by omega), Lib.hid (fun p y h1 h2 => by omega)⟩
  case round =>
    obtain ⟨i, j, hi1, hij, hj1, rfl, rfl, hc, hr, h1, h2⟩ := hrel
    by_cases hlt : i < j
    · obtain ⟨k, hk⟩ : ∃ k, k = (i + j) / 2 := ⟨_, rfl⟩
      have w_h : ((i : Int) + j) / 2 = (k : Int) := by omega
      have hk1 : i ≤ k := by omega
      have hk2 : k < j := by omega
      have hkN : k < N := by omega
      have hmN : m < N := by omega
      clear hk
      go_upto_region 17 with (fail)
      obtain ⟨y, hy⟩ : ∃ y, L[k]? = some y := ⟨L[k]'(by rw [HN.out]; omega), List.getElem?_eq_getElem _⟩
      have kx := (hr.out.blkM HS.out.2).lift
      have kx0 := liftC (hr.out.blkM HS.out.2).zero
      have ky := (hr.out.blkM hy).lift
      have ky0 := liftC (hr.out.blkM hy).zero
      have HY := Lib.hid hy
      clear hy w_h
      refine region_upL0 [0, 1, 2, 3, 4, 5, 6, 7, 8, 9, 10] [] 11 [] (by kernel_rfl) (by kernel_rfl) ?_
      simp only [getOps, List.getElem?_cons_zero, List.getElem?_cons_succ]
      repeat (first | (apply wpUp_step rfl rfl; (focus (intro W hU; go_simp; first | exact ⟨rfl, Up.refl _⟩ | exact order_any x y W))); go_simp)
      refine wpUp_nil fun W3 hW3 => ?_
      refine wpNew_nil fun W4 hW4 => ?_
      clear kx kx0 ky ky0
      have hr4 := Lib.hid (hr.out.upM ((up_drew.trans hW3).trans hW4))
      have hc4 := Lib.hid (hc.out.up ((up_drew.trans hW3).trans hW4))
      have hor := ordv_neg x y
      rcases hbf : befB x y with _ | _
      · rw [hbf] at hor
        have HB := Lib.hid hbf
        clear hbf
        go_wp2
        exact ⟨⟨k + 1, j, by omega, by omega, hj1, by go_num, rfl, hc4, hr4, Lib.hid (fun p z q1 q2 hz => nbef_trans (HS.out.1.le q1 (show p ≤ k by omega) (by omega) hz HY.out) HB.out), h2⟩, by simp [intOf]; omega⟩
      · rw [hbf] at hor
        have HB := Lib.hid hbf
        clear hbf
        go_wp2
        exact ⟨⟨i, k, hi1, hk1, by omega, rfl, rfl, hc4, hr4, h1, Lib.hid (fun p z q1 q2 hz => bef_of_nbef HB.out (HS.out.1.le (show a ≤ k by omega) q1 q2 HY.out hz))⟩, by simp [intOf]; omega⟩
    · obtain rfl : i = j := by omega
      go_wp2_with fail
      obtain ⟨wo, rfl⟩ : ∃ wo : World, wo = wr := ⟨_, rfl⟩
      go_loopw [17] (fun v wr => ∃ k : Nat, ∃ M : List Msg, i ≤ k ∧ k ≤ m ∧ v = .int .i64 k ∧ Hid (Chg (· = g) w wr) ∧ Hid (RowM wr (slc g N cap) M) ∧ Hid (Mov a b L M) ∧ Hid (ShDn L M m k)) (fun v _ => (intOf v).toNat)
      case atStart => exact ⟨m, L, by omega, Nat.le_refl _, rfl, hc, hr, Lib.hid (Mov.refl _ _ _), Lib.hid (ShDn.start _ _)⟩
      case round =>
        obtain ⟨k, M, hk1, hk2, rfl, hc, hr, hm, hsh⟩ := hrel
        have HL : Hid (M.length = N) := Lib.hid (by rw [hm.out.len]; exact HN.out)
        by_cases hlt : i < k
        · go_upto_region 23 with (fail)
          obtain ⟨q, hq⟩ : ∃ q, q = k - 1 := ⟨_, rfl⟩
          have hl := HL.out
          obtain ⟨u, hu⟩ : ∃ u, M[k]? = some u := ⟨M[k]'(by omega), List.getElem?_eq_getElem _⟩
          obtain ⟨v, hv⟩ : ∃ v, M[q]? = some v := ⟨M[q]'(by omega), List.getElem?_eq_getElem _⟩
          have ku := (hr.out.blkM hu).lift
          have ku0 := liftC (hr.out.blkM hu).zero
          have kv := (hr.out.blkM hv).lift
          have kv0 := liftC (hr.out.blkM hv).zero
          have hi3 : k < N := by omega
          have hi4 : q < N := by omega
          have w_1 : IntKind.i64.wrap ((k : Int) - 1) = (q : Int) := by rw [IntWalk.i64_in _ (by omega)]; omega
          have HX := Lib.hid (And.intro hu (And.intro hv hq))
          clear hu hv hq
          refine region_upL [2, 3, 4] [0, 1, 2, 3, 4, 5, 6, 7, 8, 9, 10, 11, 12, 13, 14] [] 15 [16, 17] (by kernel_rfl) (by kernel_rfl) (fun d _ _ _ _ h => by cases d <;> exact h) ?_
          simp only [getOps, List.getElem?_cons_zero, List.getElem?_cons_succ]
          repeat (first | (apply wpUp_pure rfl; (focus (intro W; go_simp; rfl))) | (apply wpUp_step rfl rfl; (focus (intro W hU; go_simp; exact ⟨rfl, Up.refl _⟩))); go_simp)
          refine wpUp_nil fun W5 hW5 => ?_
          refine wpNew_nil fun W6 hW6 => ?_
          clear ku ku0 kv kv0
          refine wpList_storeM rfl _ _ rfl v k (hr.out.upM ((up_drew.trans hW5).trans hW6)) (by omega) rfl rfl fun W7 r7 c7 => ?_
          refine wpList_build rfl (by go_simp; rfl) ?_
          refine wpList_storeM rfl _ _ rfl u q r7 (by rw [List.length_set]; omega) rfl rfl fun W8 r8 c8 => ?_
          have H8 := Lib.hid (And.intro r8 (((hc.out.up ((up_drew.trans hW5).trans hW6)).trans c7 (fun _ _ e => e)).trans c8 (fun _ _ e => e)))
          clear r7 c7 r8 c8 hl
          go_wp2
          have hxp := HX.out
          have h8 := H8.out.1
          rw [← swp_eq hxp.1 hxp.2.1, hxp.2.2] at h8
          exact ⟨⟨k - 1, swp M k (k - 1), by omega, by omega, by rw [hxp.2.2], Lib.hid H8.out.2, Lib.hid h8, Lib.hid (hm.out.trans (swp_mov (by have := HL.out; omega) (by have := HL.out; omega) (by omega) (by omega) (by omega) (by omega))), Lib.hid (hsh.out.step (by omega) hk2 (by have := HL.out; omega))⟩, by rw [hxp.2.2]; simp [intOf]; omega⟩
        · obtain rfl : k = i := by omega
          go_wp2
          refine bodyPost_ret (results_none rfl _ _ _) rfl ?_
          exact ⟨rfl, hc.out, M, hr.out, hm.out, by rw [HB.out]; exact hsh.out.srt hi1 (by omega) HS.out.1 HS.out.2 h1.out h2.out⟩
end Go.Proofs.YtalmjdlcogdpmaaGreatDoor

namespace Go.Proofs.YtalmjdlcogdpmaaGreatDoor
open Go.RowKit
attribute [local go_sem] upUpon_value upUpon_enter upUpon_skip upUpon_row ucUpon_value ucUpon_skip ucUpon_enter ucUpon_row

set_option maxRecDepth 100000 in
set_option maxHeartbeats 8000000 in
theorem sym_any (K : Nat) : ∀ (g cap a m b : Nat) (L : List Msg) (w : World), b - a ≤ K → RowM w (slc g L.length cap) L → a < m → m < b → b ≤ L.length → L.length ≤ 1000000 → Srt L a m → Srt L m b →
    Calls Tryz.prog 68 #[slc g L.length cap, .int .i64 a, .int .i64 m, .int .i64 b, ordF] w fun e w' => e = .returned (.tuple #[]) ∧ Chg (· = g) w w' ∧ ∃ L', RowM w' (slc g L.length cap) L' ∧ Mov a b L L' ∧ Srt L' a b := by
  induction K with
  | zero => intro g cap a m b L w hk h h1 h2; omega
  | succ K ih =>
  intro g cap a m b L w hk h h1 h2 hb hn sa sm
  by_cases hA : m = a + 1
  · subst hA
    exact sym_one g cap a b L w h h2 hb hn sm
  by_cases hB : b = m + 1
  · subst hB
    exact sym_last g cap a m L w h (by omega) hb hn sa
  have H := Lib.hid h
  obtain ⟨N, hN⟩ : ∃ N, L.length = N := ⟨_, rfl⟩
  have HN := Lib.hid hN
  have HS := Lib.hid (And.intro sa sm)
  have IH := Lib.hid ih
  rw [hN] at hb hn ⊢
  obtain ⟨mid, hmid⟩ : ∃ mid, (a + b) / 2 = mid := ⟨_, rfl⟩
  obtain ⟨lo, hlo⟩ : ∃ lo, symLo a m b = lo := ⟨_, rfl⟩
  obtain ⟨hi, hhi⟩ : ∃ hi, symHi a m b = hi := ⟨_, rfl⟩
  obtain ⟨b1, b2, b3, b4, b5, b6, b7⟩ := sym_bounds h1 h2
  have HD := Lib.hid (And.intro hmid (And.intro hlo hhi))
  have w_mid : ((a : Int) + b) / 2 = (mid : Int) := by omega
  have hm1 : a < mid := by omega
  have hm2 : mid < b := by omega
  have hm3 : 2 * mid ≤ a + b := by omega
  have hm4 : a + b ≤ 2 * mid + 1 := by omega
  rw [hlo, hhi] at b2
  rw [hlo] at b1
  rw [hhi] at b3
  rw [hhi, hmid] at b4
  rw [hlo, hmid] at b5
  have B67 := Lib.hid (And.intro b6 b7)
  have hlo1 : mid < m → lo = mid + m - b := fun h => by rw [← hlo, symLo, if_pos (by omega)]; omega
  have hlo2 : ¬ mid < m → lo = a := fun h => by rw [← hlo, symLo, if_neg (by omega)]
  have hhi1 : mid < m → hi = mid := fun h => by rw [← hhi, symHi, if_pos (by omega)]; omega
  have hhi2 : ¬ mid < m → hi = m := fun h => by rw [← hhi, symHi, if_neg (by omega)]
  have HLH := Lib.hid (And.intro hlo1 (And.intro hlo2 (And.intro hhi1 hhi2)))
  obtain ⟨n, hn'⟩ : ∃ n, n = mid + m := ⟨_, rfl⟩
  have w_n : IntKind.i64.wrap ((mid : Int) + m) = (n : Int) := by rw [IntWalk.i64_in _ (by omega)]; omega
  have hn1 : mid + m ≤ n := by omega
  have hn2 : n ≤ mid + m := by omega
  have w_1 : IntKind.i64.wrap ((m : Int) - a) = (m : Int) - a := IntWalk.i64_in _ (by omega)
  have w_2 : IntKind.i64.wrap ((b : Int) - m) = (b : Int) - m := IntWalk.i64_in _ (by omega)
  have hd1 : ((m : Int) - a == 1) = false := by rw [beq_eq_false_iff_ne]; omega
  have hd2 : ((b : Int) - m == 1) = false := by rw [beq_eq_false_iff_ne]; omega
  clear h hN sa sm ih hmid hlo hhi b6 b7 hlo1 hlo2 hhi1 hhi2 hn' hA hB
  go_enter Tryz.func68, Tryz.ntmps68
  go_upto_if 140 with fail
  clear w_mid w_n w_1 w_2 hd1 hd2
  go_cut [20, 21] from 141 to 146 (fun v x wx => v = .int .i64 lo ∧ x = .int .i64 hi ∧ wx = w)
  case first =>
    by_cases hc : mid < m
    · have e1 := HLH.out.1 hc
      have e2 := HLH.out.2.2.1 hc
      have w_lo : IntKind.i64.wrap ((n : Int) - b) = (lo : Int) := by rw [IntWalk.i64_in _ (by omega)]; omega
      have HE := Lib.hid e2
      clear e1 e2
      go_wp2
      go_meet
      case rel => exact ⟨rfl, by rw [HE.out], rfl⟩
    · have e1 := HLH.out.2.1 hc
      have e2 := HLH.out.2.2.2 hc
      have HE := Lib.hid (And.intro e1 e2)
      clear e1 e2
      go_wp2
      go_meet
      case rel => exact ⟨by rw [HE.out.1], by rw [HE.out.2], rfl⟩
  case rest =>
    obtain ⟨rfl, rfl, rfl⟩ := hcut
    obtain ⟨wb, rfl⟩ : ∃ wb : World, wb = wc := ⟨_, rfl⟩
    obtain ⟨p, hp⟩ : ∃ p, p = n - 1 := ⟨_, rfl⟩
    have w_p : IntKind.i64.wrap ((n : Int) - 1) = (p : Int) := by rw [IntWalk.i64_in _ (by omega)]; omega
    have hp1 : p + 1 ≤ n := by omega
    have hp2 : n ≤ p + 1 := by omega
    clear hp
    go_wp2_with fail
    clear w_p
    go_loopw [20, 21] (fun v y wr => ∃ s r : Nat, lo ≤ s ∧ s ≤ r ∧ r ≤ hi ∧ v = .int .i64 s ∧ y = .int .i64 r ∧ Hid (Chg (· = g) wb wr) ∧ Hid (RowM wr (slc g N cap) L) ∧ Hid (∀ c x y, lo ≤ c → c < s → L[c]? = some x → L[p - c]? = some y → befB y x = false) ∧ Hid (∀ c x y, r ≤ c → c < hi → L[c]? = some x → L[p - c]? = some y → befB y x = true)) (fun v x _ => (intOf x).toNat - (intOf v).toNat)
    case atStart => exact ⟨lo, hi, Nat.le_refl _, b2, Nat.le_refl _, rfl, rfl, Lib.hid (Chg.refl _ _), Lib.hid (by have := H.out; rw [HN.out] at this; exact this), Lib.hid (fun c x y h1 h2 => by omega), Lib.hid (fun c x y h1 h2 => by omega)⟩
    case round =>
      obtain ⟨s, r, hs1, hsr, hr1, rfl, rfl, hc, hr, q1, q2⟩ := hrel
      by_cases hlt : s < r
      · obtain ⟨c, hk⟩ : ∃ c, c = (s + r) / 2 := ⟨_, rfl⟩
        have w_h : ((s : Int) + r) / 2 = (c : Int) := by omega
        have hk1 : s ≤ c := by omega
        have hk2 : c < r := by omega
        have hcN : c < N := by omega
        obtain ⟨q, hq⟩ : ∃ q, q = p - c := ⟨_, rfl⟩
        have hqN : q < N := by omega
        clear hk
        go_upto_region 35 with (fail)
        obtain ⟨x, hx⟩ : ∃ x, L[c]? = some x := ⟨L[c]'(by rw [HN.out]; omega), List.getElem?_eq_getElem _⟩
        obtain ⟨y, hy⟩ : ∃ y, L[q]? = some y := ⟨L[q]'(by rw [HN.out]; omega), List.getElem?_eq_getElem _⟩
        have kx := (hr.out.blkM hx).lift
        have kx0 := liftC (hr.out.blkM hx).zero
        have ky := (hr.out.blkM hy).lift
        have ky0 := liftC (hr.out.blkM hy).zero
        have w_q : IntKind.i64.wrap ((p : Int) - c) = (q : Int) := by rw [IntWalk.i64_in _ (by omega)]; omega
        have HY := Lib.hid (And.intro hx (And.intro hy hq))
        clear hx hy w_h hq
        refine region_upL0 [0, 1, 2, 3, 4, 5, 6, 7, 8, 9, 10, 11, 12] [] 13 [] (by kernel_rfl) (by kernel_rfl) ?_
        simp only [getOps, List.getElem?_cons_zero, List.getElem?_cons_succ]
        repeat (first | (apply wpUp_step rfl rfl; (focus (intro W hU; go_simp; first | exact ⟨rfl, Up.refl _⟩ | exact order_any y x W))); go_simp)
        refine wpUp_nil fun W3 hW3 => ?_
        refine wpNew_nil fun W4 hW4 => ?_
        clear kx kx0 ky ky0 w_q
        have hr4 := Lib.hid (hr.out.upM ((up_drew.trans hW3).trans hW4))
        have hc4 := Lib.hid (hc.out.up ((up_drew.trans hW3).trans hW4))
        have hor := ordv_neg y x
        rcases hbf : befB y x with _ | _
        · rw [hbf] at hor
          have HB := Lib.hid hbf
          clear hbf
          go_wp2
          exact ⟨⟨c + 1, r, by omega, by omega, hr1, by go_num, rfl, hc4, hr4, Lib.hid (fun d u v k1 k2 hu hv => by
            have hq := HY.out.2.2
            have l1 := HS.out.1.le (show a ≤ d by omega) (show d ≤ c by omega) (by omega) hu HY.out.1
            have l3 := HS.out.2.le (show m ≤ q by omega) (show q ≤ p - d by omega) (by omega) HY.out.2.1 hv
            exact nbef_trans (nbef_trans l1 HB.out) l3), q2⟩, by simp [intOf]; omega⟩
        · rw [hbf] at hor
          have HB := Lib.hid hbf
          clear hbf
          go_wp2
          exact ⟨⟨s, c, hs1, hk1, by omega, rfl, rfl, hc4, hr4, q1, Lib.hid (fun d u v k1 k2 hu hv => by
            have hq := HY.out.2.2
            have l1 := HS.out.1.le (show a ≤ c by omega) k1 (by omega) HY.out.1 hu
            have l3 := HS.out.2.le (show m ≤ p - d by omega) (show p - d ≤ q by omega) (by omega) hv HY.out.2.1
            exact bef_of_nbef (nbef_bef l3 HB.out) l1)⟩, by simp [intOf]; omega⟩
      · obtain rfl : s = r := by omega
        obtain ⟨e, he⟩ : ∃ e, e = n - s := ⟨_, rfl⟩
        have w_e : IntKind.i64.wrap ((n : Int) - s) = (e : Int) := by rw [IntWalk.i64_in _ (by omega)]; omega
        have he1 : e + s ≤ n := by omega
        have he2 : n ≤ e + s := by omega
        clear he
        go_upto_region 39 with (fail)
        clear w_e
        go_cut [185] from 178 to 185 (fun v wx => v = .bool (decide (s < m ∧ m < e)) ∧ wx = wr)
        case first =>
          by_cases g1 : s < m
          · by_cases g2 : m < e
            · go_wp2
              go_meet
              case rel => exact ⟨by simp [g1, g2], rfl⟩
            · go_wp2
              go_meet
              case rel => exact ⟨by simp [g1, g2], rfl⟩
          · go_wp2
            go_meet
            case rel => exact ⟨by simp [g1], rfl⟩
        case rest =>
          obtain ⟨rfl, rfl⟩ := hcut
          go_upto_if 185 with fail
          obtain ⟨w1, rfl⟩ : ∃ w1 : World, w1 = wc := ⟨_, rfl⟩
          obtain ⟨bt, hbt⟩ : ∃ bt, decide (s < m ∧ m < e) = bt := ⟨_, rfl⟩
          rw [hbt]
          have HBT := Lib.hid hbt
          clear hbt
          go_cut [] from 186 to 191 (fun wx => ∃ M : List Msg, Hid (Chg (· = g) wb wx) ∧ Hid (RowM wx (slc g N cap) M) ∧ Hid (Mov a b L M) ∧ Hid (∀ k, M[k]? = rotG L s m e k))
          case first =>
            cases bt
            · go_wp2
              go_meet
              case rel => exact ⟨L, hc, hr, Lib.hid (Mov.refl _ _ _), Lib.hid (fun k => by
                have := of_decide_eq_false HBT.out
                unfold rotG
                split
                · congr 1; omega
                · split
                  · congr 1; omega
                  · rfl)⟩
            · have hse := of_decide_eq_true HBT.out
              have hr' := hr.out
              rw [← HN.out] at hr'
              have hro := rotate_any g cap s m e L ordF w1 hr' hse.1 hse.2 (by rw [HN.out]; omega) (by rw [HN.out]; omega)
              rw [HN.out] at hro
              have HRO := Lib.hid hro
              clear hro hr'
              go_wp2_with fail
              refine HRO.out.mono ?_
              rintro e' w2 ⟨rfl, hc2, M, hr2, hm2, hk2⟩
              have H2 := Lib.hid (And.intro hc2 (And.intro hr2 (And.intro hm2 hk2)))
              clear hc2 hr2 hm2 hk2
              go_wp2_with fail
              go_meet
              case rel => exact ⟨M, Lib.hid (hc.out.trans H2.out.1 (fun _ _ e => e)), Lib.hid H2.out.2.1, Lib.hid (H2.out.2.2.1.mono (by omega) (by omega)), Lib.hid H2.out.2.2.2⟩
          case rest =>
            obtain ⟨M, hc2, hr2, hmv, hrot⟩ := hcut
            obtain ⟨w2, rfl⟩ : ∃ w2 : World, w2 = wc := ⟨_, rfl⟩
            have hHal := sym_halves (L := L) (M := M) (s := s) h1 h2 (by rw [HN.out]; exact hb) HS.out.1 HS.out.2
              ⟨fun c x y k1 k2 hx hy => q1.out c x y (by rw [← HD.out.2.1]; exact k1) k2 hx (by rw [show p - c = (a + b) / 2 + m - 1 - c by have := HD.out.1; omega]; exact hy),
               fun c x y k1 k2 hx hy => q2.out c x y k1 (by rw [← HD.out.2.2]; exact k2) hx (by rw [show p - c = (a + b) / 2 + m - 1 - c by have := HD.out.1; omega]; exact hy)⟩
              (by rw [HD.out.2.1]; exact hs1) (by rw [HD.out.2.2]; exact hr1) (fun k => by rw [hrot.out k, show (a + b) / 2 + m - s = e by have := HD.out.1; omega])
            rw [HD.out.1, show mid + m - s = e by omega] at hHal
            have HH := Lib.hid hHal
            have HML : Hid (M.length = N) := Lib.hid (by rw [hmv.out.len]; exact HN.out)
            clear hHal
            go_upto_region 41 with (fail)
            go_cut [199] from 192 to 199 (fun v wx => v = .bool (decide (a < s ∧ s < mid)) ∧ wx = w2)
            case first =>
              by_cases g1 : a < s
              · by_cases g2 : s < mid
                · go_wp2
                  go_meet
                  case rel => exact ⟨by simp [g1, g2], rfl⟩
                · go_wp2
                  go_meet
                  case rel => exact ⟨by simp [g1, g2], rfl⟩
              · go_wp2
                go_meet
                case rel => exact ⟨by simp [g1], rfl⟩
            case rest =>
              obtain ⟨rfl, rfl⟩ := hcut
              go_upto_if 199 with fail
              obtain ⟨w3, rfl⟩ : ∃ w3 : World, w3 = wc := ⟨_, rfl⟩
              obtain ⟨bt, hbt⟩ : ∃ bt, decide (a < s ∧ s < mid) = bt := ⟨_, rfl⟩
              rw [hbt]
              have HBT := Lib.hid hbt
              clear hbt
              go_cut [] from 200 to 205 (fun wx => ∃ M2 : List Msg, Hid (Chg (· = g) wb wx) ∧ Hid (RowM wx (slc g N cap) M2) ∧ Hid (Mov a mid M M2) ∧ Hid (Srt M2 a mid))
              case first =>
                cases bt
                · go_wp2
                  go_meet
                  case rel => exact ⟨M, hc2, hr2, Lib.hid (Mov.refl _ _ _), Lib.hid (by
                    have := of_decide_eq_false HBT.out
                    rcases (show s = a ∨ s = mid by omega) with rfl | rfl
                    · exact HH.out.2.1
                    · exact HH.out.1)⟩
                · have hse := of_decide_eq_true HBT.out
                  have hr' := hr2.out
                  rw [← HML.out] at hr'
                  have hro := IH.out g cap a s mid M w3 (by omega) hr' hse.1 hse.2 (by rw [HML.out]; omega) (by rw [HML.out]; omega) HH.out.1 HH.out.2.1
                  rw [HML.out] at hro
                  have HRO := Lib.hid hro
                  clear hro hr'
                  go_wp2_with fail
                  refine HRO.out.mono ?_
                  rintro e' w4 ⟨rfl, hc4, M2, hr4, hm4, hk4⟩
                  have H2 := Lib.hid (And.intro hc4 (And.intro hr4 (And.intro hm4 hk4)))
                  clear hc4 hr4 hm4 hk4
                  go_wp2_with fail
                  go_meet
                  case rel => exact ⟨M2, Lib.hid (hc2.out.trans H2.out.1 (fun _ _ e => e)), Lib.hid H2.out.2.1, Lib.hid H2.out.2.2.1, Lib.hid H2.out.2.2.2⟩
              case rest =>
                obtain ⟨M2, hc3, hr3, hmv3, hs3⟩ := hcut
                obtain ⟨w5, rfl⟩ : ∃ w5 : World, w5 = wc := ⟨_, rfl⟩
                have HML2 : Hid (M2.length = N) := Lib.hid (by rw [hmv3.out.len]; exact HML.out)
                have HR : Hid (Srt M2 mid e ∧ Srt M2 e b) := Lib.hid ⟨HH.out.2.2.1.of_eq (fun k k1 k2 => hmv3.out.out k (by omega)), HH.out.2.2.2.1.of_eq (fun k k1 k2 => hmv3.out.out k (by omega))⟩
                go_upto_region 43 with (fail)
                go_cut [213] from 206 to 213 (fun v wx => v = .bool (decide (mid < e ∧ e < b)) ∧ wx = w5)
                case first =>
                  by_cases g1 : mid < e
                  · by_cases g2 : e < b
                    · go_wp2
                      go_meet
                      case rel => exact ⟨by simp [g1, g2], rfl⟩
                    · go_wp2
                      go_meet
                      case rel => exact ⟨by simp [g1, g2], rfl⟩
                  · go_wp2
                    go_meet
                    case rel => exact ⟨by simp [g1], rfl⟩
                case rest =>
                  obtain ⟨rfl, rfl⟩ := hcut
                  go_upto_if 213 with fail
                  obtain ⟨w6, rfl⟩ : ∃ w6 : World, w6 = wc := ⟨_, rfl⟩
                  obtain ⟨bt, hbt⟩ : ∃ bt, decide (mid < e ∧ e < b) = bt := ⟨_, rfl⟩
                  rw [hbt]
                  have HBT := Lib.hid hbt
                  clear hbt
                  cases bt
                  · go_wp2
                    go_end0
                    have := of_decide_eq_false HBT.out
                    exact ⟨rfl, hc3.out, M2, hr3.out, hmv.out.trans (hmv3.out.mono (Nat.le_refl _) (by omega)), sym_join (by omega) (by omega) HH.out.2.2.2.2 hmv3.out hs3.out (Mov.refl _ _ _) (by
                      rcases (show e = mid ∨ e = b by omega) with rfl | rfl
                      · exact HR.out.2
                      · exact HR.out.1)⟩
                  · have hse := of_decide_eq_true HBT.out
                    have hr' := hr3.out
                    rw [← HML2.out] at hr'
                    have hro := IH.out g cap mid e b M2 w6 (by omega) hr' hse.1 hse.2 (by rw [HML2.out]; omega) (by rw [HML2.out]; omega) HR.out.1 HR.out.2
                    rw [HML2.out] at hro
                    have HRO := Lib.hid hro
                    clear hro hr'
                    go_wp2_with fail
                    refine HRO.out.mono ?_
                    rintro e' w7 ⟨rfl, hc4, M3, hr4, hm4, hk4⟩
                    have H2 := Lib.hid (And.intro hc4 (And.intro hr4 (And.intro hm4 hk4)))
                    clear hc4 hr4 hm4 hk4
                    go_wp2_with fail
                    go_end0
                    exact ⟨rfl, hc3.out.trans H2.out.1 (fun _ _ e => e), M3, H2.out.2.1, (hmv.out.trans (hmv3.out.mono (Nat.le_refl _) (by omega))).trans (H2.out.2.2.1.mono (by omega) (Nat.le_refl _)), sym_join (by omega) (by omega) HH.out.2.2.2.2 hmv3.out hs3.out H2.out.2.2.1 H2.out.2.2.2⟩
end Go.Proofs.YtalmjdlcogdpmaaGreatDoor

namespace Go.Proofs.YtalmjdlcogdpmaaGreatDoor
open Go.RowKit
attribute [local go_sem] upUpon_value upUpon_enter upUpon_skip upUpon_row ucUpon_value ucUpon_skip ucUpon_enter ucUpon_row

/-- Runs of B are in order. -/
def Blks (M : List Msg) (B n : Nat) : Prop := ∀ x, B ∣ x → Srt M x (min (x + B) n)
theorem Srt.nil {M : List Msg} {a b : Nat} (h : b ≤ a + 1) : Srt M a b := fun i j x y h1 h2 h3 => by omega
theorem dvd_step {B x a : Nat} (hx : B ∣ x) (ha : B ∣ a) (h : x < a) : x + B ≤ a := by
  have := Nat.le_of_dvd (by omega) (Nat.dvd_sub ha hx)
  omega
/-- The first loop: runs of 20 ahead of a. -/
def Run20 (M : List Msg) (a : Nat) : Prop := ∀ x, 20 ∣ x → x < a → Srt M x (x + 20)
theorem Run20.step {M M' : List Msg} {a : Nat} (h : Run20 M a) (ha : 20 ∣ a) (hm : Mov a (a + 20) M M') (hs : Srt M' a (a + 20)) : Run20 M' (a + 20) := fun x hx hl => by
  rcases Nat.lt_or_ge x a with h1 | h1
  · have := dvd_step hx ha h1
    exact (h x hx h1).of_eq fun k k1 k2 => hm.out k (by omega)
  · have : x = a := by omega
    subst this
    exact hs
theorem Run20.last {M M' : List Msg} {a n : Nat} (h : Run20 M a) (ha : 20 ∣ a) (han : a ≤ n) (hna : n < a + 20) (hm : Mov a n M M') (hs : Srt M' a n) : Blks M' 20 n := fun x hx => by
  rcases Nat.lt_or_ge x a with h1 | h1
  · have := dvd_step hx ha h1
    rw [Nat.min_eq_left (by omega)]
    exact (h x hx h1).of_eq fun k k1 k2 => hm.out k (by omega)
  · rcases Nat.eq_or_lt_of_le h1 with h2 | h2
    · subst h2
      rw [Nat.min_eq_right (by omega)]
      exact hs
    · have := dvd_step ha hx h2
      exact Srt.nil (by omega)
/-- The pass that doubles the runs: ahead of a it is done. -/
structure Pass (M : List Msg) (B n a : Nat) : Prop where
  d : ∀ x, 2 * B ∣ x → x < a → Srt M x (x + 2 * B)
  t : ∀ x, B ∣ x → a ≤ x → Srt M x (min (x + B) n)
theorem Pass.start {M : List Msg} {B n : Nat} (h : Blks M B n) : Pass M B n 0 := ⟨fun x _ hx => by omega, fun x hx _ => h x hx⟩
theorem dvd_two {B x : Nat} (h : 2 * B ∣ x) : B ∣ x := Nat.dvd_trans (Nat.dvd_mul_left B 2) h
theorem Pass.runs {M : List Msg} {B n a : Nat} (h : Pass M B n a) (ha : 2 * B ∣ a) (hb : a + B ≤ n) : Srt M a (a + B) ∧ Srt M (a + B) (min (a + 2 * B) n) := by
  have h1 := h.t a (dvd_two ha) (Nat.le_refl _)
  rw [Nat.min_eq_left hb] at h1
  have h2 := h.t (a + B) (Nat.dvd_add (dvd_two ha) (Nat.dvd_refl _)) (by omega)
  rw [show a + B + B = a + 2 * B by omega] at h2
  exact ⟨h1, h2⟩
theorem Pass.step {M M' : List Msg} {B n a : Nat} (h : Pass M B n a) (hB : 0 < B) (ha : 2 * B ∣ a) (hm : Mov a (a + 2 * B) M M') (hs : Srt M' a (a + 2 * B)) : Pass M' B n (a + 2 * B) :=
  ⟨fun x hx hl => by
    rcases Nat.lt_or_ge x a with h1 | h1
    · have := dvd_step hx ha h1
      exact (h.d x hx h1).of_eq fun k k1 k2 => hm.out k (by omega)
    · rcases Nat.eq_or_lt_of_le h1 with h2 | h2
      · subst h2; exact hs
      · have := dvd_step ha hx h2
        omega,
   fun x hx hl => (h.t x hx (by omega)).of_eq fun k k1 k2 => hm.out k (by omega)⟩
theorem Pass.last {M M' : List Msg} {B n a : Nat} (h : Pass M B n a) (hB : 0 < B) (ha : 2 * B ∣ a) (han : a ≤ n) (hna : n < a + 2 * B) (hm : Mov a n M M') (hs : Srt M' a n) : Blks M' (2 * B) n := fun x hx => by
  rcases Nat.lt_or_ge x a with h1 | h1
  · have := dvd_step hx ha h1
    rw [Nat.min_eq_left (by omega)]
    exact (h.d x hx h1).of_eq fun k k1 k2 => hm.out k (by omega)
  · rcases Nat.eq_or_lt_of_le h1 with h2 | h2
    · subst h2
      rw [Nat.min_eq_right (by omega)]
      exact hs
    · have := dvd_step ha hx h2
      exact Srt.nil (by omega)
theorem Pass.stay {M : List Msg} {B n a : Nat} (h : Pass M B n a) (ha : 2 * B ∣ a) (hb : n ≤ a + B) : Srt M a n := by
  have h1 := h.t a (dvd_two ha) (Nat.le_refl _)
  rwa [Nat.min_eq_right hb] at h1

set_option maxRecDepth 100000 in
set_option maxHeartbeats 4000000 in
theorem stable_any (g cap : Nat) (L : List Msg) (w : World) (h : RowM w (slc g L.length cap) L) (hn : L.length ≤ 1000000) :
    Calls Tryz.prog 55 #[slc g L.length cap, .int .i64 L.length, ordF] w fun e w' => e = .returned (.tuple #[]) ∧ Chg (· = g) w w' ∧ ∃ L', RowM w' (slc g L.length cap) L' ∧ Mov 0 L.length L L' ∧ Srt L' 0 L.length := by
  have H := Lib.hid h
  obtain ⟨N, hN⟩ : ∃ N, L.length = N := ⟨_, rfl⟩
  have HN := Lib.hid hN
  rw [hN] at hn ⊢
  clear h hN
  go_enter Tryz.func55, Tryz.ntmps55
  go_wp2_with fail
  go_loopw [7, 8] (fun v x wr => ∃ a : Nat, ∃ M : List Msg, a ≤ N ∧ v = .int .i64 a ∧ x = .int .i64 (a + 20 : Nat) ∧ Hid (20 ∣ a) ∧ Hid (Chg (· = g) w wr) ∧ Hid (RowM wr (slc g N cap) M) ∧ Hid (Mov 0 N L M) ∧ Hid (Run20 M a)) (fun v _ _ => N - (intOf v).toNat)
  case atStart => exact ⟨0, L, Nat.zero_le _, by go_num, by go_num, Lib.hid ⟨0, rfl⟩, Lib.hid (Chg.refl _ _), Lib.hid (by have := H.out; rw [HN.out] at this; exact this), Lib.hid (Mov.refl _ _ _), Lib.hid (fun x _ hx => by omega)⟩
  case round =>
    obtain ⟨a, M, ha, rfl, rfl, hd, hc, hr, hm, hs⟩ := hrel
    have HML : Hid (M.length = N) := Lib.hid (by rw [hm.out.len]; exact HN.out)
    have hr' := hr.out
    rw [← HML.out] at hr'
    obtain ⟨b, hb⟩ : ∃ b, b = a + 20 := ⟨_, rfl⟩
    have hb1 : a + 20 ≤ b := by omega
    have hb2 : b ≤ a + 20 := by omega
    rw [← hb]
    by_cases hlt : b ≤ N
    · have hro := insertion_any g cap a b M wr hr' (by omega) (by rw [HML.out]; omega) (by rw [HML.out]; omega)
      rw [HML.out] at hro
      have HRO := Lib.hid hro
      have HB := Lib.hid hb
      clear hro hr' hb
      go_wp2_with fail
      refine HRO.out.mono ?_
      rintro e w2 ⟨rfl, hc2, M2, hr2, hm2, hs2⟩
      have H2 := Lib.hid (And.intro hc2 (And.intro hr2 (And.intro hm2 hs2)))
      clear hc2 hr2 hm2 hs2
      go_wp2_with fail
      have hbe := HB.out
      exact ⟨⟨b, M2, hlt, rfl, by go_num, Lib.hid (by have := hd.out; omega), Lib.hid (hc.out.trans H2.out.1 (fun _ _ e => e)), Lib.hid H2.out.2.1, Lib.hid (hm.out.trans (H2.out.2.2.1.mono (Nat.zero_le _) hlt)), Lib.hid (by rw [hbe]; exact hs.out.step hd.out (by rw [← hbe]; exact H2.out.2.2.1) (by rw [← hbe]; exact H2.out.2.2.2))⟩, by simp [intOf]; omega⟩
    · have hro := insertion_any g cap a N M wr hr' ha (by rw [HML.out]; omega) (by rw [HML.out]; omega)
      rw [HML.out] at hro
      have HRO := Lib.hid hro
      have hlt' : N < b := by omega
      clear hro hr' hb
      go_wp2_with fail
      refine HRO.out.mono ?_
      rintro e w2 ⟨rfl, hc2, M2, hr2, hm2, hs2⟩
      have hBk := hs.out.last hd.out ha (by omega) hm2 hs2
      have H2 := Lib.hid (And.intro (hc.out.trans hc2 (fun _ _ e => e)) (And.intro hr2 (And.intro (hm.out.trans (hm2.mono (Nat.zero_le _) (Nat.le_refl _))) hBk)))
      clear hc2 hr2 hm2 hs2 hBk
      go_wp2_with fail
      clear hlt hlt' hb1 hb2
      go_loopw [6] (fun v wr => ∃ B : Nat, ∃ M : List Msg, 1 ≤ B ∧ (B ≤ 20 ∨ B < 2 * N) ∧ v = .int .i64 B ∧ Hid (Chg (· = g) w wr) ∧ Hid (RowM wr (slc g N cap) M) ∧ Hid (Mov 0 N L M) ∧ Hid (Blks M B N)) (fun v _ => N - (intOf v).toNat)
      case atStart => exact ⟨20, M2, by omega, Or.inl (Nat.le_refl _), by go_num, Lib.hid H2.out.1, Lib.hid H2.out.2.1, Lib.hid H2.out.2.2.1, Lib.hid H2.out.2.2.2⟩
      case round =>
        obtain ⟨B, M3, hB1, hB2, rfl, hc, hr, hm, hs⟩ := hrel
        by_cases hlt : B < N
        · have w_1 : IntKind.i64.wrap (2 * (B : Int)) = ((2 * B : Nat) : Int) := by rw [IntWalk.i64_in _ (by omega)]; omega
          obtain ⟨C, hC⟩ : ∃ C, C = 2 * B := ⟨_, rfl⟩
          rw [← hC] at w_1
          have hC1 : 2 * B ≤ C := by omega
          have hC2 : C ≤ 2 * B := by omega
          have HC := Lib.hid hC
          clear hC
          go_wp2_with fail
          clear w_1
          obtain ⟨wo, rfl⟩ : ∃ wo : World, wo = wr := ⟨_, rfl⟩
          go_loopw [7, 8] (fun v x wr => ∃ a : Nat, ∃ M : List Msg, a ≤ N ∧ v = .int .i64 a ∧ x = .int .i64 (a + C : Nat) ∧ Hid (2 * B ∣ a) ∧ Hid (Chg (· = g) w wr) ∧ Hid (RowM wr (slc g N cap) M) ∧ Hid (Mov 0 N L M) ∧ Hid (Pass M B N a)) (fun v _ _ => N - (intOf v).toNat)
          case atStart => exact ⟨0, M3, Nat.zero_le _, by go_num, by go_num, Lib.hid ⟨0, by simp⟩, hc, hr, hm, Lib.hid (Pass.start hs.out)⟩
          case round =>
            obtain ⟨a, M, ha, rfl, rfl, hd, hc, hr, hm, hs⟩ := hrel
            have HML : Hid (M.length = N) := Lib.hid (by rw [hm.out.len]; exact HN.out)
            have hr' := hr.out
            rw [← HML.out] at hr'
            obtain ⟨b, hb⟩ : ∃ b, b = a + C := ⟨_, rfl⟩
            obtain ⟨m, hm'⟩ : ∃ m, m = a + B := ⟨_, rfl⟩
            have w_m : IntKind.i64.wrap ((a : Int) + B) = (m : Int) := by rw [IntWalk.i64_in _ (by omega)]; omega
            have hb1 : a + C ≤ b := by omega
            have hb2 : b ≤ a + C := by omega
            have hm1 : a + B ≤ m := by omega
            have hm2 : m ≤ a + B := by omega
            rw [← hb]
            have HB := Lib.hid (And.intro hb hm')
            clear hb hm'
            by_cases hlt : b ≤ N
            · have hru := hs.out.runs hd.out (by omega)
              rw [show a + 2 * B = b by omega, show min b N = b from Nat.min_eq_left hlt, show a + B = m by omega] at hru
              have hro := sym_any (b - a) g cap a m b M wr (Nat.le_refl _) hr' (by omega) (by omega) (by rw [HML.out]; omega) (by rw [HML.out]; omega) hru.1 hru.2
              rw [HML.out] at hro
              have HRO := Lib.hid hro
              clear hro hr' hru
              have w_2 : IntKind.i64.wrap (2 * (B : Int)) = (C : Int) := by rw [IntWalk.i64_in _ (by omega)]; omega
              go_wp2_with fail
              refine HRO.out.mono ?_
              rintro e w2 ⟨rfl, hc2, M4, hr2, hm4, hs2⟩
              have H2 := Lib.hid (And.intro hc2 (And.intro hr2 (And.intro hm4 hs2)))
              clear hc2 hr2 hm4 hs2
              go_wp2_with fail
              have hbe := HB.out.1
              have hce := HC.out
              have hba : b = a + 2 * B := by omega
              exact ⟨⟨b, M4, hlt, rfl, by go_num, Lib.hid (by rw [hba]; exact Nat.dvd_add hd.out (Nat.dvd_refl _)), Lib.hid (hc.out.trans H2.out.1 (fun _ _ e => e)), Lib.hid H2.out.2.1, Lib.hid (hm.out.trans (H2.out.2.2.1.mono (Nat.zero_le _) hlt)), Lib.hid (by rw [hba]; exact hs.out.step hB1 hd.out (by rw [← hba]; exact H2.out.2.2.1) (by rw [← hba]; exact H2.out.2.2.2))⟩, by simp [intOf]; omega⟩
            · have hnlt : N < b := by omega
              have w_2 : IntKind.i64.wrap ((B : Int) * 2) = (C : Int) := by rw [IntWalk.i64_in _ (by omega)]; omega
              by_cases hmn : m < N
              · have hru := hs.out.runs hd.out (by omega)
                rw [show a + 2 * B = b by omega, show min b N = N from Nat.min_eq_right (by omega), show a + B = m by omega] at hru
                have hro := sym_any (N - a) g cap a m N M wr (Nat.le_refl _) hr' (by omega) hmn (by rw [HML.out]; omega) (by rw [HML.out]; omega) hru.1 hru.2
                rw [HML.out] at hro
                have HRO := Lib.hid hro
                clear hro hr' hru
                go_wp2_with fail
                refine HRO.out.mono ?_
                rintro e w2 ⟨rfl, hc2, M4, hr2, hm4, hs2⟩
                have H2 := Lib.hid (And.intro hc2 (And.intro hr2 (And.intro hm4 hs2)))
                clear hc2 hr2 hm4 hs2
                go_wp2_with fail
                exact ⟨⟨C, M4, by omega, Or.inr (by omega), rfl, Lib.hid (hc.out.trans H2.out.1 (fun _ _ e => e)), Lib.hid H2.out.2.1, Lib.hid (hm.out.trans (H2.out.2.2.1.mono (Nat.zero_le _) (Nat.le_refl _))), Lib.hid (by rw [HC.out]; exact hs.out.last hB1 hd.out ha (by omega) H2.out.2.2.1 H2.out.2.2.2)⟩, by simp [intOf]; omega⟩
              · clear hr'
                go_wp2_with fail
                exact ⟨⟨C, M, by omega, Or.inr (by omega), rfl, hc, hr, hm, Lib.hid (by rw [HC.out]; exact hs.out.last hB1 hd.out ha (by omega) (Mov.refl _ _ _) (hs.out.stay hd.out (by omega)))⟩, by simp [intOf]; omega⟩
        · go_wp2_with fail
          go_end0
          have := hs.out 0 (Nat.dvd_zero _)
          rw [Nat.min_eq_right (by omega)] at this
          exact ⟨rfl, hc.out, M3, hr.out, hm.out, this⟩
end Go.Proofs.YtalmjdlcogdpmaaGreatDoor

namespace Go.Proofs.YtalmjdlcogdpmaaGreatDoor
open Go.RowKit
attribute [local go_sem] upUpon_value upUpon_enter upUpon_skip upUpon_row ucUpon_value ucUpon_skip ucUpon_enter ucUpon_row

set_option maxRecDepth 100000 in
set_option maxHeartbeats 2000000 in
theorem insertion_nil (w : World) :
    Calls Tryz.prog 67 #[.slice none 0 0, .int .i64 0, .int .i64 0, ordF] w fun e w' => e = .returned (.tuple #[]) ∧ w' = w := by
  go_enter Tryz.func67, Tryz.ntmps67
  go_wp2_with fail
  go_loopw [8] (fun v wr => v = .int .i64 1 ∧ Hid (w = wr)) (fun v _ => 0)
  case atStart => exact ⟨rfl, Lib.hid rfl⟩
  case round =>
    obtain ⟨rfl, hw⟩ := hrel
    go_wp2
    go_end0
    exact ⟨rfl, hw.out.symm⟩
set_option maxRecDepth 100000 in
set_option maxHeartbeats 2000000 in
theorem stable_nil (w : World) :
    Calls Tryz.prog 55 #[.slice none 0 0, .int .i64 0, ordF] w fun e w' => e = .returned (.tuple #[]) ∧ w' = w := by
  go_enter Tryz.func55, Tryz.ntmps55
  go_wp2_with fail
  go_loopw [7, 8] (fun v x wr => v = .int .i64 0 ∧ x = .int .i64 20 ∧ Hid (w = wr)) (fun v _ _ => 0)
  case atStart => exact ⟨rfl, rfl, Lib.hid rfl⟩
  case round =>
    obtain ⟨rfl, rfl, hw⟩ := hrel
    go_wp2_with fail
    refine (insertion_nil _).mono ?_
    rintro e w2 ⟨rfl, rfl⟩
    go_wp2_with fail
    go_loopw [6] (fun v wr => v = .int .i64 20 ∧ Hid (w = wr)) (fun v _ => 0)
    case atStart => exact ⟨rfl, hw⟩
    case round =>
      obtain ⟨rfl, hw⟩ := hrel
      go_wp2
      go_end0
      exact ⟨rfl, hw.out.symm⟩

theorem OwnR.caseM {w : World} {v : Value} {L : List Msg} (h : RowM w v L) : (v = .slice none 0 0 ∧ L = []) ∨ ∃ g cap, v = slc g L.length cap := by
  rcases h.is with ⟨h1, h2⟩ | ⟨g, cap, h1, _⟩
  · exact .inl ⟨h1, List.eq_nil_of_length_eq_zero h2⟩
  · exact .inr ⟨g, cap, h1⟩

set_option maxRecDepth 100000 in
set_option maxHeartbeats 2000000 in
theorem sortstable_any (v : Value) (L : List Msg) (w : World) (h : RowM w v L) (hn : L.length ≤ 1000000) :
    Calls Tryz.prog 44 #[v, ordF] w fun e w' => e = .returned (.tuple #[]) ∧ Chg (sameBlock v) w w' ∧ ∃ L', RowM w' v L' ∧ L'.Perm L ∧ Srt L' 0 L.length := by
  rcases h.caseM with ⟨rfl, rfl⟩ | ⟨g, cap, rfl⟩
  · have H := Lib.hid h
    clear h
    go_enter Tryz.func44, Tryz.ntmps44
    go_wp2_with fail
    refine (stable_nil _).mono ?_
    rintro e w2 ⟨rfl, rfl⟩
    go_wp2
    go_end0
    exact ⟨rfl, Chg.refl _ _, [], H.out, .refl _, Srt.nil (by simp)⟩
  · have HS := Lib.hid (stable_any g cap L w h hn)
    obtain ⟨N, hN⟩ : ∃ N, L.length = N := ⟨_, rfl⟩
    have HN := Lib.hid hN
    rw [hN] at HS ⊢
    clear h hN hn
    go_enter Tryz.func44, Tryz.ntmps44
    go_wp2_with fail
    refine HS.out.mono ?_
    rintro e w2 ⟨rfl, hc, L', hr, hm, hs⟩
    have H2 := Lib.hid (And.intro hc (And.intro hr (And.intro hm hs)))
    clear hc hr hm hs
    go_wp2
    go_end0
    exact ⟨rfl, H2.out.1.mono (fun k _ e => same_slc.2 e), L', H2.out.2.1, H2.out.2.2.1.perm, H2.out.2.2.2⟩

set_option maxRecDepth 100000 in
set_option maxHeartbeats 2000000 in
theorem clone_any (v : Value) (L : List Msg) (w : World) (h : SrcR w v L.length (msgCells L)) (hnil : v = .slice none 0 0 ∨ ∃ a c, v = .slice (some a) L.length c) (hn : L.length ≤ 1000000) :
    Calls Tryz.prog 43 #[v] w fun e w' => Up w w' ∧ ∃ v', e = .returned v' ∧ RowM w' v' L ∧ ∀ k, sameBlock v' k → w.heap.size ≤ k := by
  have H := Lib.hid h
  have HN := Lib.hid hn
  rcases hnil with rfl | ⟨a, c, rfl⟩
  · have hL : L = [] := by
      rcases h with ⟨_, _, _, h1⟩ | ⟨a, c, h1, _⟩
      · exact List.eq_nil_of_length_eq_zero (by have := msgCells_length L; rw [h1] at this; simp at this; omega)
      · cases h1
    subst hL
    clear h hn
    have hq := fun W => Lib.run_eql_slice_nil (P := Tryz.prog) W 39 43 none 0 0 0 0 Tryz.underlying39
    go_enter Tryz.func43, Tryz.ntmps43
    go_wp2
    go_ret
    exact ⟨Up.refl _, _, rfl, OwnR.nil _ _ _, fun k hk => by simp [sameBlock, Value.ownBlock] at hk⟩
  · obtain ⟨N, hN⟩ : ∃ N, L.length = N := ⟨_, rfl⟩
    have HL := Lib.hid hN
    rw [hN] at H ⊢
    clear h hn hN
    have hq := fun W => Lib.run_eql_slice_nil (P := Tryz.prog) W 39 43 (some a) N c 0 0 Tryz.underlying39
    go_enter Tryz.func43, Tryz.ntmps43
    go_upto_region 3 with (fail)
    have own0 : RowM (w.alloc (.cells #[] 43)) (slc w.heap.size 0 0) [] := ⟨rfl, .inr ⟨w.heap.size, 0, #[], rfl, heap_alloc_new w _, Nat.le_refl _, Nat.zero_le _, Nat.le_refl _, rfl⟩⟩
    have hsrc := H.out.chg (Chg.of_up (S := fun _ => False) (alloc_up w #[] 43)) (fun _ _ e => e)
    rw [← HL.out] at hsrc
    have HX := Lib.hid (And.intro own0 hsrc)
    clear own0 hsrc
    go_wp2_with (at_builtin; refine wpList_appendM rfl (.tmp 5) (.tmp 6) rfl rfl HX.out.1 rfl (by rw [HL.out] at *; exact HX.out.2) (by have := HN.out; simp; omega) ?_)
    intro v' w' hA
    have HA := Lib.hid hA
    clear hA
    go_wp2
    go_ret
    have hh := HA.out
    refine ⟨(((Chg.of_up (alloc_up w #[] 43)).trans hh.chg (fun _ _ e => e)).to_up fun k hk e => ?_), v', rfl, by have := hh.row; rwa [List.nil_append] at this, fun k hk => ?_⟩
    · rw [same_slc] at e; omega
    · rcases hh.new k hk with h1 | h1
      · rw [same_slc] at h1; omega
      · rw [World.size_alloc] at h1; omega

set_option maxRecDepth 100000 in
set_option maxHeartbeats 2000000 in
theorem sortedg_any (v : Value) (L : List Msg) (w : World) (h : SrcR w v L.length (msgCells L)) (hnil : v = .slice none 0 0 ∨ ∃ a c, v = .slice (some a) L.length c) (hn : L.length ≤ 1000000) :
    Calls Tryz.prog 29 #[v, ordF] w fun e w' => Up w w' ∧ ∃ v' L', e = .returned v' ∧ RowM w' v' L' ∧ L'.Perm L ∧ Srt L' 0 L.length ∧ ∀ k, sameBlock v' k → w.heap.size ≤ k := by
  have H := Lib.hid (And.intro h (And.intro hnil hn))
  clear h hnil hn
  go_enter Tryz.func29, Tryz.ntmps29
  go_wp2_with fail
  refine (clone_any v L w H.out.1 H.out.2.1 H.out.2.2).mono ?_
  rintro e w2 ⟨hU, v2, rfl, hr, hnew⟩
  have H2 := Lib.hid (And.intro hU (And.intro hr hnew))
  clear hU hr hnew
  go_wp2_with fail
  refine (sortstable_any v2 L w2 H2.out.2.1 H.out.2.2).mono ?_
  rintro e w3 ⟨rfl, hc, L', hr, hp, hs⟩
  have H3 := Lib.hid (And.intro hc (And.intro hr (And.intro hp hs)))
  clear hc hr hp hs
  go_wp2
  go_ret
  exact ⟨(((Chg.of_up H2.out.1).trans H3.out.1 (fun _ _ e => e)).to_up fun k hk e => by have := H2.out.2.2 k e; omega), v2, L', rfl, H3.out.2.1, H3.out.2.2.1, H3.out.2.2.2, H2.out.2.2⟩
set_option maxRecDepth 100000 in
set_option maxHeartbeats 2000000 in
/-- event.Sorted. -/
theorem sorted_any (v : Value) (L : List Msg) (w : World) (h : SrcR w v L.length (msgCells L)) (hnil : v = .slice none 0 0 ∨ ∃ a c, v = .slice (some a) L.length c) (hn : L.length ≤ 1000000) :
    Calls Tryz.prog 13 #[v] w fun e w' => Up w w' ∧ ∃ v' L', e = .returned v' ∧ RowM w' v' L' ∧ L'.Perm L ∧ Srt L' 0 L.length ∧ ∀ k, sameBlock v' k → w.heap.size ≤ k := by
  have H := Lib.hid (And.intro h (And.intro hnil hn))
  clear h hnil hn
  go_enter Tryz.func13, Tryz.ntmps13
  go_wp2_with fail
  refine (sortedg_any v L w H.out.1 H.out.2.1 H.out.2.2).mono ?_
  rintro e w2 ⟨hU, v2, L', rfl, hr, hp, hs, hnew⟩
  have H2 := Lib.hid (And.intro hU (And.intro hr (And.intro hp (And.intro hs hnew))))
  clear hU hr hp hs hnew
  go_wp2
  go_ret
  exact ⟨H2.out.1, v2, L', rfl, H2.out.2.1, H2.out.2.2.1, H2.out.2.2.2.1, H2.out.2.2.2.2⟩
end Go.Proofs.YtalmjdlcogdpmaaGreatDoor

namespace Go.Proofs.YtalmjdlcogdpmaaGreatDoor
open Go.RowKit
attribute [local go_sem] upUpon_value upUpon_enter upUpon_skip upUpon_row ucUpon_value ucUpon_skip ucUpon_enter ucUpon_row

/-- The ladder stands otherwise, but holds the same. -/
structure LadSame (w w' : World) (q : Nat) (F : Nat → Prop) (A : List Msg) (lv' rv' : Value) (vs' : List Value) (L' : List Msg) (Rs' : List (List Msg)) : Prop where
  is : LadIs w' q lv' rv' vs' L' Rs'
  o : LadO L' Rs'
  perm : (ladAll L' Rs').Perm A
  chg : Chg F w w'
  foot : footNew w F (ladFoot q lv' rv' vs')
theorem LadIs.pop {w w' : World} {q : Nat} {lv rv rv' : Value} {vs : List Value} {L : List Msg} {Rs : List (List Msg)} (x : LadIs w q lv rv vs L Rs) (n : Nat) (hc : Chg (· = q) w w') (hb : Blk w' q [lv, .int .i64 32, rv']) (hg : RowV w' rv' (vs.take n)) (hs : ∀ j, sameBlock rv' j → sameBlock rv j) :
    LadIs w' q lv rv' (vs.take n) L (Rs.take n) ∧ (∀ k, ladFoot q lv rv' (vs.take n) k → ladFoot q lv rv vs k) := by
  refine ⟨⟨hb, x.r.chgM hc fun k hk e => x.ql (by rw [← e]; exact hk), hg, by simp [x.len], fun k v R hv hR => ?_, fun j => (hc.marks _).trans (x.fz j), x.ql, fun h => x.qr (hs q h), fun v hv => x.qv v (List.mem_of_mem_take hv), fun k hk hk2 => x.lr k hk (hs k hk2), fun v hv => x.ls v (List.mem_of_mem_take hv), fun v hv k hk => x.rs v (List.mem_of_mem_take hv) k (hs k hk), fun i j v u hij hv hu => ?_⟩, fun k hk => ?_⟩
  · have hk : k < n := by have := (List.getElem?_eq_some_iff.1 hv).1; simp at this; omega
    rw [List.getElem?_take_of_lt hk] at hv hR
    exact (x.rr k v R hv hR).chgM hc fun j hj e => x.qv v (List.mem_of_getElem? hv) (by rw [← e]; exact hj)
  · have hi : i < n := by have := (List.getElem?_eq_some_iff.1 hv).1; simp at this; omega
    have hj : j < n := by have := (List.getElem?_eq_some_iff.1 hu).1; simp at this; omega
    rw [List.getElem?_take_of_lt hi] at hv
    rw [List.getElem?_take_of_lt hj] at hu
    exact x.ss i j v u hij hv hu
  · rcases hk with h1 | h1 | h1 | ⟨v, hv, h1⟩
    · exact .inl h1
    · exact .inr (.inl h1)
    · exact .inr (.inr (.inl (hs k h1)))
    · exact .inr (.inr (.inr ⟨v, List.mem_of_mem_take hv, h1⟩))
theorem OwnR.takeV {w : World} {e : TypeId} {g n cap k : Nat} {xs : List Value} (h : OwnR w e 1 (.slice (some ⟨g, 0, none⟩) n cap) n xs) (hk : k ≤ n) (c : Nat) (hc1 : k ≤ c) (hc2 : c ≤ cap) : OwnR w e 1 (.slice (some ⟨g, 0, none⟩) k c) k (xs.take k) := by
  have hx := h.1
  refine ⟨by rw [List.length_take]; omega, ?_⟩
  rcases h.2 with ⟨h1, _⟩ | ⟨g', cap', cur, h1, h2, h3, h4, h5, h6⟩
  · cases h1
  · injection h1 with e1 e2 e3
    injection e1 with e1
    injection e1 with e1 _ _
    subst e1 e3
    refine .inr ⟨g, c, cur, rfl, h2, hc1, by omega, by omega, ?_⟩
    rw [← h6, List.take_take]
    congr 1
    omega
theorem take_last {Rs : List (List Msg)} {n : Nat} {R : List Msg} (hn : n + 1 = Rs.length) (hR : Rs[n]? = some R) : Rs = Rs.take n ++ [R] := by
  obtain ⟨h1, h2⟩ := List.getElem?_eq_some_iff.1 hR
  conv => lhs; rw [← List.take_append_drop n Rs]
  congr 1
  rw [List.drop_eq_getElem_cons h1, h2, List.drop_eq_nil_of_le (by omega)]
theorem LadO.fill {Rs : List (List Msg)} {n : Nat} {R L' : List Msg} (o : LadO [] Rs) (hn : n + 1 = Rs.length) (hR : Rs[n]? = some R) (hp : L'.Perm R) (hs : Srt L' 0 R.length) : LadO L' (Rs.take n) ∧ (ladAll L' (Rs.take n)).Perm (ladAll [] Rs) := by
  refine ⟨⟨by rw [hp.length_eq]; exact hs, fun Q hQ => o.ne Q (List.mem_of_mem_take hQ), fun x hx Q hQ y hy => ?_, fun i j Q P hij hQ hP => ?_⟩, ?_⟩
  · obtain ⟨i, hi⟩ := List.getElem?_of_mem hQ
    have hin : i < n := by have := (List.getElem?_eq_some_iff.1 hi).1; simp at this; omega
    rw [List.getElem?_take_of_lt hin] at hi
    exact o.rr i n Q R hin hi hR x (hp.mem_iff.1 hx) y hy
  · have hj : j < n := by have := (List.getElem?_eq_some_iff.1 hP).1; simp at this; omega
    rw [List.getElem?_take_of_lt (by omega)] at hQ
    rw [List.getElem?_take_of_lt hj] at hP
    exact o.rr i j Q P hij hQ hP
  · unfold ladAll
    conv => rhs; rw [take_last hn hR]
    rw [List.flatten_append]
    simp only [List.nil_append, List.flatten_cons, List.flatten_nil, List.append_nil]
    exact (List.Perm.append_right _ hp).trans List.perm_append_comm

set_option maxRecDepth 100000 in
set_option maxHeartbeats 4000000 in
theorem ladfill_any (q : Nat) (lv rv : Value) (vs : List Value) (L : List Msg) (Rs : List (List Msg)) (w : World) (x : LadIs w q lv rv vs L Rs) (o : LadO L Rs) (hn : ladN L Rs ≤ 100000) (hr : Rs.length ≤ 100000) :
    Calls Tryz.prog 153 #[.pointer (some ⟨q, 0, none⟩)] w fun e w' => e = .returned (.tuple #[]) ∧ ∃ lv' rv' vs' L' Rs', LadSame w w' q (ladFoot q lv rv vs) (ladAll L Rs) lv' rv' vs' L' Rs' ∧ (L' = [] → Rs' = []) := by
  have H := Lib.hid (And.intro x (And.intro o hn))
  have HF : Hid (∃ F, ladFoot q lv rv vs = F) := Lib.hid ⟨_, rfl⟩
  clear x o hn
  go_enter Tryz.func153, Tryz.ntmps153
  go_wp2_with fail
  go_loopw [] (fun wr => ∃ K : Nat, Hid (∃ lv' rv' vs' L' Rs', LadSame w wr q (ladFoot q lv rv vs) (ladAll L Rs) lv' rv' vs' L' Rs' ∧ Rs'.length = K) ∧ K ≤ 100000) (fun wr => match wr.cell? ⟨q, 2, none⟩ with | some (.slice _ n _) => n | _ => 0)
  case atStart => exact ⟨Rs.length, Lib.hid ⟨lv, rv, vs, L, Rs, ⟨H.out.1, H.out.2.1, .refl _, Chg.refl _ _, fun k h => .inl h⟩, rfl⟩, hr⟩
  case round =>
    obtain ⟨K, hx, hK⟩ := hrel
    obtain ⟨lv1, rv1, vs1, L1, Rs1, hS, hK1⟩ := hx.out
    obtain ⟨pl, cl, hlv⟩ := OwnR.form hS.is.r
    obtain ⟨pr, cr, hrv⟩ := OwnR.form hS.is.g
    have hKv : vs1.length = K := by rw [hS.is.len]; exact hK1
    have rq := hS.is.b.get
    rw [hlv, hrv, hKv] at rq
    rcases L1 with _ | ⟨m, L1⟩
    · rcases Nat.eq_zero_or_pos K with h0 | h0
      · subst h0
        have HS := Lib.hid (And.intro hS hK1)
        simp only [List.length_nil] at rq
        clear hS hK1 hlv hrv hKv hx
        go_wp2
        go_end0
        exact ⟨rfl, lv1, rv1, vs1, [], Rs1, HS.out.1, fun _ => List.eq_nil_of_length_eq_zero HS.out.2⟩
      · obtain ⟨n, hn⟩ : ∃ n, n = K - 1 := ⟨_, rfl⟩
        have hnK : n < K := by omega
        obtain ⟨v, hv⟩ : ∃ v, vs1[n]? = some v := ⟨vs1[n]'(by rw [hKv]; exact hnK), List.getElem?_eq_getElem _⟩
        obtain ⟨R, hR⟩ : ∃ R, Rs1[n]? = some R := ⟨Rs1[n]'(by rw [hK1]; exact hnK), List.getElem?_eq_getElem _⟩
        obtain ⟨g, cap, hg⟩ := OwnR.pos hS.is.g (by omega)
        have hpg : pr = some ⟨g, 0, none⟩ := by have := hrv; rw [hg] at this; injection this with h1 _ _; exact h1.symm
        have hcell := hS.is.g.cell (g := g) (by rw [hg]; rfl) n v hv
        have hrow := hS.is.rr n v R hv hR
        obtain ⟨pv, cv, hvf⟩ := OwnR.form hrow
        rw [hvf] at hcell
        subst hpg
        have hRl : R.length ≤ 100000 := by
          have h1 := mem_le_sum (Rs1.map List.length) R.length (List.mem_map.2 ⟨R, List.mem_of_getElem? hR, rfl⟩)
          have h2 := H.out.2.2
          have h3 := hS.perm.length_eq
          rw [ladAll_len, ladAll_len] at h3
          unfold ladN at h3 h2
          omega
        have hd : decide ((0 : Int) < (K : Int)) = true := decide_eq_true (by omega)
        have w_n : IntKind.i64.wrap ((K : Int) - 1) = (n : Int) := by rw [IntWalk.i64_in _ (by omega)]; omega
        have HS := Lib.hid (And.intro hS (And.intro hK1 (And.intro hlv (And.intro hrv (And.intro hKv (And.intro hv (And.intro hR (And.intro hvf (And.intro hrow hn)))))))))
        simp only [List.length_nil] at rq
        clear hS hK1 hlv hrv hKv hx hv hR hg hrow hvf hn
        go_wp2_with fail
        have hrow : RowM wr (.slice pv R.length cv) R := by have := HS.out.2.2.2.2.2.2.2.2.1; rw [HS.out.2.2.2.2.2.2.2.1] at this; exact this
        have HRow := Lib.hid hrow
        clear hrow hcell rq
        refine (sorted_any (.slice pv R.length cv) R wr (msgs_src HRow.out) (by
          rcases HRow.out.is with ⟨h1, _⟩ | ⟨g', c', h1, _⟩
          · exact .inl h1
          · exact .inr ⟨_, _, h1⟩) (by omega)).mono ?_
        rintro e w2 ⟨hU2, v2, L2, rfl, hr2, hp2, hs2, hn2⟩
        have hS := HS.out.1
        have x2 := hS.is.up hU2
        have c3 : Chg (· = q) w2 (w2.setCell ⟨q, 0, none⟩ v2) := Chg.setCell (S := (· = q)) (p := ⟨q, 0, none⟩) (Chg.refl _ _) (Or.inl rfl) _
        have b3 := x2.b.set 0 v2 (by simp)
        have hqw : q < wr.heap.size := hS.is.lt q (.inl rfl)
        have r3 := hr2.chgM c3 (fun j hj e => by have := hn2 j hj; omega)
        have hB := hS.is.bottom (((Chg.of_up hU2).trans c3 (fun _ _ e => .inl e)).mono (fun _ _ e => e)) b3 r3 (fun j hj => .inr (hn2 j hj))
        have hF2 : w2.frozen? ⟨q, 0, none⟩ = false := x2.fz 0
        have rq2 := x2.b.get
        rw [HS.out.2.2.1, HS.out.2.2.2.1, HS.out.2.2.2.2.1] at rq2
        simp only [List.length_nil] at rq2
        obtain ⟨p2, cc2, hv2⟩ := OwnR.form hr2
        have H3 := Lib.hid (And.intro hB (And.intro hp2 hs2))
        have hF3 : w2.frozen? ⟨q, 2, none⟩ = false := x2.fz 2
        have rq3 := hB.1.b.get
        rw [HS.out.2.2.2.1, HS.out.2.2.2.2.1] at rq3
        have hcr : n ≤ cr := by
          rcases hS.is.g.is with ⟨h1, h2⟩ | ⟨_, _, h1, h2⟩
          · have := HS.out.2.2.2.2.1; omega
          · rw [HS.out.2.2.2.1] at h1; injection h1 with _ h3 h4; have := HS.out.2.2.2.2.1; omega
        have c4 : Chg (· = q) (w2.setCell ⟨q, 0, none⟩ v2) ((w2.setCell ⟨q, 0, none⟩ v2).setCell ⟨q, 2, none⟩ (.slice (some ⟨g, 0, none⟩) n cr)) := Chg.setCell (S := (· = q)) (p := ⟨q, 2, none⟩) (Chg.refl _ _) (Or.inl rfl) _
        have b4 := hB.1.b.set 2 (.slice (some ⟨g, 0, none⟩) n cr) (by simp)
        have hg3 := hB.1.g
        unfold RowV at hg3
        rw [HS.out.2.2.2.1, HS.out.2.2.2.2.1] at hg3
        have hg4 : RowV ((w2.setCell ⟨q, 0, none⟩ v2).setCell ⟨q, 2, none⟩ (.slice (some ⟨g, 0, none⟩) n cr)) (.slice (some ⟨g, 0, none⟩) n cr) (vs1.take n) := by
          have h1 := OwnR.takeV hg3 (show n ≤ K by omega) cr hcr (Nat.le_refl _)
          have h2 := OwnR.chg h1 c4 (fun j hj e => hS.is.qr (by rw [HS.out.2.2.2.1, ← e]; exact hj))
          unfold RowV
          rw [List.length_take, HS.out.2.2.2.2.1, Nat.min_eq_left (by omega)]
          exact h2
        have hP := hB.1.pop n c4 b4 hg4 (fun j hj => by rw [HS.out.2.2.2.1]; exact hj)
        have hO := LadO.fill (n := n) (R := R) (L' := L2) hS.o (by have h1 := HS.out.2.2.2.2.2.2.2.2.2; have h2 := HS.out.2.1; omega) HS.out.2.2.2.2.2.2.1 hp2 hs2
        have hSame : LadSame w ((w2.setCell ⟨q, 0, none⟩ v2).setCell ⟨q, 2, none⟩ (.slice (some ⟨g, 0, none⟩) n cr)) q (ladFoot q lv rv vs) (ladAll L Rs) v2 (.slice (some ⟨g, 0, none⟩) n cr) (vs1.take n) L2 (Rs1.take n) :=
          ⟨hP.1, hO.1, hO.2.trans hS.perm, (hS.chg.trans hB.2.1 (fun k hk e => by
            rcases hS.foot k e with h1 | h1
            · exact h1
            · omega)).trans c4 (fun k hk e => by
            rcases hS.foot q (.inl rfl) with h1 | h1
            · exact e ▸ h1
            · exact e ▸ absurd (e ▸ hk) (by omega)), fun k hk => by
            rcases hB.2.2 k (hP.2 k hk) with h1 | h1
            · exact hS.foot k h1
            · exact .inr (Nat.le_trans hS.chg.size h1)⟩
        have hlt : (Rs1.take n).length = n := by rw [List.length_take]; have := HS.out.2.1; omega
        have hm4 : (match ((w2.setCell ⟨q, 0, none⟩ v2).setCell ⟨q, 2, none⟩ (.slice (some ⟨g, 0, none⟩) n cr)).cell? ⟨q, 2, none⟩ with | some (.slice _ n _) => n | _ => 0) = n := by rw [b4.at (i := 2) rfl]
        have hmr : (match wr.cell? ⟨q, 2, none⟩ with | some (.slice _ n _) => n | _ => 0) = K := by rw [hS.is.b.at (i := 2) rfl, HS.out.2.2.2.1, HS.out.2.2.2.2.1]
        rw [hv2] at hSame rq3 hm4 ⊢
        have H4 := Lib.hid (And.intro hSame (And.intro hlt (And.intro hm4 hmr)))
        clear hB hp2 hs2 hn2 hr2 x2 c3 b3 r3 c4 b4 hg3 hg4 hP hO hSame hlt hm4 hmr hS H3 hv2 hU2
        clear w_n hd
        go_wp2
        exact ⟨⟨n, Lib.hid ⟨_, _, _, _, _, H4.out.1, H4.out.2.1⟩, by omega⟩, by rw [H4.out.2.2.1, H4.out.2.2.2]; exact hnK⟩
    · have hne : (((m :: L1).length : Int) == 0) = false := by rw [beq_eq_false_iff_ne]; simp; omega
      have HS := Lib.hid (And.intro hS hK1)
      obtain ⟨N, hN⟩ : ∃ N, (m :: L1).length = N := ⟨_, rfl⟩
      rw [hN] at rq hne
      have hne2 : (N == 0) = false := by rw [beq_eq_false_iff_ne]; intro h; rw [h] at hN; simp at hN
      clear hS hK1 hlv hrv hKv hx hN
      go_wp2
      go_end0
      exact ⟨rfl, lv1, rv1, vs1, m :: L1, Rs1, HS.out.1, fun h => by cases h⟩
end Go.Proofs.YtalmjdlcogdpmaaGreatDoor
