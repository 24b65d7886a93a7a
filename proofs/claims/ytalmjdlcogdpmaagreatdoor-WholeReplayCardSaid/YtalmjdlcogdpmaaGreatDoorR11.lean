/- Contracts and plain laws for the statement of this claim; no condition. Here: package ladder: First, remove, Pop. package ladder: Pop. package pend: over one of three queues: what does not hang on the kind. package pend: Push, First, Pop: what does not hang on the kind. package pend: a queue of whichever kind. package pend: New. isochrontop.next. log.Log.states: the iterator over the entries, with the state ahead of each. log.Log.All. -/
import Derived.Test.YtalmjdlcogdpmaaGreatDoorR10
import Derived.Test.YtalmjdlcogdpmaaGreatDoorR9
import Derived.Test.YtalmjdlcogdpmaaGreatDoorR4
import Derived.Test.YtalmjdlcogdpmaaGreatDoorR6
import Derived.Test.YtalmjdlcogdpmaaGreatDoorR7
import Derived.Test.YtalmjdlcogdpmaaGreatDoorR5
import Derived.RangeFuncSeq
import Derived.TacticsInMore
import Derived.Deep.CutRange
import Derived.Deep.CutBlock
set_option linter.unusedVariables false
set_option linter.unusedSimpArgs false

namespace Go.Proofs.YtalmjdlcogdpmaaGreatDoor
open Go.RowKit
attribute [local go_sem] upUpon_value upUpon_enter upUpon_skip upUpon_row ucUpon_value ucUpon_skip ucUpon_enter ucUpon_row

theorem footNew.trans {w w' : World} {F F' F'' : Nat → Prop} (h : footNew w F F') (k : footNew w' F' F'') (hs : w.heap.size ≤ w'.heap.size) : footNew w F F'' := fun j hj => by
  rcases k j hj with h1 | h1
  · exact h j h1
  · exact .inr (Nat.le_trans hs h1)
/-- One change of a foot behind another. -/
theorem Chg.foot {w w' w'' : World} {F F' : Nat → Prop} (h : Chg F w w') (hf : footNew w F F') (k : Chg F' w' w'') : Chg F w w'' := h.trans k fun j hj e => by
  rcases hf j e with h1 | h1
  · exact h1
  · omega
theorem LadSame.up {w w' w'' : World} {q : Nat} {F : Nat → Prop} {A : List Msg} {lv rv : Value} {vs : List Value} {L : List Msg} {Rs : List (List Msg)} (h : LadSame w w' q F A lv rv vs L Rs) (hu : Up w' w'') : LadSame w w'' q F A lv rv vs L Rs :=
  ⟨h.is.up hu, h.o, h.perm, h.chg.up hu, h.foot⟩
theorem LadO.least {L : List Msg} {Rs : List (List Msg)} {m : Msg} (o : LadO L Rs) (h : L[0]? = some m) : ∀ y ∈ ladAll L Rs, befB y m = false := by
  intro y hy
  rcases List.mem_append.1 hy with h1 | h1
  · obtain ⟨i, hi⟩ := List.getElem?_of_mem h1
    exact o.s.le (Nat.le_refl _) (Nat.zero_le _) (List.getElem?_eq_some_iff.1 hi).1 h hi
  · obtain ⟨R, hR, hyR⟩ := List.mem_flatten.1 h1
    exact o.lb m (List.mem_of_getElem? h) R hR y hyR

set_option maxRecDepth 100000 in
set_option maxHeartbeats 2000000 in
theorem ladfirst_any (q : Nat) (lv rv : Value) (vs : List Value) (L : List Msg) (Rs : List (List Msg)) (w : World) (x : LadIs w q lv rv vs L Rs) (o : LadO L Rs) (hn : ladN L Rs ≤ 100000) (hr : Rs.length ≤ 100000) :
    Calls Tryz.prog 149 #[.pointer (some ⟨q, 0, none⟩)] w fun e w' => ∃ lv' rv' vs' L' Rs', LadSame w w' q (ladFoot q lv rv vs) (ladAll L Rs) lv' rv' vs' L' Rs' ∧ (L' = [] → Rs' = []) ∧ FirstSays L' e := by
  have hqw : q < w.heap.size := x.lt q (.inl rfl)
  have H := Lib.hid (And.intro x (And.intro o (And.intro hn hr)))
  clear x o hn hr
  go_enter Tryz.func149, Tryz.ntmps149
  go_upto_region 1 with (fail)
  refine wp_alloc1 (A := zeroMsg.list) fun W1 hU1 hs1 bR => ?_
  have X1 := Lib.hid (And.intro (H.out.1.up hU1) (And.intro hU1 (And.intro bR hs1)))
  clear hU1 hs1 bR
  go_wp2_with fail
  refine (ladnone_any q W1 (X1.out.1.b.at (i := 1) rfl)).mono ?_
  rintro e w2 ⟨rfl, rfl⟩
  go_wp2_with fail
  refine (ladfill_any q lv rv vs L Rs w2 X1.out.1 H.out.2.1 H.out.2.2.1 H.out.2.2.2).mono ?_
  rintro e w3 ⟨rfl, lv3, rv3, vs3, L3, Rs3, hS, hne⟩
  have hft : ¬ ladFoot q lv rv vs w.heap.size := fun h => by have := H.out.1.lt _ h; omega
  have bR3 := X1.out.2.2.1.chg hS.chg hft
  have hU1 := X1.out.2.1
  have hS0 : LadSame w w3 q (ladFoot q lv rv vs) (ladAll L Rs) lv3 rv3 vs3 L3 Rs3 := ⟨hS.is, hS.o, hS.perm, (Chg.of_up hU1).trans hS.chg (fun _ _ e => e), fun k hk => (hS.foot k hk).imp id (fun h => Nat.le_trans hU1.1.size h)⟩
  obtain ⟨p, c, hlv⟩ := OwnR.form hS.is.r
  have rq := hS.is.b.get
  rw [hlv] at rq
  have hwn : ¬ ladFoot q lv3 rv3 vs3 w.heap.size := fun h => by
    rcases hS.foot _ h with h1 | h1
    · exact hft h1
    · have := X1.out.2.2.2; omega
  have hF : ∀ j, w3.frozen? ⟨w.heap.size, j, none⟩ = false := fun j => (hS0.chg.marks _).trans (frozen_new _ _ (Nat.le_refl _))
  have rR := bR3.get
  simp only [zeroMsg, Msg.list] at rR
  rcases L3 with _ | ⟨m, L3⟩
  · have bR4 := Blk.sets zeroMsg.list 0 bR3 (by simp [zeroMsg])
    have cR4 : Chg (· = w.heap.size) w3 (w3.setCells w.heap.size 0 zeroMsg.list) := Chg.setCells (S := (· = w.heap.size)) (Or.inl rfl) zeroMsg.list 0 (Chg.refl _ w3)
    have HS := Lib.hid (And.intro hS0 (And.intro hne (And.intro bR4 cR4)))
    have HW := Lib.hid hwn
    simp only [List.length_nil] at rq
    clear hS hS0 hne hlv hwn hft bR3 bR4 cR4 hU1
    go_wp2
    obtain ⟨z1, z2, z3, z4⟩ := HS.out
    exact bodyPost_ret (w := w3.setCells w.heap.size 0 zeroMsg.list) (results_blk_tmp rfl rfl z3 Tryz.underlying43 rfl infoMsgN) rfl ⟨lv3, rv3, vs3, [], Rs3, ⟨z1.is.chg z4 (fun k hk e => HW.out (e ▸ hk)), z1.o, z1.perm, z1.chg.trans z4 (fun k hk e => by omega), z1.foot⟩, fun _ => z2 trivial, .inl ⟨rfl, rfl⟩⟩
  · obtain ⟨N, hN⟩ : ∃ N, (m :: L3).length = N := ⟨_, rfl⟩
    obtain ⟨g, cap, hv, hbe⟩ := OwnR.atM hS.is.r (i := 0) (m := m) rfl
    have hpg : p = some ⟨g, 0, none⟩ := by have := hlv; rw [hv] at this; injection this with h1 _ _; exact h1.symm
    subst hpg
    rw [Nat.zero_mul] at hbe
    have rE := hbe.blk0.get
    rw [hN] at rq
    have hN1 : 0 < N := by rw [← hN]; simp
    have hd : ((N : Int) == 0) = false := by rw [beq_eq_false_iff_ne]; omega
    have hd2 : (N == 0) = false := by rw [beq_eq_false_iff_ne]; omega
    have bR4 := Blk.sets m.list 0 bR3 (by simp [zeroMsg])
    have cR4 : Chg (· = w.heap.size) w3 (w3.setCells w.heap.size 0 m.list) := Chg.setCells (S := (· = w.heap.size)) (Or.inl rfl) m.list 0 (Chg.refl _ w3)
    have HS := Lib.hid (And.intro hS0 (And.intro hne (And.intro bR4 cR4)))
    have HW := Lib.hid hwn
    clear hS hS0 hne hlv hwn hft bR3 bR4 cR4 hU1 hN hv hbe
    go_wp2
    obtain ⟨z1, z2, z3, z4⟩ := HS.out
    exact bodyPost_ret (w := w3.setCells w.heap.size 0 m.list) (results_blk_tmp rfl rfl z3 Tryz.underlying43 rfl infoMsgN) rfl ⟨lv3, rv3, vs3, m :: L3, Rs3, ⟨z1.is.chg z4 (fun k hk e => HW.out (e ▸ hk)), z1.o, z1.perm, z1.chg.trans z4 (fun k hk e => by omega), z1.foot⟩, z2, .inr ⟨m, rfl, rfl⟩⟩

set_option maxRecDepth 100000 in
set_option maxHeartbeats 2000000 in
theorem ladremove_any (q : Nat) (lv x1 x2 : Value) (L : List Msg) (i : Nat) (m : Msg) (w : World) (hb : Blk w q [lv, x1, x2]) (hr : RowM w lv L) (hf : ∀ j, w.frozen? ⟨q, j, none⟩ = false) (hq : ¬ sameBlock lv q) (hn : L.length ≤ 100000) (hm : L[i]? = some m) :
    Calls Tryz.prog 155 #[.pointer (some ⟨q, 0, none⟩), .int .i64 i] w fun e w' => e = .returned m.val ∧ Chg (fun k => k = q ∨ sameBlock lv k) w w' ∧ ∃ lv', Blk w' q [lv', x1, x2] ∧ RowM w' lv' (L.eraseIdx i) ∧ ∀ j, sameBlock lv' j → sameBlock lv j ∨ w.heap.size ≤ j := by
  obtain ⟨N, hN⟩ : ∃ N, L.length = N := ⟨_, rfl⟩
  have hqw : q < w.heap.size := hb.lt (by simp)
  have hiN : i < N := by have := (List.getElem?_eq_some_iff.1 hm).1; omega
  obtain ⟨g, cap, hv, hbe⟩ := OwnR.atM hr hm
  rw [hN] at hv hn
  have hcap : N ≤ cap := by
    rcases hr.is with ⟨h1, h2⟩ | ⟨_, _, h1, h2⟩
    · omega
    · rw [hv] at h1; injection h1 with _ h3 h4; omega
  have hgw : g < w.heap.size := OwnR.block_lt hr g (by rw [hv]; rfl)
  have H := Lib.hid (And.intro hb (And.intro hr (And.intro hf (And.intro hq (And.intro hv (And.intro hN (And.intro hm hbe)))))))
  have r0 := hb.get
  rw [hv] at r0
  have rE := hbe.get
  have rE0 := hbe.zero
  clear hb hr hf hq hv hN hm hbe
  go_enter Tryz.func155, Tryz.ntmps155
  go_upto_region 1 with (fail)
  refine wp_alloc1 (A := zeroMsg.list) fun W1 hU1 hs1 bR => ?_
  have r0 := (H.out.1.up hU1).get
  rw [H.out.2.2.2.2.1] at r0
  have rE := (H.out.2.2.2.2.2.2.2.up hU1).get
  have rE0 := (H.out.2.2.2.2.2.2.2.up hU1).zero
  have X1 := Lib.hid (And.intro hU1 (And.intro bR hs1))
  have hs1' : w.heap.size + 1 ≤ W1.heap.size := by omega
  clear hU1 hs1 bR
  go_upto_region 2 with (fail)
  refine wp_alloc1 (A := m.list) fun W2 hU2 hs2 bX => ?_
  obtain ⟨X, hX⟩ : ∃ X, W1.heap.size = X := ⟨_, rfl⟩
  rw [hX] at bX hs1' hs2
  simp only [hX]
  have hU02 := X1.out.1.trans hU2
  have b2 := H.out.1.up hU02
  rw [H.out.2.2.2.2.1] at b2
  have X2 := Lib.hid (And.intro hU02 (And.intro (X1.out.2.1.up hU2) (And.intro bX hs2)))
  clear r0 rE rE0 hU02 hU2 bX hX
  have kq := b2.lift
  obtain ⟨e, he⟩ : ∃ e, e = i + 1 := ⟨_, rfl⟩
  have w_e : IntKind.i64.wrap ((i : Int) + 1) = (e : Int) := by rw [IntWalk.i64_in _ (by omega)]; omega
  have h1 : i ≤ cap := by omega
  have h2 : e ≤ N := by omega
  have he1 : i + 1 ≤ e := by omega
  have he2 : e ≤ i + 1 := by omega
  have HE := Lib.hid he
  clear he hs2
  refine region_upL [0] [0, 1, 2, 3, 4, 5, 6, 7, 8, 9, 10, 11, 12, 13] [] 14 [15, 16, 17] (by kernel_rfl) (by kernel_rfl) (fun d _ _ _ _ h => by cases d <;> exact h) ?_
  simp only [getOps, List.getElem?_cons_zero, List.getElem?_cons_succ]
  repeat (first | (apply wpUp_pure rfl; (focus (intro W; go_simp; rfl))) | (apply wpUp_step rfl rfl; (focus (intro W hU; go_simp; exact ⟨rfl, Up.refl _⟩))); go_simp)
  refine wpUp_nil fun W3 hW3 => ?_
  refine wpNew_nil fun W4 hW4 => ?_
  clear kq w_e
  have hU24 := (up_drew.trans hW3).trans hW4
  have hU04 := X2.out.1.trans hU24
  have row4 := H.out.2.1.upM hU04
  rw [H.out.2.2.2.2.1] at row4
  have hsrc : SrcR W4 (.slice (if cap = e then some (⟨g, 0, none⟩ : Addr) else some ⟨g, e * 7, none⟩) (N - e) (cap - e)) (L.drop e).length (msgCells (L.drop e)) := by
    have hdl : (L.drop e).length = N - e := by rw [List.length_drop, H.out.2.2.2.2.2.1]
    rw [hdl]
    by_cases hce : cap = e
    · rw [if_pos hce]
      have h0 : N - e = 0 := by omega
      have hnil : L.drop e = [] := List.eq_nil_of_length_eq_zero (by omega)
      rw [h0, hnil]
      exact .inr ⟨_, _, rfl, fun j u hj => by simp [msgCells] at hj⟩
    · rw [if_neg hce]
      refine .inr ⟨_, _, rfl, fun j u hj => ?_⟩
      rw [Addr.add_mid]
      rw [msgCells_drop, List.getElem?_drop] at hj
      exact row4.cell (g := g) rfl _ _ hj
  refine wpList_appendM rfl (.tmp 19) (.tmp 26) rfl rfl (row4.takeM (k := i) (by rw [H.out.2.2.2.2.2.1]; omega) cap h1 (Nat.le_refl _)) rfl hsrc (by rw [List.length_take, List.length_drop, H.out.2.2.2.2.2.1]; omega) fun v' W5 hA => ?_
  have hgq : g ≠ q := fun e => H.out.2.2.2.1 (by rw [H.out.2.2.2.2.1, ← e]; rfl)
  have hcg : Chg (· = g) W4 W5 := hA.chg.mono (fun k _ e => same_slc.1 e)
  have b5 := (b2.up hU24).chg hcg (fun e => hgq e.symm)
  have c5 : Chg (fun k => k = q ∨ sameBlock lv k) w W5 := ((Chg.of_up hU04).trans hcg (fun _ _ e => e)).mono (fun k _ e => .inr (by rw [H.out.2.2.2.2.1]; exact same_slc.2 e))
  have hs4 : X < W4.heap.size := ((X2.out.2.2.1.up hU24)).lt (by simp)
  have hnw : ∀ j, sameBlock v' j → sameBlock lv j ∨ X < j := fun j hj => by
    rcases hA.new j hj with h3 | h3
    · left; rw [H.out.2.2.2.2.1]; exact h3
    · right; omega
  have hqv : ¬ sameBlock v' q := fun h => by
    rcases hnw q h with h3 | h3
    · exact H.out.2.2.2.1 h3
    · omega
  clear hs4
  have b6 := b5.set 0 v' (by simp)
  have c6 : Chg (· = q) W5 (W5.setCell ⟨q, 0, none⟩ v') := Chg.setCell (S := (· = q)) (p := ⟨q, 0, none⟩) (Chg.refl _ _) (Or.inl rfl) _
  have r6 := hA.row.chgM c6 (fun j hj e => hqv (by rw [← e]; exact hj))
  rw [HE.out, ← List.eraseIdx_eq_take_drop_succ] at r6
  have hF5 : W5.frozen? ⟨q, 0, none⟩ = false := (c5.marks _).trans (H.out.2.2.1 0)
  have rq5 := b5.get
  have bX6 := ((X2.out.2.2.1.up hU24).chg hcg (fun e => by omega)).chg c6 (fun e => by omega)
  have bR6 := ((X2.out.2.1.up hU24).chg hcg (fun e => by omega)).chg c6 (fun e => by omega)
  have c06 := c5.trans c6 (fun _ _ e => .inl e)
  obtain ⟨p', c', hv'⟩ := OwnR.form r6
  have H6 := Lib.hid (And.intro b6 (And.intro r6 (And.intro hnw (And.intro c06 (And.intro bX6 bR6)))))
  rw [hv'] at H6 ⊢
  clear b5 c5 hnw hqv b6 c6 r6 bX6 bR6 c06 hv' hcg hsrc row4 hA hU04 h1 h2
  generalize (if cap = e then some (⟨g, 0, none⟩ : Addr) else some ⟨g, e * 7, none⟩) = dp
  go_upto_region 3 with (fail)
  generalize (W5.setCell ⟨q, 0, none⟩ (.slice p' (L.eraseIdx i).length c')) = W6 at *
  have rX := H6.out.2.2.2.2.1.get
  have rR := H6.out.2.2.2.2.2.get
  have hF : ∀ j, W6.frozen? ⟨w.heap.size, j, none⟩ = false := fun j => (H6.out.2.2.2.1.marks _).trans (frozen_new _ _ (Nat.le_refl _))
  have bR7 := Blk.sets m.list 0 H6.out.2.2.2.2.2 (by simp [zeroMsg])
  have cR7 : Chg (· = w.heap.size) W6 (W6.setCells w.heap.size 0 m.list) := Chg.setCells (S := (· = w.heap.size)) (Or.inl rfl) m.list 0 (Chg.refl _ W6)
  have HR := Lib.hid (And.intro bR7 cR7)
  simp only [zeroMsg, Msg.list] at rR
  clear bR7 cR7
  go_wp2
  obtain ⟨z1, z2, z3, z4, z5, z6⟩ := H6.out
  refine bodyPost_ret (w := W6.setCells w.heap.size 0 m.list) (results_blk rfl rfl HR.out.1 Tryz.underlying43 rfl infoMsgN) rfl ⟨rfl, z4.trans HR.out.2 (fun k hk e => by omega), _, z1.chg HR.out.2 (fun e => by omega), z2.chgM HR.out.2 (fun j hj e => ?_), fun j hj => (z3 j hj).imp id (fun h => by omega)⟩
  rcases z3 j hj with h3 | h3
  · have := OwnR.block_lt H.out.2.1 j h3; omega
  · omega
end Go.Proofs.YtalmjdlcogdpmaaGreatDoor

namespace Go.Proofs.YtalmjdlcogdpmaaGreatDoor
open Go.RowKit
attribute [local go_sem] upUpon_value upUpon_enter upUpon_skip upUpon_row ucUpon_value ucUpon_skip ucUpon_enter ucUpon_row

theorem LadO.tail {m : Msg} {L : List Msg} {Rs : List (List Msg)} (o : LadO (m :: L) Rs) : LadO L Rs :=
  ⟨fun i j x y h1 h2 h3 hx hy => o.s (i + 1) (j + 1) x y (Nat.zero_le _) (by omega) (by simp; omega) (by simpa using hx) (by simpa using hy), o.ne, fun x hx => o.lb x (List.mem_cons_of_mem _ hx), o.rr⟩

set_option maxRecDepth 100000 in
set_option maxHeartbeats 2000000 in
theorem ladpop_any (q : Nat) (lv rv : Value) (vs : List Value) (L : List Msg) (Rs : List (List Msg)) (w : World) (x : LadIs w q lv rv vs L Rs) (o : LadO L Rs) (hn : ladN L Rs ≤ 100000) (hr : Rs.length ≤ 100000) (hne : ladAll L Rs ≠ []) :
    Calls Tryz.prog 151 #[.pointer (some ⟨q, 0, none⟩)] w fun e w' => ∃ m lv' rv' vs' L' Rs', e = .returned (.tuple #[m.val, .int .i64 0]) ∧ LadIs w' q lv' rv' vs' L' Rs' ∧ LadO L' Rs' ∧ (m :: ladAll L' Rs').Perm (ladAll L Rs) ∧ (∀ y ∈ ladAll L Rs, befB y m = false) ∧ Chg (ladFoot q lv rv vs) w w' ∧ footNew w (ladFoot q lv rv vs) (ladFoot q lv' rv' vs') := by
  have hqw : q < w.heap.size := x.lt q (.inl rfl)
  have H := Lib.hid (And.intro x (And.intro o (And.intro hn (And.intro hr hne))))
  clear x o hn hr hne
  go_enter Tryz.func151, Tryz.ntmps151
  go_upto_region 1 with (fail)
  refine wp_alloc1 (A := zeroMsg.list) fun W1 hU1 hs1 bR => ?_
  have X1 := Lib.hid (And.intro (H.out.1.up hU1) (And.intro hU1 (And.intro bR hs1)))
  clear hU1 hs1 bR
  go_wp2_with fail
  refine (ladfirst_any q lv rv vs L Rs W1 X1.out.1 H.out.2.1 H.out.2.2.1 H.out.2.2.2.1).mono ?_
  rintro e w2 ⟨lv2, rv2, vs2, L2, Rs2, hS, hnil, hf⟩
  obtain ⟨m, T, rfl, rfl⟩ : ∃ m T, L2 = m :: T ∧ e = .returned (.tuple #[m.val, .int .i64 0]) := by
    rcases hf with ⟨h1, _⟩ | ⟨m, h1, h2⟩
    · exfalso
      have h3 := hnil h1
      have := hS.perm
      rw [h1, h3] at this
      exact H.out.2.2.2.2 (List.Perm.eq_nil this.symm)
    · rcases L2 with _ | ⟨m', T⟩
      · simp at h1
      · simp at h1; subst h1; exact ⟨m', T, rfl, h2⟩
  clear hf hnil
  have hft : ¬ ladFoot q lv rv vs w.heap.size := fun h => by have := H.out.1.lt _ h; omega
  have bR2 := X1.out.2.2.1.chg hS.chg hft
  have hs2 : w.heap.size + 1 ≤ w2.heap.size := by have := hS.chg.size; have := X1.out.2.2.2; omega
  have X2 := Lib.hid (And.intro hS (And.intro bR2 hft))
  clear hS bR2 hft
  go_upto_region 2 with (fail)
  refine wp_alloc1 (A := m.list) fun W3 hU3 hs3 bX => ?_
  obtain ⟨X, hX⟩ : ∃ X, w2.heap.size = X := ⟨_, rfl⟩
  rw [hX] at bX hs2
  simp only [hX]
  have x3 := X2.out.1.is.up hU3
  have HP := Lib.hid (ladremove_any q lv2 (.int .i64 32) rv2 (m :: T) 0 m W3 x3.b x3.r x3.fz x3.ql (by
    have h1 := H.out.2.2.1
    have h2 := X2.out.1.perm.length_eq
    rw [ladAll_len, ladAll_len] at h2
    unfold ladN at h1 h2
    omega) rfl)
  have X3 := Lib.hid (And.intro x3 (And.intro hU3 (And.intro (X2.out.2.1.up hU3) (And.intro bX hX))))
  clear x3 hU3 hs3 bX hX
  go_wp2_with fail
  refine HP.out.mono ?_
  rintro e w4 ⟨rfl, hc, lv4, hb4, hr4, hn4⟩
  have hB := X3.out.1.bottom hc hb4 hr4 hn4
  have c04 : Chg (ladFoot q lv rv vs) w w4 := ((((Chg.of_up X1.out.2.1).trans X2.out.1.chg (fun _ _ e => e)).up X3.out.2.1)).trans hB.2.1 (fun k hk e => by
    rcases X2.out.1.foot k e with h1 | h1
    · exact h1
    · have := X1.out.2.1.1.size; omega)
  have hwn : ¬ ladFoot q lv2 rv2 vs2 w.heap.size := fun h => by
    rcases X2.out.1.foot _ h with h1 | h1
    · exact X2.out.2.2 h1
    · have := X1.out.2.2.2; omega
  have hXn : ¬ ladFoot q lv2 rv2 vs2 X := fun h => by
    have h2 := X2.out.1.is.lt _ h
    have h3 := X3.out.2.2.2.2
    omega
  have bR4 := X3.out.2.2.1.chg hB.2.1 hwn
  have bX4 := X3.out.2.2.2.1.chg hB.2.1 hXn
  have rX := bX4.get
  have rR := bR4.get
  have hF : ∀ j, w4.frozen? ⟨w.heap.size, j, none⟩ = false := fun j => (c04.marks _).trans (frozen_new _ _ (Nat.le_refl _))
  have bR5 := Blk.sets m.list 0 bR4 (by simp [zeroMsg])
  have cR5 : Chg (· = w.heap.size) w4 (w4.setCells w.heap.size 0 m.list) := Chg.setCells (S := (· = w.heap.size)) (Or.inl rfl) m.list 0 (Chg.refl _ w4)
  have H5 := Lib.hid (And.intro bR5 (And.intro cR5 (And.intro c04 (And.intro hB hwn))))
  simp only [zeroMsg, Msg.list] at rR
  clear bR5 cR5 c04 hB hwn hXn bR4 bX4 hc hb4 hr4 hn4
  go_wp2
  obtain ⟨z1, z2, z3, z4, z5⟩ := H5.out
  have hnw3 : w.heap.size + 1 ≤ W3.heap.size := by have := X3.out.2.1.1.size; have := X3.out.2.2.2.2; omega
  refine bodyPost_ret (w := w4.setCells w.heap.size 0 m.list) (results_blk_tmp rfl rfl z1 Tryz.underlying43 rfl infoMsgN) rfl ⟨m, lv4, rv2, vs2, T, Rs2, rfl, z4.1.chg z2 (fun k hk e => ?_), X2.out.1.o.tail, X2.out.1.perm, fun y hy => ?_, z3.trans z2 (fun k hk e => by omega), fun k hk => ?_⟩
  · rcases z4.2.2 k hk with h1 | h1
    · exact z5 (e ▸ h1)
    · omega
  · exact (X2.out.1.o.least rfl) y (X2.out.1.perm.mem_iff.2 hy)
  · rcases z4.2.2 k hk with h1 | h1
    · rcases X2.out.1.foot k h1 with h2 | h2
      · exact .inl h2
      · exact .inr (Nat.le_trans X1.out.2.1.1.size h2)
    · exact .inr (by omega)
end Go.Proofs.YtalmjdlcogdpmaaGreatDoor

namespace Go.Proofs.YtalmjdlcogdpmaaGreatDoor
open Go.RowKit
attribute [local go_sem] upUpon_value upUpon_enter upUpon_skip upUpon_row ucUpon_value ucUpon_skip ucUpon_enter ucUpon_row

abbrev ptrV (a : Nat) : Value := .pointer (some ⟨a, 0, none⟩)
theorem pend_nil (ty : TypeId) (v : Value) (w : World) : (binOp .eql 64 (.iface ty v) .nilIface).run Tryz.prog w = .ok (.bool false) w := run_eql_iface_nil' ty v w Tryz.underlying64
set_option maxHeartbeats 1000000 in
theorem pendnone_any (q : Nat) (ty : TypeId) (v : Value) (w : World) (hb : w.cell? ⟨q, 0, none⟩ = some (.iface ty v)) : Calls Tryz.prog 26 #[ptrV q] w fun e w' => e = .returned (.bool false) ∧ w' = w := by
  have hq := pend_nil ty v
  go_enter Tryz.func26, Tryz.ntmps26
  go_wp2
  go_ret
  exact ⟨rfl, rfl⟩
/-- A method by its name, and that it is a function of the program. -/
structure Meth (ty : TypeId) (name : String) (fn : FuncId) : Prop where
  m : ∀ v w, (Go.method 355 ty v name).run Tryz.prog w = .ok (fn, v) w
  c : ∀ args w, (callFunc fn args).run Tryz.prog w = .ok (.enter fn args) w
theorem callFunc_of {f : FuncId} {fn : Func} (hf : Tryz.prog.funcs[f]? = some fn) (hname : (fn.name == "runtime.NumGoroutine") = false) (hb : fn.body.isSome = true) (args : Array Value) (w : World) : (callFunc f args).run Tryz.prog w = .ok (.enter f args) w := by
  have h1 : fn.name ≠ "runtime.NumGoroutine" := by simpa using hname
  obtain ⟨c, hc⟩ := Option.isSome_iff_exists.1 hb
  simp [callFunc, hf, h1, hc]
set_option maxRecDepth 100000 in
set_option maxHeartbeats 1000000 in
theorem pendlen_of (q a : Nat) (ty : TypeId) (fn : FuncId) (hM : Meth ty "Len" fn) (N : Nat) (w : World) (hb : w.cell? ⟨q, 0, none⟩ = some (.iface ty (ptrV a)))
    (hc : Calls Tryz.prog fn #[ptrV a] w fun e w' => w = w' ∧ e = .returned (.int .i64 N)) : Calls Tryz.prog 12 #[ptrV q] w fun e w' => w = w' ∧ e = .returned (.int .i64 N) := by
  have HC := Lib.hid hc
  have hm := hM.m
  have hcf := hM.c
  clear hc hM
  go_enter Tryz.func12, Tryz.ntmps12
  go_wp2_with fail
  refine (pendnone_any q ty _ w hb).mono ?_
  rintro e w1 ⟨rfl, rfl⟩
  go_wp2_with fail
  refine HC.out.mono ?_
  rintro e w2 ⟨rfl, rfl⟩
  clear hm hcf
  go_wp2
  go_ret
  exact ⟨rfl, rfl⟩
theorem methHeapLen : Meth 87 "Len" 122 := ⟨fun v w => by kernel_rfl, fun args w => callFunc_of Tryz.func122 (by kernel_rfl) (by kernel_rfl) args w⟩
theorem methCalLen : Meth 89 "Len" 136 := ⟨fun v w => by kernel_rfl, fun args w => callFunc_of Tryz.func136 (by kernel_rfl) (by kernel_rfl) args w⟩
theorem methLadLen : Meth 92 "Len" 150 := ⟨fun v w => by kernel_rfl, fun args w => callFunc_of Tryz.func150 (by kernel_rfl) (by kernel_rfl) args w⟩
end Go.Proofs.YtalmjdlcogdpmaaGreatDoor

namespace Go.Proofs.YtalmjdlcogdpmaaGreatDoor
open Go.RowKit
attribute [local go_sem] upUpon_value upUpon_enter upUpon_skip upUpon_row ucUpon_value ucUpon_skip ucUpon_enter ucUpon_row

set_option maxRecDepth 100000 in
set_option maxHeartbeats 2000000 in
theorem pendpush_of (q a : Nat) (ty : TypeId) (fn : FuncId) (hM : Meth ty "Push" fn) (m : Msg) (w : World) (R : World → Prop) (hb : w.cell? ⟨q, 0, none⟩ = some (.iface ty (ptrV a)))
    (hc : ∀ W, Up w W → Calls Tryz.prog fn #[ptrV a, m.val] W fun e w' => e = .returned (.int .i64 0) ∧ R w') : Calls Tryz.prog 10 #[ptrV q, m.val] w fun e w' => e = .returned (.int .i64 0) ∧ R w' := by
  have HC := Lib.hid (And.intro hM (And.intro hc hb))
  clear hc hM hb
  simp only [Msg.val]
  go_enter Tryz.func10, Tryz.ntmps10
  go_upto_region 1 with (fail)
  refine wp_alloc1 (A := m.list) fun W1 hU1 hs1 bM => ?_
  have hb1 := cell_up hU1 HC.out.2.2
  go_wp2_with fail
  refine (pendnone_any q ty _ W1 hb1).mono ?_
  rintro e w1 ⟨rfl, rfl⟩
  go_upto_region 3 with (fail)
  have kM := bM.lift
  have kq := liftC hb1
  refine region_upL0 [0, 1, 2, 3, 4] [] 5 [6] (by kernel_rfl) (by kernel_rfl) ?_
  simp only [getOps, List.getElem?_cons_zero, List.getElem?_cons_succ]
  repeat (apply wpUp_step rfl rfl; (focus (intro W hU; go_simp; exact ⟨rfl, Up.refl _⟩)); go_simp)
  refine wpUp_nil fun W2 hW2 => ?_
  refine wpNew_nil fun W3 hW3 => ?_
  have HX := Lib.hid (HC.out.2.1 W3 (hU1.trans ((up_drew.trans hW2).trans hW3)))
  have hm := HC.out.1.m
  have hcf := HC.out.1.c
  clear kM kq hU1 hW2 hW3 hb1 bM
  go_wp2_with fail
  refine HX.out.mono ?_
  rintro e w4 ⟨rfl, hR⟩
  clear hm hcf HX
  go_wp2
  go_ret
  exact ⟨rfl, hR⟩
set_option maxRecDepth 100000 in
set_option maxHeartbeats 2000000 in
theorem pendfirst_of (q a : Nat) (ty : TypeId) (fn : FuncId) (hM : Meth ty "First" fn) (w : World) (F : Nat → Prop) (R : Msg → World → Prop) (hb : w.cell? ⟨q, 0, none⟩ = some (.iface ty (ptrV a))) (hF : ∀ k, F k → k < w.heap.size)
    (hRc : ∀ m w' w'', R m w' → Chg (· = w.heap.size) w' w'' → R m w'')
    (hc : ∀ W, Up w W → w.heap.size < W.heap.size → Calls Tryz.prog fn #[ptrV a] W fun e w' => ∃ m : Msg, e = .returned (.tuple #[m.val, .int .i64 0]) ∧ Chg F W w' ∧ R m w') : Calls Tryz.prog 27 #[ptrV q] w fun e w' => ∃ m : Msg, e = .returned (.tuple #[m.val, .int .i64 0]) ∧ R m w' := by
  have HC := Lib.hid (And.intro hM (And.intro hc (And.intro hb (And.intro hF hRc))))
  clear hc hM hb hF hRc
  go_enter Tryz.func27, Tryz.ntmps27
  go_upto_region 1 with (fail)
  refine wp_alloc1 (A := zeroMsg.list) fun W1 hU1 hs1 bR => ?_
  have hb1 := cell_up hU1 HC.out.2.2.1
  have X1 := Lib.hid (And.intro hU1 (And.intro bR hs1))
  clear hU1 bR hs1
  go_wp2_with fail
  refine (pendnone_any q ty _ W1 hb1).mono ?_
  rintro e w1 ⟨rfl, rfl⟩
  have hm := HC.out.1.m
  have hcf := HC.out.1.c
  have HX := Lib.hid (HC.out.2.1 w1 X1.out.1 (by have := X1.out.2.2; omega))
  go_wp2_with fail
  refine HX.out.mono ?_
  rintro e w4 ⟨m, rfl, hc4, hR⟩
  clear hm hcf HX hb1
  have bR4 := X1.out.2.1.chg hc4 (fun h => by have := HC.out.2.2.2.1 _ h; omega)
  have hFz : ∀ j, w4.frozen? ⟨w.heap.size, j, none⟩ = false := fun j => (hc4.marks _).trans (new_free w (.map #[] 0) X1.out.1 j _ (Nat.le_refl _))
  have rR := bR4.get
  simp only [zeroMsg, Msg.list] at rR
  have bR5 := Blk.sets m.list 0 bR4 (by simp [zeroMsg])
  have c5 : Chg (· = w.heap.size) w4 (w4.setCells w.heap.size 0 m.list) := Chg.setCells (S := (· = w.heap.size)) (Or.inl rfl) m.list 0 (Chg.refl _ _)
  have H5 := Lib.hid (And.intro bR5 (And.intro c5 hR))
  clear bR5 c5 hR bR4 hc4
  go_wp2
  exact bodyPost_ret (w := w4.setCells w.heap.size 0 m.list) (results_blk_tmp rfl rfl H5.out.1 Tryz.underlying43 rfl infoMsgN) rfl ⟨m, rfl, HC.out.2.2.2.2 _ _ _ H5.out.2.2 H5.out.2.1⟩
set_option maxRecDepth 100000 in
set_option maxHeartbeats 2000000 in
theorem pendpop_of (q a : Nat) (ty : TypeId) (fn : FuncId) (hM : Meth ty "Pop" fn) (w : World) (F : Nat → Prop) (R : Msg → World → Prop) (hb : w.cell? ⟨q, 0, none⟩ = some (.iface ty (ptrV a))) (hF : ∀ k, F k → k < w.heap.size)
    (hRc : ∀ m w' w'', R m w' → Chg (· = w.heap.size) w' w'' → R m w'')
    (hc : ∀ W, Up w W → w.heap.size < W.heap.size → Calls Tryz.prog fn #[ptrV a] W fun e w' => ∃ m : Msg, e = .returned (.tuple #[m.val, .int .i64 0]) ∧ Chg F W w' ∧ R m w') : Calls Tryz.prog 28 #[ptrV q] w fun e w' => ∃ m : Msg, e = .returned (.tuple #[m.val, .int .i64 0]) ∧ R m w' := by
  have HC := Lib.hid (And.intro hM (And.intro hc (And.intro hb (And.intro hF hRc))))
  clear hc hM hb hF hRc
  go_enter Tryz.func28, Tryz.ntmps28
  go_upto_region 1 with (fail)
  refine wp_alloc1 (A := zeroMsg.list) fun W1 hU1 hs1 bR => ?_
  have hb1 := cell_up hU1 HC.out.2.2.1
  have X1 := Lib.hid (And.intro hU1 (And.intro bR hs1))
  clear hU1 bR hs1
  go_wp2_with fail
  refine (pendnone_any q ty _ W1 hb1).mono ?_
  rintro e w1 ⟨rfl, rfl⟩
  have hm := HC.out.1.m
  have hcf := HC.out.1.c
  have HX := Lib.hid (HC.out.2.1 w1 X1.out.1 (by have := X1.out.2.2; omega))
  go_wp2_with fail
  refine HX.out.mono ?_
  rintro e w4 ⟨m, rfl, hc4, hR⟩
  clear hm hcf HX hb1
  have bR4 := X1.out.2.1.chg hc4 (fun h => by have := HC.out.2.2.2.1 _ h; omega)
  have hFz : ∀ j, w4.frozen? ⟨w.heap.size, j, none⟩ = false := fun j => (hc4.marks _).trans (new_free w (.map #[] 0) X1.out.1 j _ (Nat.le_refl _))
  have rR := bR4.get
  simp only [zeroMsg, Msg.list] at rR
  have bR5 := Blk.sets m.list 0 bR4 (by simp [zeroMsg])
  have c5 : Chg (· = w.heap.size) w4 (w4.setCells w.heap.size 0 m.list) := Chg.setCells (S := (· = w.heap.size)) (Or.inl rfl) m.list 0 (Chg.refl _ _)
  have H5 := Lib.hid (And.intro bR5 (And.intro c5 hR))
  clear bR5 c5 hR bR4 hc4
  go_wp2
  exact bodyPost_ret (w := w4.setCells w.heap.size 0 m.list) (results_blk_tmp rfl rfl H5.out.1 Tryz.underlying43 rfl infoMsgN) rfl ⟨m, rfl, HC.out.2.2.2.2 _ _ _ H5.out.2.2 H5.out.2.1⟩
theorem methHeapPush : Meth 87 "Push" 124 := ⟨fun v w => by kernel_rfl, fun args w => callFunc_of Tryz.func124 (by kernel_rfl) (by kernel_rfl) args w⟩
theorem methHeapFirst : Meth 87 "First" 121 := ⟨fun v w => by kernel_rfl, fun args w => callFunc_of Tryz.func121 (by kernel_rfl) (by kernel_rfl) args w⟩
theorem methHeapPop : Meth 87 "Pop" 123 := ⟨fun v w => by kernel_rfl, fun args w => callFunc_of Tryz.func123 (by kernel_rfl) (by kernel_rfl) args w⟩
theorem methCalPush : Meth 89 "Push" 138 := ⟨fun v w => by kernel_rfl, fun args w => callFunc_of Tryz.func138 (by kernel_rfl) (by kernel_rfl) args w⟩
theorem methCalFirst : Meth 89 "First" 135 := ⟨fun v w => by kernel_rfl, fun args w => callFunc_of Tryz.func135 (by kernel_rfl) (by kernel_rfl) args w⟩
theorem methCalPop : Meth 89 "Pop" 137 := ⟨fun v w => by kernel_rfl, fun args w => callFunc_of Tryz.func137 (by kernel_rfl) (by kernel_rfl) args w⟩
theorem methLadPush : Meth 92 "Push" 152 := ⟨fun v w => by kernel_rfl, fun args w => callFunc_of Tryz.func152 (by kernel_rfl) (by kernel_rfl) args w⟩
theorem methLadFirst : Meth 92 "First" 149 := ⟨fun v w => by kernel_rfl, fun args w => callFunc_of Tryz.func149 (by kernel_rfl) (by kernel_rfl) args w⟩
theorem methLadPop : Meth 92 "Pop" 151 := ⟨fun v w => by kernel_rfl, fun args w => callFunc_of Tryz.func151 (by kernel_rfl) (by kernel_rfl) args w⟩
end Go.Proofs.YtalmjdlcogdpmaaGreatDoor

namespace Go.Proofs.YtalmjdlcogdpmaaGreatDoor
open Go.RowKit

/-- The object behind the interface: its type, its block, all that it may write, what waits in it. -/
inductive ObjIs (W : World) : TypeId → Nat → (Nat → Prop) → List Msg → Prop
  | heap (h : Nat) (v : Value) (K : List Msg) : HeapIs W h v K → HeapO K → ObjIs W 87 h (heapFoot h v) K
  | cal (q b : Nat) (es : List (Int × Value)) (D : Int → List Msg) (n : Nat) : CalIs W q b es D n → CalO es D n → ObjIs W 89 q (calFoot q b es) (calAll es D)
  | lad (q : Nat) (lv rv : Value) (vs : List Value) (L : List Msg) (Rs : List (List Msg)) : LadIs W q lv rv vs L Rs → LadO L Rs → ObjIs W 92 q (ladFoot q lv rv vs) (ladAll L Rs)
section
variable {W W' : World} {ty : TypeId} {a : Nat} {F : Nat → Prop} {K : List Msg} {m : Msg} {t : Nat}
theorem ObjIs.chg {S : Nat → Prop} (x : ObjIs W ty a F K) (hc : Chg S W W') (hS : ∀ k, F k → ¬ S k) : ObjIs W' ty a F K := by
  cases x with
  | heap h v K x o => exact .heap _ _ _ (x.chg hc hS) o
  | cal q b es D n x o => exact .cal _ _ _ _ _ (x.chg hc hS) o
  | lad q lv rv vs L Rs x o => exact .lad _ _ _ _ _ _ (x.chg hc hS) o
theorem ObjIs.up (x : ObjIs W ty a F K) (hu : Up W W') : ObjIs W' ty a F K := x.chg (S := fun _ => False) (.of_up hu) fun _ _ e => e
theorem ObjIs.lt (x : ObjIs W ty a F K) : ∀ k, F k → k < W.heap.size := by
  cases x with
  | heap h v K x o => exact x.lt
  | cal q b es D n x o => exact x.lt
  | lad q lv rv vs L Rs x o => exact x.lt
theorem lad_small {L : List Msg} {Rs : List (List Msg)} (o : LadO L Rs) {n : Nat} (h : (ladAll L Rs).length ≤ n) : ladN L Rs ≤ n ∧ Rs.length ≤ n := by
  have h1 : ladN L Rs ≤ n := by
    rw [ladAll_len] at h
    exact h
  refine ⟨h1, ?_⟩
  have h2 : ∀ Qs : List (List Msg), (∀ R ∈ Qs, R ≠ []) → Qs.length ≤ (Qs.map List.length).sum := fun Qs => by
    induction Qs with
    | nil => simp
    | cons R r ih =>
      intro h
      have h3 := ih (fun x hx => h x (by simp [hx]))
      have h4 := List.length_pos_iff.2 (h R (by simp))
      simp at h3 ⊢
      omega
  have := h2 Rs o.ne
  unfold ladN at h1
  exact Nat.le_trans this (by omega)
theorem heap_least {L : List Msg} {m : Msg} (o : HeapO L) (h : L[0]? = some m) : ∀ y ∈ L, befB y m = false := fun y hy => by
  obtain ⟨j, hj⟩ := List.getElem?_of_mem hy
  exact o.root j (List.getElem?_eq_some_iff.1 hj).1 m y h hj
theorem ObjIs.len (x : ObjIs W ty a F K) (hn : K.length ≤ 60) : ∃ fn, Meth ty "Len" fn ∧ Calls Tryz.prog fn #[ptrV a] W fun e w' => W = w' ∧ e = .returned (.int .i64 K.length) := by
  cases x with
  | heap h v K x o => exact ⟨_, methHeapLen, (heaplen_any _ _ _ _ x).mono fun e w' h => ⟨h.2, h.1⟩⟩
  | cal q b es D n x o => exact ⟨_, methCalLen, (callen_any _ _ _ _ _ _ x).mono fun e w' h => ⟨h.2.symm, by rw [h.1, o.tot]⟩⟩
  | lad q lv rv vs L Rs x o =>
    have hs := lad_small o hn
    exact ⟨_, methLadLen, (ladlen_any _ _ _ _ _ _ _ x (by omega) (by omega)).mono fun e w' h => ⟨h.1, by rw [h.2, ladAll_len]⟩⟩
theorem ObjIs.push (x : ObjIs W ty a F K) (hn : K.length ≤ 60) (hmt : m.t = t) (ht : t ≤ 2000000000) (no : ∀ y ∈ K, ¬ (y.f = m.f ∧ y.u = m.u)) :
    ∃ fn, Meth ty "Push" fn ∧ ∀ W', Up W W' → Calls Tryz.prog fn #[ptrV a, m.val] W' fun e w' => e = .returned (.int .i64 0) ∧ ∃ F' K', ObjIs w' ty a F' K' ∧ K'.Perm (m :: K) ∧ Chg F W' w' ∧ footNew W' F F' := by
  cases x with
  | heap h v K x o => exact ⟨_, methHeapPush, fun W' hU => (heapPush_any _ _ m _ W' (x.up hU) (by omega) o no).mono fun e w' h => by
      obtain ⟨h1, h2, v', L', h3, h4, h5, h6⟩ := h
      exact ⟨h1, _, _, .heap _ _ _ h3 h5, h4.trans (List.perm_append_comm), h2, fun k hk => hk.elim (fun e => .inl (.inl e)) (fun e => (h6 k e).imp (fun e => .inr e) id)⟩⟩
  | cal q b es D n x o =>
    have := o.tot
    exact ⟨_, methCalPush, fun W' hU => (calpush_any _ _ _ _ _ m t W' (x.up hU) o (by omega) hmt ht no).mono fun e w' h => by
      obtain ⟨h1, es', D', n', h2, h3⟩ := h
      exact ⟨h1, _, _, .cal _ _ _ _ _ h2.is h2.o, h3, h2.chg.mono (fun j _ hj => hj.elim .inl (fun e => .inr (.inl e))), h2.foot⟩⟩
  | lad q lv rv vs L Rs x o =>
    have hs := lad_small o hn
    exact ⟨_, methLadPush, fun W' hU => (ladPush_any _ _ _ _ _ _ m W' (x.up hU) o (by omega) (by omega) no).mono fun e w' h => by
      obtain ⟨h1, lv', rv', vs', L', Rs', h2⟩ := h
      exact ⟨h1, _, _, .lad _ _ _ _ _ _ h2.is h2.o, h2.perm.trans (List.perm_append_comm), h2.chg, h2.foot⟩⟩
theorem ObjIs.first (x : ObjIs W ty a F K) (hn : K.length ≤ 60) (hne : K ≠ []) (hb : ∀ y ∈ K, y.t ≤ 2000000000) :
    ∃ fn, Meth ty "First" fn ∧ ∀ W', Up W W' → Calls Tryz.prog fn #[ptrV a] W' fun e w' => ∃ m : Msg, e = .returned (.tuple #[m.val, .int .i64 0]) ∧ m ∈ K ∧ (∀ y ∈ K, befB y m = false) ∧ ∃ F' K', ObjIs w' ty a F' K' ∧ K'.Perm K ∧ Chg F W' w' ∧ footNew W' F F' := by
  cases x with
  | heap h v K x o => exact ⟨_, methHeapFirst, fun W' hU => (heapfirst_any _ _ _ W' (x.up hU)).mono fun e w' h => by
      obtain ⟨h1, h2⟩ := h
      rcases h2 with ⟨h3, _⟩ | ⟨m, h3, h4⟩
      · exact absurd h3 hne
      · exact ⟨m, h4, List.mem_of_getElem? h3, heap_least o h3, _, _, .heap _ _ _ ((x.up hU).up h1) o, List.Perm.refl _, .of_up h1, fun k hk => .inl hk⟩⟩
  | cal q b es D n x o =>
    have := o.tot
    exact ⟨_, methCalFirst, fun W' hU => (calfirst_any _ _ _ _ _ W' (x.up hU) o hb (by omega)).mono fun e w' h => by
      obtain ⟨h1, h2⟩ := h
      rcases h2 with ⟨h3, _⟩ | ⟨k, m, r, h3, h4, h5⟩
      · exact absurd (by rw [h3]; rfl) hne
      · rcases h5 with ⟨h6, _⟩ | ⟨m', h6, h7⟩
        · cases h6
        · simp at h6
          subst h6
          obtain ⟨v, hv, _⟩ := id h3
          exact ⟨m, h7, mem_calAll.2 ⟨_, hv, by simp [h4]⟩, o.least h3 h4, _, _, .cal _ _ _ _ _ ((x.up hU).up h1) o, List.Perm.refl _, .of_up h1, fun k hk => .inl hk⟩⟩
  | lad q lv rv vs L Rs x o =>
    have hs := lad_small o hn
    exact ⟨_, methLadFirst, fun W' hU => (ladfirst_any _ _ _ _ _ _ W' (x.up hU) o (by omega) (by omega)).mono fun e w' h => by
      obtain ⟨lv', rv', vs', L', Rs', h1, h2, h3⟩ := h
      rcases h3 with ⟨h4, _⟩ | ⟨m, h4, h5⟩
      · have h6 := h1.perm
        rw [h4, h2 h4] at h6
        exact absurd (List.Perm.eq_nil h6.symm) hne
      · rcases L' with _ | ⟨m', T⟩
        · cases h4
        · simp at h4
          subst h4
          exact ⟨m', h5, h1.perm.mem_iff.1 (by simp [ladAll]), fun y hy => (h1.o.least rfl) y (h1.perm.mem_iff.2 hy), _, _, .lad _ _ _ _ _ _ h1.is h1.o, h1.perm, h1.chg, h1.foot⟩⟩
theorem ObjIs.pop (x : ObjIs W ty a F K) (hn : K.length ≤ 60) (hne : K ≠ []) (hb : ∀ y ∈ K, y.t ≤ 2000000000) :
    ∃ fn, Meth ty "Pop" fn ∧ ∀ W', Up W W' → Calls Tryz.prog fn #[ptrV a] W' fun e w' => ∃ m : Msg, e = .returned (.tuple #[m.val, .int .i64 0]) ∧ (∀ y ∈ K, befB y m = false) ∧ ∃ F' K', ObjIs w' ty a F' K' ∧ (m :: K').Perm K ∧ Chg F W' w' ∧ footNew W' F F' := by
  cases x with
  | heap h v K x o =>
    rcases K with _ | ⟨m, T⟩
    · exact absurd rfl hne
    · exact ⟨_, methHeapPop, fun W' hU => (heapPop_any _ _ m _ W' (x.up hU) (by omega) o rfl).mono fun e w' h => by
        obtain ⟨h1, h2, v', L', h3, h4, h5, h6⟩ := h
        exact ⟨m, h1, heap_least o rfl, _, _, .heap _ _ _ h3 h5, (h4.cons m).trans (by simp), h2, fun k hk => hk.elim (fun e => .inl (.inl e)) (fun e => .inl (.inr (h6 k e)))⟩⟩
  | cal q b es D n x o =>
    have := o.tot
    exact ⟨_, methCalPop, fun W' hU => (calpop_any _ _ _ _ _ W' (x.up hU) o hb (by omega) hne).mono fun e w' h => by
      obtain ⟨m, es', D', n', h1, h2, h3, h4⟩ := h
      exact ⟨m, h1, h4, _, _, .cal _ _ _ _ _ h2.is h2.o, h3, h2.chg.mono (fun j _ hj => hj.elim .inl (fun e => .inr (.inl e))), h2.foot⟩⟩
  | lad q lv rv vs L Rs x o =>
    have hs := lad_small o hn
    exact ⟨_, methLadPop, fun W' hU => (ladpop_any _ _ _ _ _ _ W' (x.up hU) o (by omega) (by omega) hne).mono fun e w' h => by
      obtain ⟨m, lv', rv', vs', L', Rs', h1, h2, h3, h4, h5, h6, h7⟩ := h
      exact ⟨m, h1, h5, _, _, .lad _ _ _ _ _ _ h2 h3, h4, h6, h7⟩⟩
end

/-- A queue in memory: block q holds it; F is all that it may write; L what waits, in some order. -/
structure QIs (W : World) (q : Nat) (F : Nat → Prop) (L : List Msg) : Prop where
  ex : ∃ ty a K, W.cell? ⟨q, 0, none⟩ = some (.iface ty (ptrV a)) ∧ ObjIs W ty a F K ∧ K.Perm L
  nq : ¬ F q
section
variable {W W' : World} {q : Nat} {F : Nat → Prop} {L : List Msg} {m : Msg} {t : Nat}
theorem QIs.lt (x : QIs W q F L) : ∀ k, (k = q ∨ F k) → k < W.heap.size := fun k hk => by
  obtain ⟨ty, a, K, h1, h2, h3⟩ := x.ex
  rcases hk with rfl | hk
  · exact World.block_lt_of_cell? W _ h1
  · exact h2.lt k hk
theorem QIs.chg {S : Nat → Prop} (x : QIs W q F L) (hc : Chg S W W') (hS : ∀ k, (k = q ∨ F k) → ¬ S k) : QIs W' q F L := by
  obtain ⟨ty, a, K, h1, h2, h3⟩ := x.ex
  exact ⟨⟨ty, a, K, hc.cell (hS q (.inl rfl)) h1, h2.chg hc (fun k hk => hS k (.inr hk)), h3⟩, x.nq⟩
theorem QIs.up (x : QIs W q F L) (hu : Up W W') : QIs W' q F L := x.chg (S := fun _ => False) (.of_up hu) fun _ _ e => e
/-- What a change of a queue leaves. -/
structure QTo (w w' : World) (q : Nat) (F F' : Nat → Prop) (L' : List Msg) : Prop where
  is : QIs w' q F' L'
  chg : Chg F w w'
  foot : footNew w F F'
theorem pendlen_any (w : World) (x : QIs w q F L) (hn : L.length ≤ 60) : Calls Tryz.prog 12 #[ptrV q] w fun e w' => w = w' ∧ e = .returned (.int .i64 L.length) := by
  obtain ⟨ty, a, K, h1, h2, h3⟩ := x.ex
  obtain ⟨fn, hM, hc⟩ := h2.len (by rw [h3.length_eq]; exact hn)
  rw [h3.length_eq] at hc
  exact pendlen_of q a ty fn hM _ w h1 hc
theorem pendpush_any (w : World) (x : QIs w q F L) (hn : L.length ≤ 60) (hmt : m.t = t) (ht : t ≤ 2000000000) (no : ∀ y ∈ L, ¬ (y.f = m.f ∧ y.u = m.u)) :
    Calls Tryz.prog 10 #[ptrV q, m.val] w fun e w' => e = .returned (.int .i64 0) ∧ ∃ F', QTo w w' q F F' (m :: L) := by
  obtain ⟨ty, a, K, h1, h2, h3⟩ := x.ex
  obtain ⟨fn, hM, hc⟩ := h2.push (m := m) (t := t) (by rw [h3.length_eq]; exact hn) hmt ht (fun y hy => no y (h3.mem_iff.1 hy))
  refine pendpush_of q a ty fn hM m w _ h1 fun W hU => (hc W hU).mono fun e w' h => ⟨h.1, ?_⟩
  obtain ⟨F', K', k1, k2, k3, k4⟩ := h.2
  have c : Chg F w w' := (Chg.of_up hU).trans k3 (fun _ _ e => e)
  refine ⟨F', ⟨⟨ty, a, K', c.cell x.nq h1, k1, k2.trans (h3.cons m)⟩, fun hF => ?_⟩, c, fun k hk => (k4 k hk).imp id (fun h => Nat.le_trans hU.1.size h)⟩
  rcases k4 q hF with h | h
  · exact x.nq h
  · have := x.lt q (.inl rfl); have := hU.1.size; omega
theorem pendfirst_any (w : World) (x : QIs w q F L) (hn : L.length ≤ 60) (hne : L ≠ []) (hb : ∀ y ∈ L, y.t ≤ 2000000000) :
    Calls Tryz.prog 27 #[ptrV q] w fun e w' => ∃ m : Msg, e = .returned (.tuple #[m.val, .int .i64 0]) ∧ (m ∈ L ∧ (∀ y ∈ L, befB y m = false) ∧ ∃ F', QTo w w' q F F' L) := by
  obtain ⟨ty, a, K, h1, h2, h3⟩ := x.ex
  obtain ⟨fn, hM, hc⟩ := h2.first (by rw [h3.length_eq]; exact hn) (fun h => hne (by rw [h] at h3; exact List.Perm.eq_nil h3.symm)) (fun y hy => hb y (h3.mem_iff.1 hy))
  refine (pendfirst_of q a ty fn hM w F (fun m w' => m ∈ L ∧ (∀ y ∈ L, befB y m = false) ∧ ∃ F', QTo w w' q F F' L ∧ ¬ F' w.heap.size) h1 (fun k hk => x.lt k (.inr hk)) (fun m w' w'' h hcc => ?_) fun W hU hs => (hc W hU).mono fun e w' h => ?_).mono fun e w' h => ?_
  · obtain ⟨g1, g2, F', g3, g4⟩ := h
    exact ⟨g1, g2, F', ⟨g3.is.chg hcc (fun k hk e => by
      rcases hk with rfl | hk
      · have := x.lt k (.inl rfl); omega
      · exact g4 (e ▸ hk)), g3.chg.trans hcc (fun j hj e => by omega), g3.foot⟩, g4⟩
  · obtain ⟨m, g1, g2, g3, F', K', k1, k2, k3, k4⟩ := h
    have c : Chg F w w' := (Chg.of_up hU).trans k3 (fun _ _ e => e)
    refine ⟨m, g1, k3, h3.mem_iff.1 g2, fun y hy => g3 y (h3.mem_iff.2 hy), F', ⟨⟨⟨ty, a, K', c.cell x.nq h1, k1, k2.trans h3⟩, fun hF => ?_⟩, c, fun k hk => (k4 k hk).imp id (fun h => Nat.le_trans hU.1.size h)⟩, fun hF => ?_⟩
    · rcases k4 q hF with h | h
      · exact x.nq h
      · have := x.lt q (.inl rfl); omega
    · rcases k4 _ hF with h | h
      · have := x.lt _ (.inr h); omega
      · omega
  · obtain ⟨m, g1, g2, g3, F', g4, _⟩ := h
    exact ⟨m, g1, g2, g3, F', g4⟩
theorem pendpop_any (w : World) (x : QIs w q F L) (hn : L.length ≤ 60) (hne : L ≠ []) (hb : ∀ y ∈ L, y.t ≤ 2000000000) :
    Calls Tryz.prog 28 #[ptrV q] w fun e w' => ∃ m : Msg, e = .returned (.tuple #[m.val, .int .i64 0]) ∧ (∀ y ∈ L, befB y m = false) ∧ ∃ F' L', (m :: L').Perm L ∧ QTo w w' q F F' L' := by
  obtain ⟨ty, a, K, h1, h2, h3⟩ := x.ex
  obtain ⟨fn, hM, hc⟩ := h2.pop (by rw [h3.length_eq]; exact hn) (fun h => hne (by rw [h] at h3; exact List.Perm.eq_nil h3.symm)) (fun y hy => hb y (h3.mem_iff.1 hy))
  refine (pendpop_of q a ty fn hM w F (fun m w' => (∀ y ∈ L, befB y m = false) ∧ ∃ F' L', (m :: L').Perm L ∧ QTo w w' q F F' L' ∧ ¬ F' w.heap.size) h1 (fun k hk => x.lt k (.inr hk)) (fun m w' w'' h hcc => ?_) fun W hU hs => (hc W hU).mono fun e w' h => ?_).mono fun e w' h => ?_
  · obtain ⟨g2, F', L', g1, g3, g4⟩ := h
    exact ⟨g2, F', L', g1, ⟨g3.is.chg hcc (fun k hk e => by
      rcases hk with rfl | hk
      · have := x.lt k (.inl rfl); omega
      · exact g4 (e ▸ hk)), g3.chg.trans hcc (fun j hj e => by omega), g3.foot⟩, g4⟩
  · obtain ⟨m, g1, g3, F', K', k1, k2, k3, k4⟩ := h
    have c : Chg F w w' := (Chg.of_up hU).trans k3 (fun _ _ e => e)
    refine ⟨m, g1, k3, fun y hy => g3 y (h3.mem_iff.2 hy), F', K', k2.trans h3, ⟨⟨⟨ty, a, K', c.cell x.nq h1, k1, List.Perm.refl _⟩, fun hF => ?_⟩, c, fun k hk => (k4 k hk).imp id (fun h => Nat.le_trans hU.1.size h)⟩, fun hF => ?_⟩
    · rcases k4 q hF with h | h
      · exact x.nq h
      · have := x.lt q (.inl rfl); omega
    · rcases k4 _ hF with h | h
      · have := x.lt _ (.inr h); omega
      · omega
  · obtain ⟨m, g1, g3, F', L', g2, g4, _⟩ := h
    exact ⟨m, g1, g3, F', L', g2, g4⟩
end
end Go.Proofs.YtalmjdlcogdpmaaGreatDoor

namespace Go.Proofs.YtalmjdlcogdpmaaGreatDoor
open Go.RowKit
attribute [local go_sem] upUpon_value upUpon_enter upUpon_skip upUpon_row ucUpon_value ucUpon_skip ucUpon_enter ucUpon_row

def FreshSays (w : World) (e : Ending) (w' : World) : Prop := ∃ ty a F, e = .returned (.iface ty (ptrV a)) ∧ Up w w' ∧ ObjIs w' ty a F [] ∧ ∀ k, F k → w.heap.size ≤ k
set_option maxRecDepth 100000 in
set_option maxHeartbeats 2000000 in
theorem fresh_any (c : Nat) (hc : c < 3) (w : World) : Calls Tryz.prog 18 #[.int .i64 c] w (FreshSays w) := by
  have h3 : c = 0 ∨ c = 1 ∨ c = 2 := by omega
  rcases h3 with rfl | rfl | rfl
  · go_enter Tryz.func18, Tryz.ntmps18
    go_wp2_with fail
    refine (heapnew_any w).mono ?_
    rintro e w1 ⟨rfl, hU, hs, hx⟩
    go_wp2
    go_ret
    exact ⟨_, _, _, rfl, hU, .heap _ _ _ hx (fun j h1 h2 => by simp at h2), fun k hk => hk.elim (fun e => Nat.le_of_eq e.symm) (fun e => absurd e no_block)⟩
  · go_enter Tryz.func18, Tryz.ntmps18
    go_wp2_with fail
    refine (calnew_any w).mono ?_
    rintro e w1 ⟨rfl, hU, hs, hx⟩
    go_wp2
    go_ret
    exact ⟨_, _, _, rfl, hU, .cal _ _ _ _ _ hx ⟨fun e h => by simp at h, fun e h => by simp at h, fun e h => by simp at h, rfl⟩, fun k hk => by
      rcases hk with h | h | ⟨e, h, _⟩
      · omega
      · omega
      · simp at h⟩
  · go_enter Tryz.func18, Tryz.ntmps18
    go_wp2_with fail
    refine (ladnew_any w).mono ?_
    rintro e w1 ⟨rfl, hU, hs, hx⟩
    go_wp2
    go_ret
    exact ⟨_, _, _, rfl, hU, .lad _ _ _ _ _ _ hx ⟨fun i j x y _ _ h => by simp at h, fun R h => by simp at h, fun x h => by simp at h, fun i j R Q _ h => by simp at h⟩, fun k hk => by
      rcases hk with h | h | h | ⟨v, h, _⟩
      · omega
      · exact absurd h no_block
      · exact absurd h no_block
      · simp at h⟩
set_option maxRecDepth 100000 in
set_option maxHeartbeats 2000000 in
theorem pendnew_any (c : Nat) (hc : c < 3) (w : World) : Calls Tryz.prog 5 #[.int .i64 c] w fun e w' => ∃ q F, e = .returned (.tuple #[ptrV q, .int .i64 0]) ∧ Up w w' ∧ QIs w' q F [] ∧ ∀ k, (k = q ∨ F k) → w.heap.size ≤ k := by
  have HC := Lib.hid (fresh_any c hc w)
  go_enter Tryz.func5, Tryz.ntmps5
  go_wp2_with fail
  refine HC.out.mono ?_
  rintro e w1 ⟨ty, a, F, rfl, hU, hx, hF⟩
  have hq := pend_nil ty (ptrV a)
  have HX := Lib.hid (And.intro hU (And.intro hx hF))
  clear hU hx hF
  go_wp2
  go_ret2
  obtain ⟨hU, hx, hF⟩ := HX.out
  have bX := Blk.alloc w1 [.iface ty (ptrV a)] 67
  have hU2 := alloc_up w1 ([.iface ty (ptrV a)] : List Value).toArray 67
  exact ⟨_, _, rfl, hU.trans hU2, ⟨⟨ty, a, [], bX.at (i := 0) rfl, hx.up hU2, List.Perm.refl _⟩, fun h => by have := hx.lt _ h; omega⟩, fun k hk => by
    rcases hk with rfl | hk
    · exact hU.1.size
    · exact hF k hk⟩
end Go.Proofs.YtalmjdlcogdpmaaGreatDoor

namespace Go.Proofs.YtalmjdlcogdpmaaGreatDoor
open Go.RowKit
attribute [local go_sem] upUpon_value upUpon_enter upUpon_skip upUpon_row ucUpon_value ucUpon_skip ucUpon_enter ucUpon_row

/-- The log and the queue in memory. -/
structure Mem (T K : Nat → Prop) (w0 W : World) (a q : Nat) (E : Env) (every : Nat) (es : List Ent) (Q : List Msg) : Prop where
  ex : ∃ V F, LogIs W a V E zeroSta es every (stuckOf es) ∧ QIs W q F Q ∧ (∀ k, foot a V E es k → ¬ (k = q ∨ F k)) ∧ (∀ k, turns a V k → T k ∨ w0.heap.size ≤ k) ∧ (∀ k, (k = q ∨ F k) → T k ∨ w0.heap.size ≤ k) ∧ (∀ k, K k → ¬ foot a V E es k ∧ ¬ (k = q ∨ F k))
  kl : ∀ k, K k → k < W.heap.size
  ok : EntsOk E zeroSta es
  up : Chg T w0 W
section
variable {T K : Nat → Prop} {w0 W W' : World} {a q : Nat} {E : Env} {every : Nat} {es : List Ent} {Q Q' : List Msg} {m : Msg}
theorem Mem.upM (M : Mem T K w0 W a q E every es Q) (hu : Up W W') : Mem T K w0 W' a q E every es Q := by
  obtain ⟨V, F, h1, h2, h3, h4, h5, h6⟩ := M.ex
  exact ⟨⟨V, F, h1.up hu, h2.up hu, h3, h4, h5, h6⟩, fun k hk => Nat.lt_of_lt_of_le (M.kl k hk) hu.1.size, M.ok, M.up.up hu⟩
/-- The queue has moved. -/
theorem Mem.queue {V : LogV} {F F' : Nat → Prop} (M : Mem T K w0 W a q E every es Q) (h1 : LogIs W a V E zeroSta es every (stuckOf es)) (h2 : QIs W q F Q) (h3 : ∀ k, foot a V E es k → ¬ (k = q ∨ F k)) (h4 : ∀ k, turns a V k → T k ∨ w0.heap.size ≤ k) (h5 : ∀ k, (k = q ∨ F k) → T k ∨ w0.heap.size ≤ k) (h6 : ∀ k, K k → ¬ foot a V E es k ∧ ¬ (k = q ∨ F k)) (t : QTo W W' q F F' Q') :
    Mem T K w0 W' a q E every es Q' ∧ Chg (fun k => ¬ K k) W W' := by
  have hf := h1.r.foot_lt
  refine ⟨⟨⟨V, F', h1.chg t.chg (fun k hk hft => h3 k hft (.inr hk)), t.is, fun k hk hq => ?_, h4, fun k hk => ?_, fun k hk => ⟨(h6 k hk).1, fun h => ?_⟩⟩, fun k hk => Nat.lt_of_lt_of_le (M.kl k hk) t.chg.size, M.ok, M.up.trans t.chg (fun i hi hF => (h5 i (.inr hF)).elim id (fun h => by omega))⟩, t.chg.mono (fun i _ hF hK => (h6 i hK).2 (.inr hF))⟩
  · rcases hq with h | h
    · exact h3 k hk (.inl h)
    · rcases t.foot k h with h' | h'
      · exact h3 k hk (.inr h')
      · have := hf k hk; omega
  · rcases hk with h | h
    · exact h5 k (.inl h)
    · rcases t.foot k h with h' | h'
      · exact h5 k (.inr h')
      · exact .inr (Nat.le_trans M.up.size h')
  · rcases h with h | h
    · exact (h6 k hk).2 (.inl h)
    · rcases t.foot k h with h' | h'
      · exact (h6 k hk).2 (.inr h')
      · have := M.kl k hk; omega
/-- The log has done one. -/
theorem Mem.did {V : LogV} {F : Nat → Prop} (M : Mem T K w0 W a q E every es Q) (h1 : LogIs W a V E zeroSta es every (stuckOf es)) (h2 : QIs W q F Q) (h3 : ∀ k, foot a V E es k → ¬ (k = q ∨ F k)) (h4 : ∀ k, turns a V k → T k ∨ w0.heap.size ≤ k) (h5 : ∀ k, (k = q ∨ F k) → T k ∨ w0.heap.size ≤ k) (h6 : ∀ k, K k → ¬ foot a V E es k ∧ ¬ (k = q ∨ F k)) (d : DidOk W W' a V E zeroSta es every m) :
    ∃ x : Ent, x.m = m ∧ Mem T K w0 W' a q E every (es ++ [x]) Q ∧ Chg (fun k => ¬ K k) W W' := by
  obtain ⟨V', x, hx, g1, g2, g3, g4⟩ := d.ex
  refine ⟨x, hx, ⟨⟨V', F, by rw [stuckOf_snoc]; exact g1, h2.chg d.chg (fun k hk ht => h3 k (foot_iff.2 (.inl ht)) hk), fun k hk hq => ?_, fun k hk => ?_, h5, fun k hk => ⟨fun h => ?_, (h6 k hk).2⟩⟩, fun k hk => Nat.lt_of_lt_of_le (M.kl k hk) d.chg.size, g2, M.up.trans d.chg (fun i hi hF => (h4 i hF).elim id (fun h => by omega))⟩, d.chg.mono (fun i _ hF hK => (h6 i hK).1 (foot_iff.2 (.inl hF)))⟩
  · rcases g4 k hk with h | h
    · exact h3 k h hq
    · have := h2.lt k hq; omega
  · rcases g3 k hk with h | h
    · exact h4 k h
    · exact .inr (Nat.le_trans M.up.size h)
  · rcases g4 k h with h | h
    · exact (h6 k hk).1 h
    · have := M.kl k hk; omega
end
theorem up_laid (W : World) (c : Array Value) (t : TypeId) (vs : List Value) : Up W ((W.alloc (.cells c t)).setCells W.heap.size 0 vs) :=
  (Chg.setCells (S := (· = W.heap.size)) (Or.inl rfl) vs 0 (Chg.of_up (alloc_up W c t))).to_up fun k hk e => by omega
theorem EntV.list {ev : Value} (h : EntV ev) : ∃ G : List Value, ev = .agg G.toArray ∧ G.length = 19 ∧ G.toArray.all (·.oneCell') = true := by
  obtain ⟨m, s, f, p, n, c, rfl⟩ := h
  exact ⟨_, rfl, rfl, by simp [Value.oneCell']⟩
theorem ent_there (W : World) : (W.alloc (.cells (entList zeroMsg ⟨fun _ => 0, 0, 0⟩ 0 (.slice none 0 0)).toArray 51)).there W.heap.size 0 19 :=
  (Blk.alloc W (entList zeroMsg ⟨fun _ => 0, 0, 0⟩ 0 (.slice none 0 0)) 51).there (fun j => new_free W (.map #[] 0) (alloc_up _ _ _) j _ (Nat.le_refl _)) (by simp)

set_option maxRecDepth 100000 in
set_option maxHeartbeats 2000000 in
theorem next_any {A : List Msg} {T K : Nat → Prop} {w0 W : World} {a q : Nat} {E : Env} {every : Nat} {es : List Ent} {Q : List Msg} (M : Mem T K w0 W a q E every es Q) (p : Plain A es Q) (g : Good A) (hok : okE E) (hne : Q ≠ []) :
    Calls Tryz.prog 11 #[ptrV a, ptrV q] W fun e w' => e = .returned (.tuple #[]) ∧ ∃ es' Q', Mem T K w0 w' a q E every es' Q' ∧ Step es Q es' Q' ∧ Plain A es' Q' ∧ Chg (fun k => ¬ K k) W w' := by
  obtain ⟨V, F, h1, h2, h3, h4, h5, h6⟩ := M.ex
  have hlen := p.len g
  have hQ60 : Q.length ≤ 60 := by omega
  have hb : ∀ y ∈ Q, y.t ≤ 2000000000 := fun y hy => by
    obtain ⟨_, _, t, ht, _⟩ := g.ok y (p.mem hy)
    omega
  have H := Lib.hid (And.intro M (And.intro p (And.intro g (And.intro hok (And.intro hne (And.intro hb (And.intro h1 (And.intro h3 (And.intro h4 (And.intro h5 h6))))))))))
  clear M p g hok hne hb h1 h3 h4 h5 h6
  have HQ := Lib.hid h2
  clear h2
  go_enter Tryz.func11, Tryz.ntmps11
  go_wp2_with fail
  refine (pendfirst_any W HQ.out hQ60 H.out.2.2.2.2.1 H.out.2.2.2.2.2.1).mono ?_
  rintro e w1 ⟨m, rfl, hmQ, hmin, F1, hT⟩
  have M1 := Mem.queue H.out.1 H.out.2.2.2.2.2.2.1 HQ.out H.out.2.2.2.2.2.2.2.1 H.out.2.2.2.2.2.2.2.2.1 H.out.2.2.2.2.2.2.2.2.2.1 H.out.2.2.2.2.2.2.2.2.2.2 hT
  have X1 := Lib.hid (And.intro M1.1 (And.intro hmQ (And.intro hmin M1.2)))
  clear M1 hT hmQ hmin
  go_upto_region 1 with (fail)
  refine wp_alloc1 (A := m.list) fun W2 hU2 hs2 bX => ?_
  have X2 := Lib.hid (And.intro (X1.out.1.upM hU2) (And.intro bX (And.intro hs2 (X1.out.2.2.2.up hU2))))
  clear hU2 bX hs2
  have rX := X2.out.2.1.get
  have hmA : m ∈ A := H.out.2.1.mem X1.out.2.1
  obtain ⟨hmok, hman, _⟩ := H.out.2.2.1.ok m hmA
  obtain ⟨V2, F2, k1, k2, k3, k4, k5, k6⟩ := X2.out.1.ex
  have hmay := H.out.2.1.may X1.out.2.1
  cases hst : stuckOf es with
  | true =>
    rw [hst] at hmay k1
    simp only [if_true] at hmay
    have HN := Lib.hid (logdo_no k1 X2.out.1.ok m hmok hman (by rw [hmay]; decide))
    have HS := Lib.hid (And.intro hst hmay)
    clear hst hmay k1 k2 k3 k4 k5 k6 hmok hman hmA
    go_wp2_with fail
    refine HN.out.mono ?_
    rintro e w3 ⟨hU3, ev, hev, rfl⟩
    rw [HS.out.2]
    obtain ⟨G, rfl, hG, hG1⟩ := hev.list
    clear rX hev
    have HM := Lib.hid (And.intro hU3 (And.intro hG hG1))
    clear hU3 hG hG1
    go_wp2_with (refine wpList_store_mid rfl _ _ _ rfl w3.heap.size 0 G.toArray rfl rfl ?_ ?_ ?_ ?_)
    · rw [show G.toArray.size = 19 from (List.size_toArray).trans HM.out.2.1]
      exact ent_there w3
    · rw [List.size_toArray, HM.out.2.1]
      exact infoEnt
    · exact HM.out.2.2
    · go_end0
      exact ⟨rfl, es, Q, X2.out.1.upM (HM.out.1.trans (up_laid _ _ _ _)), .inl ⟨HS.out.1, rfl, rfl⟩, H.out.2.1, X2.out.2.2.2.up (HM.out.1.trans (up_laid _ _ _ _))⟩
  | false =>
    rw [hst] at hmay
    simp only [Bool.false_eq_true, if_false] at hmay
    have hn40 : es.length < 40 := by have := List.length_pos_iff.2 H.out.2.2.2.2.1; omega
    have HN := Lib.hid (logdo_yes k1 X2.out.1.ok H.out.2.2.2.1 hn40 m hmok hman (by rw [hst]; exact hmay))
    have HS := Lib.hid (And.intro hst (And.intro k1 (And.intro k2 (And.intro k3 (And.intro k4 (And.intro k5 (And.intro hmA k6)))))))
    clear hst hmay k1 k2 k3 k4 k5 k6 hmok hman hmA
    go_wp2_with fail
    refine HN.out.mono ?_
    rintro e w3 ⟨⟨ev, hev, rfl⟩, hD⟩
    obtain ⟨x, hx, M3, c3⟩ := Mem.did X2.out.1 HS.out.2.1 HS.out.2.2.1 HS.out.2.2.2.1 HS.out.2.2.2.2.1 HS.out.2.2.2.2.2.1 HS.out.2.2.2.2.2.2.2 hD
    obtain ⟨G, rfl, hG, hG1⟩ := hev.list
    clear rX hev hD
    have HM := Lib.hid (And.intro M3 (And.intro hx (And.intro hG hG1)))
    have HC := Lib.hid (X2.out.2.2.2.trans c3 (fun _ _ h => h))
    clear c3 M3 hx hG hG1
    go_wp2_with (refine wpList_store_mid rfl _ _ _ rfl w3.heap.size 0 G.toArray rfl rfl ?_ ?_ ?_ ?_)
    · rw [show G.toArray.size = 19 from (List.size_toArray).trans HM.out.2.2.1]
      exact ent_there w3
    · rw [List.size_toArray, HM.out.2.2.1]
      exact infoEnt
    · exact HM.out.2.2.2
    · have M4 := HM.out.1.upM (up_laid w3 (entList zeroMsg ⟨fun _ => 0, 0, 0⟩ 0 (.slice none 0 0)).toArray 51 G)
      obtain ⟨V4, F4, j1, j2, j3, j4, j5, j6⟩ := M4.ex
      refine (pendpop_any _ j2 hQ60 H.out.2.2.2.2.1 H.out.2.2.2.2.2.1).mono ?_
      rintro e w5 ⟨m', rfl, hmin', F5, Q', hP, hT⟩
      have M5 := Mem.queue M4 j1 j2 j3 j4 j5 j6 hT
      have hm'A : m' ∈ A := H.out.2.1.mem (hP.mem_iff.1 (by simp))
      have hmm : m = m' := H.out.2.2.1.one HS.out.2.2.2.2.2.2.1 hm'A (hmin' m X1.out.2.1) (X1.out.2.2.1 m' (hP.mem_iff.1 (by simp)))
      subst hmm
      have X5 := Lib.hid (And.intro M5.1 (And.intro hP ((HC.out.up (up_laid _ _ _ _)).trans M5.2 (fun _ _ h => h))))
      clear M4 M5 j1 j2 j3 j4 j5 j6 hmin' hP hT hm'A
      go_wp2
      go_end0
      have hxm := HM.out.2.1
      have hP2 : (x.m :: Q').Perm Q := by rw [hxm]; exact X5.out.2.1
      exact ⟨rfl, es ++ [x], Q', X5.out.1, .inr ⟨HS.out.1, x, rfl, hP2⟩, H.out.2.1.step H.out.2.2.1 HS.out.1 hP2 (by rw [hxm]; exact X1.out.2.2.1), X5.out.2.2⟩
end Go.Proofs.YtalmjdlcogdpmaaGreatDoor

namespace Go.Proofs.YtalmjdlcogdpmaaGreatDoor
open Go.RowKit
attribute [local go_sem] upUpon_value upUpon_enter upUpon_skip upUpon_row ucUpon_value ucUpon_skip ucUpon_enter ucUpon_row

set_option maxRecDepth 100000 in
set_option maxHeartbeats 2000000 in
/-- The iterator, whatever a round does that says 'more'. -/
theorem states1_any (a : Nat) (V : LogV) (E : Env) (i0 : Sta) (es : List Ent) (hok : okE E) (hms : ∀ e ∈ es, okM e.m) (hgs : ∀ k, k ≤ es.length → GoodSta (stOf E i0 ((es.take k).map Ent.m)))
    (h0 : ∀ e, es[0]? = some e → e.ah ≠ none) (hlen : es.length ≤ 1000000)
    (l Bf Bl : Nat) (frm : Nat) (hfrm : frm ≤ es.length) (J : Nat → Nat → World → Prop)
    (hJL : ∀ S i W, J S i W → LogR W a V E i0 es) (hJb : ∀ S i W, J S i W → Blk W Bl [.pointer (some ⟨a, 0, none⟩)])
    (hJu : ∀ S i W W', J S i W → Up W W' → J S i W') (hJS : ∀ S i W W', J S i W → Chg (· = S) W W' → J S i W')
    (hY : ∀ S i W, J S i W → S < W.heap.size → i < es.length → YieldAt Fence.wide 0 Tryz.prog l #[.int .i64 i, (stOf E i0 ((es.take i).map Ent.m)).val] W fun e W' => e = .returned (.bool true) ∧ J S (i + 1) W' ∧ W'.heap[S]? = W.heap[S]? ∧ (∀ j, W'.frozen? ⟨S, j, none⟩ = W.frozen? ⟨S, j, none⟩))
    (w : World) (hlog : LogR w a V E i0 es) (hfe : frm < es.length ∨ (frm = es.length ∧ es = []))
    (hbf : Blk w Bf [.int .i64 frm]) (hff : w.frozen? ⟨Bf, 0, none⟩ = false) (hbl : Blk w Bl [.pointer (some ⟨a, 0, none⟩)]) (hfoot : ¬ foot a V E es Bf) (hne : Bl ≠ Bf)
    (hst : ∀ (k : Nat) W', Chg (· = Bf) w W' → Blk W' Bf [.int .i64 k] → k ≤ frm → J W'.heap.size k W') :
    CallsIn Fence.wide 0 Tryz.prog 41 #[.func (.yield l) #[] #[], .pointer (some ⟨Bf, 0, none⟩), .pointer (some ⟨Bl, 0, none⟩)] w fun e W' => e = .returned (.tuple #[]) ∧ ∃ S, J S es.length W' := by
  refine callsIn_wide.2 ?_
  go_enter Tryz.func41, Tryz.ntmps41
  go_upto_block 0 with fail
  go_cut [] from 7 to 21 (fun wr => ∃ k : Nat, k ≤ frm ∧ Hid (Chg (· = Bf) w wr) ∧ Hid (Blk wr Bf [.int .i64 k]) ∧ (∀ e, es[k]? = some e → e.ah ≠ none))
  case first =>
    go_wp2_with fail
    go_loopw [] (fun wr => ∃ k : Nat, k ≤ frm ∧ Hid (Chg (· = Bf) w wr) ∧ Hid (Blk wr Bf [.int .i64 k])) (fun wr => (intOf ((wr.cell? ⟨Bf, 0, none⟩).getD undef)).toNat)
    case atStart => exact ⟨frm, Nat.le_refl _, Lib.hid (Chg.refl _ _), Lib.hid hbf⟩
    case round =>
      obtain ⟨k, hk, hch, hbk⟩ := hrel
      have hL := hlog.chg hch.out (fun q hq => by subst hq; exact hfoot)
      have kB := (hbl.chg hch.out hne).lift
      have kF := hbk.out.lift
      go_upto_region 0 with (fail)
      rcases Nat.eq_zero_or_pos k with hk0 | hk0
      · subst hk0
        refine region_upL0 [0, 1, 2, 3, 4, 5, 6, 7, 8, 9, 10, 11] [] 12 [] (by kernel_rfl) (by kernel_rfl) ?_
        simp only [getOps, List.getElem?_cons_zero, List.getElem?_cons_succ]
        repeat (first | (apply wpUp_step rfl rfl; (focus (intro W hU; go_simp; exact ⟨rfl, Up.refl _⟩))) | (apply wpUp_no rfl); go_simp)
        refine wpUp_nil fun W5 hW5 => ?_
        refine wpNew_nil fun W6 hW6 => ?_
        have hch6 : Chg (· = Bf) w W6 := hch.out.up ((up_drew.trans hW5).trans hW6)
        have hbk6 := hbk.out.up ((up_drew.trans hW5).trans hW6)
        go_wp2
        go_meet
        case rel => exact ⟨0, Nat.zero_le _, Lib.hid hch6, Lib.hid hbk6, h0⟩
      · have hkl : k < es.length := by rcases hfe with h | ⟨h, h'⟩; omega; subst h'; simp at h; omega
        obtain ⟨e, he⟩ : ∃ e, es[k]? = some e := ⟨es[k], by simp [hkl]⟩
        obtain ⟨g, cap, hlv, hbe⟩ := hL.ent he
        have hl16 := hL.l
        rw [hlv] at hl16
        have kA := lift hl16
        have kE := hbe.lift
        have hd : decide ((0 : Int) < (k : Int)) = true := decide_eq_true (by omega)
        have hi1 : decide ((k : Int) < (es.length : Int)) = true := decide_eq_true (by omega)
        refine region_upL0 [0, 1, 2, 3, 4, 5, 6, 7, 8, 9, 10, 11] [] 12 [] (by kernel_rfl) (by kernel_rfl) ?_
        simp only [getOps, List.getElem?_cons_zero, List.getElem?_cons_succ]
        rcases hah : e.ah with _ | b
        · simp only [Ent.list, hah, Option.map] at kE
          have HE := Lib.hid (And.intro he hah)
          clear he hah hlv hl16 hbe hL
          repeat (first | (apply wpUp_step rfl rfl; (focus (intro W hU; go_simp; exact ⟨rfl, Up.refl _⟩))) | (apply wpUp_yes rfl rfl; (focus (intro W hU; go_simp; exact ⟨rfl, Up.refl _⟩))); go_simp)
          refine wpUp_nil fun W5 hW5 => ?_
          refine wpNew_nil fun W6 hW6 => ?_
          have hch6 : Chg (· = Bf) w W6 := hch.out.up ((up_drew.trans hW5).trans hW6)
          have hbk6 := hbk.out.up ((up_drew.trans hW5).trans hW6)
          have rF := hbk6.get
          have hF6 : W6.frozen? ⟨Bf, 0, none⟩ = false := (hch6.marks _).trans hff
          have w_k : IntKind.i64.wrap ((k : Int) - 1) = ((k - 1 : Nat) : Int) := by rw [IntWalk.i64_in _ (by omega)]; omega
          have hch7 : Chg (· = Bf) w (W6.setCell ⟨Bf, 0, none⟩ (.int .i64 ((k - 1 : Nat) : Int))) := hch6.setCell (p := ⟨Bf, 0, none⟩) (.inl rfl) _
          have hbk7 : Blk (W6.setCell ⟨Bf, 0, none⟩ (.int .i64 ((k - 1 : Nat) : Int))) Bf [.int .i64 ((k - 1 : Nat) : Int)] := hbk6.set 0 _ (by simp)
          have hm7 : (intOf ((((W6.setCell ⟨Bf, 0, none⟩ (.int .i64 ((k - 1 : Nat) : Int)))).cell? ⟨Bf, 0, none⟩).getD undef)).toNat = k - 1 := by rw [hbk7.at (i := 0) rfl]; simp [intOf]
          have hmr : (intOf ((wr.cell? ⟨Bf, 0, none⟩).getD undef)).toNat = k := by rw [hbk.out.at (i := 0) rfl]; simp [intOf]
          have H7 := Lib.hid (And.intro hch7 (And.intro hbk7 (And.intro hm7 hmr)))
          clear kA kB kE kF hd hi1 hW5 hW6 hch7 hbk7 hm7 hmr hbk6
          go_wp2
          exact ⟨⟨k - 1, by omega, Lib.hid H7.out.1, Lib.hid H7.out.2.1⟩, by rw [H7.out.2.2.1, H7.out.2.2.2]; omega⟩
        · have kE' := kE
          simp only [Ent.list, hah, Option.map] at kE'
          clear kE
          have HE := Lib.hid (And.intro he hah)
          clear he hah hlv hl16 hbe hL
          repeat (first | (apply wpUp_step rfl rfl; (focus (intro W hU; go_simp; exact ⟨rfl, Up.refl _⟩))) | (apply wpUp_yes rfl rfl; (focus (intro W hU; go_simp; exact ⟨rfl, Up.refl _⟩))); go_simp)
          refine wpUp_nil fun W5 hW5 => ?_
          refine wpNew_nil fun W6 hW6 => ?_
          have hch6 : Chg (· = Bf) w W6 := hch.out.up ((up_drew.trans hW5).trans hW6)
          have hbk6 := hbk.out.up ((up_drew.trans hW5).trans hW6)
          clear kA kB kE' kF
          go_wp2
          go_meet
          case rel => exact ⟨k, hk, Lib.hid hch6, Lib.hid hbk6, fun e' he' => by have := HE.out.1; rw [this] at he'; cases he'; rw [HE.out.2]; simp⟩
  case rest =>
    obtain ⟨k, hk, hch, hbk, hah⟩ := hcut
    have hJ := hst k wc hch.out hbk.out hk
    have hkl : k ≤ es.length := by omega
    have hke : k = es.length → es = [] := by rcases hfe with h | ⟨_, h⟩; omega; exact fun _ => h
    have hbf1 : Bf < w.heap.size := hbf.lt (by simp)
    clear hst hbf hff hlog hbl hfoot hfe
    go_upto_region 3 with (fail)
    have bS := Blk.alloc wc [.int .i64 0, .int .i64 0, .int .i64 0, .int .i64 0, .int .i64 0, .int .i64 0, .int .i64 0, .int .i64 0, .int .i64 0, .int .i64 0] 34
    have hUS : Up wc (wc.alloc (.cells #[.int .i64 0, .int .i64 0, .int .i64 0, .int .i64 0, .int .i64 0, .int .i64 0, .int .i64 0, .int .i64 0, .int .i64 0, .int .i64 0] 34)) := alloc_up _ _ _
    have hFS : ∀ j, (wc.alloc (.cells #[.int .i64 0, .int .i64 0, .int .i64 0, .int .i64 0, .int .i64 0, .int .i64 0, .int .i64 0, .int .i64 0, .int .i64 0, .int .i64 0] 34)).frozen? ⟨wc.heap.size, j, none⟩ = false := fun j => new_free wc (.map #[] 0) hUS j _ (Nat.le_refl _)
    obtain ⟨S, hS⟩ : ∃ S, wc.heap.size = S := ⟨_, rfl⟩
    rw [hS] at bS hJ hFS ⊢
    generalize (wc.alloc (.cells #[.int .i64 0, .int .i64 0, .int .i64 0, .int .i64 0, .int .i64 0, .int .i64 0, .int .i64 0, .int .i64 0, .int .i64 0, .int .i64 0] 34)) = W1 at *
    have hSlt : S < W1.heap.size := bS.lt (by simp)
    have rF := (hbk.out.up hUS).get
    have hJ1 := Lib.hid (hJu _ _ _ _ hJ hUS)
    have hS1 := Lib.hid (And.intro bS hFS)
    clear hJ hUS bS hFS hS hch hbk
    have HK := Lib.hid (And.intro hkl (And.intro hke hah))
    clear hkl hke hah
    go_upto_block 2 with fail
    go_wp2_with fail
    go_loopw [5, 6] (fun v x wr => ∃ i : Nat, i ≤ es.length ∧ k ≤ i ∧ v = .int .i64 i ∧ Hid (J S i wr) ∧ Hid (∃ cs, cs.length = 10 ∧ Blk wr S cs ∧ (k < i → cs = (stOf E i0 ((es.take i).map Ent.m)).list)) ∧ Hid (∀ j, wr.frozen? ⟨S, j, none⟩ = false)) (fun v _ _ => es.length - (intOf v).toNat)
    case atStart => exact ⟨k, HK.out.1, Nat.le_refl _, rfl, Lib.hid hJ1.out, Lib.hid ⟨_, rfl, hS1.out.1, fun h => absurd h (Nat.lt_irrefl _)⟩, Lib.hid hS1.out.2⟩
    case round =>
      obtain ⟨i, hi, hki, rfl, hJi, hSi, hFi⟩ := hrel
      by_cases hlt : i < es.length
      · obtain ⟨e, he⟩ : ∃ e, es[i]? = some e := ⟨es[i], by simp [hlt]⟩
        have hL := hJL _ _ _ hJi.out
        obtain ⟨g, cap, hlv, hbe⟩ := hL.ent he
        have hl16 := hL.l
        rw [hlv] at hl16
        have rB := (hJb _ _ _ hJi.out).get
        have rE := hbe.get
        have hi1 : decide ((i : Int) < (es.length : Int)) = true := decide_eq_true (by omega)
        have HE := Lib.hid (And.intro he hlv)
        clear hL he hlv hbe hi1
        go_upto_if 41 with fail
        obtain ⟨s, hs⟩ : ∃ s, stOf E i0 ((es.take i).map Ent.m) = s := ⟨_, rfl⟩
        go_cut [6] from 23 to 67 (fun _ wr' => Hid (J S i wr') ∧ Hid (Blk wr' S s.list) ∧ Hid (∀ j, wr'.frozen? ⟨S, j, none⟩ = false))
        case first =>
          have HSs := Lib.hid hs
          obtain ⟨cs, hcs, bS, hcse⟩ := hSi.out
          rcases hah : e.ah with _ | b
          · have hcse' : cs = s.list := by
              rw [← hs]
              refine hcse (Nat.lt_of_le_of_ne hki fun h => ?_)
              exact HK.out.2.2 e (by rw [h]; exact HE.out.1) hah
            have bS' := Lib.hid (hcse' ▸ bS)
            clear hs rE rB hl16 hcse hcse' bS hcs
            go_wp2
            go_meet
            case rel => exact ⟨hJi, bS', hFi⟩
          · have hL := hJL _ _ _ hJi.out
            have hbA := hL.ahead i e b HE.out.1 hah
            rw [hs] at hbA
            have rA := hbA.get
            have hF := hFi.out
            have hJ8 := hJS _ _ _ (wr.setCells S 0 s.list) hJi.out (Chg.setCells (S := (· = S)) (Or.inl rfl) _ 0 (Chg.refl _ wr))
            have bS8 := Blk.sets s.list 0 bS (by simp [hcs])
            have hcs8 : setL cs 0 s.list = s.list := by
              rcases cs with _ | ⟨c0, _ | ⟨c1, _ | ⟨c2, _ | ⟨c3, _ | ⟨c4, _ | ⟨c5, _ | ⟨c6, _ | ⟨c7, _ | ⟨c8, _ | ⟨c9, _ | ⟨c10, cs⟩⟩⟩⟩⟩⟩⟩⟩⟩⟩⟩ <;> simp at hcs
              rfl
            rw [hcs8] at bS8
            have hF8 : ∀ j, (wr.setCells S 0 s.list).frozen? ⟨S, j, none⟩ = false := fun j => ((Chg.setCells (S := (· = S)) (a := wr) (Or.inl rfl) s.list 0 (Chg.refl _ wr)).marks _).trans (hF j)
            have H8 := Lib.hid (And.intro hJ8 (And.intro bS8 hF8))
            have rS := bS.get
            rw [hcs] at rS
            clear hs rE rB hl16 hcse hL hbA hJ8 bS8 hF8 hcs8 bS hcs
            simp only [Sta.list] at rA H8
            go_wp2
            go_meet
            case rel => exact ⟨Lib.hid H8.out.1, Lib.hid H8.out.2.1, Lib.hid H8.out.2.2⟩
        case rest =>
          obtain ⟨hJc, hSc, hFc⟩ := hcut
          obtain ⟨fn, tmps, assign, body, hy, hR⟩ := hY S i wc hJc.out (hSc.out.lt (by simp)) hlt
          have HSs := Lib.hid hs
          rw [hs] at hy
          have rS := hSc.out.get
          clear hs rE rB hl16 hSi hFi hJi hY
          simp only [Sta.val, Sta.cells] at hy
          simp only [Sta.list] at rS
          go_upto_region 9 with (fail)
          refine (wpIn_wide (n := 0)).1 ?_
          gi_wp2
          refine ⟨rfl, hR.mono ?_⟩
          rintro e' W3 ⟨rfl, hJ3, hS3, hF3⟩
          have hL := hJL _ _ _ hJ3
          have bS3 : Blk W3 S s.list := ⟨fun j hj => by
            have := hSc.out.get j hj
            rw [World.cell?_of_block (w := wc) hS3]
            exact this⟩
          have hFr3 : ∀ j, W3.frozen? ⟨S, j, none⟩ = false := fun j => (hF3 j).trans (hFc.out j)
          obtain ⟨g, cap, hlv, hbe⟩ := hL.ent HE.out.1
          have hl16 := hL.l
          rw [hlv] at hl16
          have HL := Lib.hid hL
          have H3 := Lib.hid (And.intro hJ3 (And.intro bS3 hFr3))
          have kB := (hJb _ _ _ hJ3).lift
          have kA := lift hl16
          have kE := hbe.lift
          have kE0 := lift hbe.zero
          have kW := hL.w.lift
          have kS := bS3.lift
          have hi1 : decide ((i : Int) < (es.length : Int)) = true := decide_eq_true (by omega)
          simp only [Sta.list] at kS
          clear hR hy rS hSc hFc hJc hS3 hF3 hJ3 hFr3 bS3 hlv hbe hl16 hL
          gi_wp2
          go_upto_region 10 with (fail)
          refine region_up2 [16, 17] [0, 1, 2, 3, 4, 5, 6, 7, 8, 9, 10, 11, 12] [13, 14] [15, 16, 17] [] 18 [] (by kernel_rfl) (by kernel_rfl) (fun d _ _ _ _ h => by cases d <;> exact h) ?_
          simp only [getOps, List.getElem?_cons_zero, List.getElem?_cons_succ]
          repeat (apply wpUp_step rfl rfl; (focus (intro W hU; go_simp; exact ⟨rfl, Up.refl _⟩)); go_simp)
          refine wpUp_nil fun W4 hW4 => ?_
          clear kB kA kE kE0 kW kS hi1
          refine wpNew_step rfl fun W5 hW5 K hK => ?_
          go_simp
          have hU5 : Up W3 W5 := (up_drew.trans hW4).trans hW5
          have hLr := HL.out.up hU5
          have hem : okM e.m := hms e (List.mem_of_getElem? HE.out.1)
          refine (vmrun_any V.pv V.pl V.cv V.cl (envOf E e.m) (goodE_of hok hem) hok s (by rw [← HSs.out]; exact hgs i hi) hem.c W5 hLr.g hLr.ins hLr.lnk hLr.lnkb hLr.insb).mono ?_
          rintro e' W6 ⟨vo, rfl, hU6, _, _⟩
          refine ⟨_, rfl, hU6, hK _ _ ?_⟩
          clear hK K hLr
          refine wpNew_step rfl fun W7 hW7 K hK => ?_
          go_simp
          refine ⟨Up.refl _, hK _ _ ?_⟩
          clear hK K
          refine wpNew_nil fun W8 hW8 => ?_
          obtain ⟨s', hs'⟩ : ∃ s', (vmRun (envOf E e.m) s).s = s' := ⟨_, rfl⟩
          have hU8 : Up W3 W8 := ((hU5.trans hU6).trans hW7).trans hW8
          have hnx : stOf E i0 ((es.take (i + 1)).map Ent.m) = s' := by
            have : es.take (i + 1) = es.take i ++ [e] := by rw [List.take_add_one, HE.out.1]; rfl
            rw [this, List.map_append, List.map_cons, List.map_nil, stOf_snoc, HSs.out]; exact hs'
          have HN := Lib.hid hnx
          rw [hs']
          clear hs' hnx hU5
          (apply wpUp_step rfl rfl; (focus (intro W hU; go_simp; exact ⟨rfl, Up.refl _⟩)); go_simp)
          (apply wpUp_pure rfl; (focus (intro W; go_simp; rfl)); go_simp)
          (apply wpUp_pure rfl; (focus (intro W; go_simp; rfl)); go_simp)
          refine wpUp_nil fun W9 hW9 => ?_
          refine wpNew_nil fun W10 hW10 => ?_
          have hU10 : Up W3 W10 := (hU8.trans hW9).trans hW10
          have bS10 := H3.out.2.1.up hU10
          have hF10 : ∀ j, W10.frozen? ⟨S, j, none⟩ = false := fun j => (hU10.2 _).trans (H3.out.2.2 j)
          have rS := bS10.get
          have hJ10 := hJS _ _ _ (W10.setCells S 0 s'.list) (hJu _ _ _ _ H3.out.1 hU10) (Chg.setCells (S := (· = S)) (Or.inl rfl) _ 0 (Chg.refl _ W10))
          have bS11 := Blk.sets s'.list 0 bS10 (by simp)
          have hcs8 : setL s.list 0 s'.list = s'.list := rfl
          rw [hcs8] at bS11
          have hF11 : ∀ j, (W10.setCells S 0 s'.list).frozen? ⟨S, j, none⟩ = false := fun j => ((Chg.setCells (S := (· = S)) (a := W10) (Or.inl rfl) s'.list 0 (Chg.refl _ W10)).marks _).trans (hF10 j)
          have H11 := Lib.hid (And.intro hJ10 (And.intro bS11 hF11))
          clear hJ10 bS11 hF11 hcs8 bS10
          simp only [Sta.list] at rS H11
          have w_i : IntKind.i64.wrap ((i : Int) + 1) = ((i + 1 : Nat) : Int) := by rw [IntWalk.i64_in _ (by omega)]; rfl
          go_wp2
          exact ⟨⟨i + 1, by omega, by omega, by go_num, Lib.hid H11.out.1, Lib.hid ⟨_, rfl, H11.out.2.1, fun _ => by rw [HN.out]⟩, Lib.hid H11.out.2.2⟩, by simp [intOf]; omega⟩
      · have hie : i = es.length := by omega
        obtain ⟨p, cap, hlv⟩ := (hJL _ _ _ hJi.out).lvs
        have hl16 := (hJL _ _ _ hJi.out).l
        rw [hlv] at hl16
        have rB := (hJb _ _ _ hJi.out).get
        have HI := Lib.hid hie
        clear hlv hie
        go_wp2
        go_end0
        exact ⟨rfl, S, by rw [← HI.out]; exact hJi.out⟩

set_option maxHeartbeats 1000000 in
/-- states: the iterator's two boxes. -/
theorem states_any (a k : Nat) (w : World) : Calls Tryz.prog 24 #[.pointer (some ⟨a, 0, none⟩), .int .i64 k] w fun e w' => e = .returned (.func (.func 41) #[] #[.pointer (some ⟨w.heap.size + 1, 0, none⟩), .pointer (some ⟨w.heap.size, 0, none⟩)]) ∧ Up w w' ∧ w'.heap.size = w.heap.size + 2 ∧ Blk w' w.heap.size [.pointer (some ⟨a, 0, none⟩)] ∧ Blk w' (w.heap.size + 1) [.int .i64 k] := by
  go_enter Tryz.func24, Tryz.ntmps24
  go_upto_region 1 with (fail)
  refine wp_alloc2 fun W hU hs b0 b1 => ?_
  go_wp2
  go_ret
  exact ⟨rfl, hU, hs, b0, b1⟩
end Go.Proofs.YtalmjdlcogdpmaaGreatDoor

namespace Go.Proofs.YtalmjdlcogdpmaaGreatDoor
open Go.RowKit
attribute [local go_sem] upUpon_value upUpon_enter upUpon_skip upUpon_row ucUpon_value ucUpon_skip ucUpon_enter ucUpon_row tUpon_value tUpon_skip tUpon_enter Oper.semAt_some wideR_round

/-- The cells xs are the first i entries, as they are handed out. -/
def OutIs (E : Env) (i0 : Sta) (es : List Ent) (i : Nat) (xs : List Value) : Prop :=
  xs.length = i * 19 ∧ ∀ k e, k < i → es[k]? = some e → ∃ p c, ∀ r, r < 19 → xs[k * 19 + r]? = (entList e.m (stOf E i0 ((es.take k).map Ent.m)) e.f (.slice p e.sent.length c))[r]?
theorem OutIs.snoc {E : Env} {i0 : Sta} {es : List Ent} {i : Nat} {xs : List Value} (h : OutIs E i0 es i xs) {e : Ent} (he : es[i]? = some e) (p : Option Addr) (c : Nat) :
    OutIs E i0 es (i + 1) (xs ++ entList e.m (stOf E i0 ((es.take i).map Ent.m)) e.f (.slice p e.sent.length c)) := by
  refine ⟨by rw [List.length_append, h.1]; simp; omega, fun k e' hk he' => ?_⟩
  rcases Nat.lt_or_ge k i with h1 | h1
  · obtain ⟨p', c', h2⟩ := h.2 k e' h1 he'
    refine ⟨p', c', fun r hr => ?_⟩
    rw [List.getElem?_append_left (by rw [h.1]; omega)]
    exact h2 r hr
  · have : k = i := by omega
    subst this
    rw [he] at he'
    cases he'
    refine ⟨p, c, fun r hr => ?_⟩
    rw [List.getElem?_append_right (by rw [h.1]; omega), h.1]
    congr 1
    omega
theorem Chg.obj {S : Nat → Prop} {W W' : World} (h : Chg S W W') {l : Nat} {o : Obj} (hl : W.heap[l]? = some o) (hn : ¬ S l) : W'.heap[l]? = some o := (h.block l (Array.getElem?_eq_some_iff.1 hl).1 hn).trans hl
theorem infoEntry : (Tryz.prog.info? 51).map (fun i => (i.zero, i.size, i.bytes)) = some (some (.agg #[.int .i64 0, .int .i64 0, .int .i64 0, .int .i64 0, .int .i64 0, .int .i64 0, .bool false, .int .i64 0, .int .i64 0, .int .i64 0, .int .i64 0, .int .i64 0, .int .i64 0, .int .i64 0, .int .i64 0, .int .i64 0, .int .i64 0, .int .i64 0, .slice none 0 0]), 19, 168) := by kernel_rfl

set_option maxRecDepth 100000 in
set_option maxHeartbeats 2000000 in
theorem logall_any {a : Nat} {V : LogV} {E : Env} {i0 : Sta} {es : List Ent} {every : Nat} {stuck : Bool} {w : World} (h : LogIs w a V E i0 es every stuck) (he : EntsOk E i0 es) (hok : okE E) (hgs : ∀ k, k ≤ es.length → GoodSta (stOf E i0 ((es.take k).map Ent.m))) (hs8 : ∀ e ∈ es, e.sent.length ≤ 8) :
    Calls Tryz.prog 15 #[.pointer (some ⟨a, 0, none⟩)] w fun e w' => Up w w' ∧ ∃ ov xs, e = .returned ov ∧ OwnR w' 51 19 ov es.length xs ∧ OutIs E i0 es es.length xs := by
  have H := Lib.hid (And.intro h (And.intro he (And.intro hok (And.intro hgs hs8))))
  clear h he hok hgs hs8
  refine (callsIn_wide (n := 0)).1 ?_
  refine callsIn_of_wp_marks (n := 0) Tryz.func15 rfl trivial ?_
  refine wpIn_wide.2 ?_
  simp only [Tryz.ntmps15, List.size_toArray, List.length_cons, List.length_nil, Nat.reduceAdd, Nat.reduceSub, Array.replicate_succ, Array.replicate_zero, List.push_toArray, List.append_toArray, List.nil_append, List.cons_append]
  go_upto_region 1 with (fail)
  refine wp_alloc1 fun W1 hU1 hs1 bL => ?_
  have rL := bL.get
  have HN := Lib.hid (lognone_any a W1 ((H.out.1.up hU1).b.at (i := 4) rfl))
  go_wp2_with fail
  refine HN.out.mono ?_
  rintro e w2 ⟨rfl, rfl⟩
  clear HN
  go_upto_region 4 with (fail)
  refine wp_alloc1 fun W3 hU3 hs3 bO => ?_
  have rL := (bL.up hU3).get
  go_wp2_with fail
  refine (states_any a 0 W3).mono ?_
  rintro e W5 ⟨rfl, hU5, hs5, bl, bf⟩
  clear rL
  go_wp2_with fail
  refine wp_range rfl (enters_of Tryz.func41 (by kernel_rfl) rfl) ?_
  intro fn W6 hU6 hs6 hD6 hl6
  obtain ⟨Bo, hBo⟩ : ∃ B, w.heap.size + 1 = B := ⟨_, rfl⟩
  have hs3' : W3.heap.size = Bo + 1 := by omega
  obtain ⟨D, hD⟩ : ∃ D, W5.heap.size = D := ⟨_, rfl⟩
  have hDB : D = Bo + 3 := by omega
  have hN : W6.heap.size = D + 2 := by omega
  rw [hs1, hBo] at bO
  rw [hs3'] at bl bf
  simp only [hD, hs3', hBo] at hl6 hD6 ⊢
  obtain ⟨rc, hl6, hrc⟩ : ∃ rc : Rc, W6.heap[D + 1]? = some (rc.at .ready none) ∧ rc = _ := ⟨_, hl6, rfl⟩
  rw [← hrc]
  have hU16 := ((hU3.trans hU5).trans hU6)
  have hU06 := hU1.trans hU16
  have bl6 := bl.up hU6
  have bL6 := bL.up hU16
  have hwB : w.heap.size < Bo := by omega
  have bf6 := bf.up hU6
  have bo6 := (bO.up hU5).up hU6
  obtain ⟨i0e, hi0, hz0, hz1, hz2⟩ := info_parts infoEntry
  have hfl : ∀ k, foot a V E es k → k < w.heap.size := H.out.1.r.foot_lt
  refine (states1_any a V E i0 es H.out.2.2.1 H.out.2.1.m H.out.2.2.2.1 H.out.2.1.a (by have := H.out.2.1.n; omega) (D + 1) (Bo + 1 + 1) (Bo + 1) 0 (Nat.zero_le _)
    (fun S i W => Up w W ∧ D + 2 ≤ S ∧ (Blk W (Bo + 1) [.pointer (some ⟨a, 0, none⟩)] ∧ Blk W w.heap.size [.pointer (some ⟨a, 0, none⟩)]) ∧ W.heap[D + 1]? = some (rc.at .ready none) ∧ W.heap[D]? = some (.deferred (some [])) ∧ ∃ ov xs, Blk W Bo [ov] ∧ OwnR W 51 19 ov i xs ∧ OutIs E i0 es i xs ∧ ∀ k, sameBlock ov k → D + 2 ≤ k ∧ k ≠ S)
    (fun S i W hJ => (H.out.1.up hJ.1).r) (fun S i W hJ => hJ.2.2.1.1) ?hJu ?hJS ?hY W6 (H.out.1.up hU06).r ?hfe bf6 ?hff bl6 ?hfoot (by omega) ?hst).mono ?_
  case hJu =>
    rintro S i W W' ⟨h1, h2, h3, h4, h5, ov, xs, h6, h7, h8, h9⟩ hu
    exact ⟨h1.trans hu, h2, ⟨h3.1.up hu, h3.2.up hu⟩, (Chg.of_up (S := fun _ => False) hu).obj h4 id, (Chg.of_up (S := fun _ => False) hu).obj h5 id, ov, xs, h6.up hu, h7.up hu, h8, h9⟩
  case hJS =>
    rintro S i W W' ⟨h1, h2, h3, h4, h5, ov, xs, h6, h7, h8, h9⟩ hc
    exact ⟨((Chg.of_up h1).trans hc (fun _ _ e => e)).to_up (fun k hk e => by omega), h2, ⟨h3.1.chg hc (fun e => by omega), h3.2.chg hc (fun e => by omega)⟩, hc.obj h4 (fun e => by omega), hc.obj h5 (fun e => by omega), ov, xs, h6.chg hc (fun e => by omega), h7.chg hc (fun k hk e => (h9 k hk).2 e), h8, h9⟩
  case hfe =>
    rcases Nat.eq_zero_or_pos es.length with h0 | h0
    · exact .inr ⟨h0.symm, List.eq_nil_of_length_eq_zero h0⟩
    · exact .inl h0
  case hff => exact new_free w (.map #[] 0) hU06 0 _ (by omega)
  case hfoot => exact fun hk => by have := hfl _ hk; omega
  case hst =>
    intro k W' hc hb hk
    have hk0 : k = 0 := by omega
    subst hk0
    refine ⟨((Chg.of_up hU06).trans hc (fun _ _ e => e)).to_up (fun q hq e => by omega), by have := hc.size; omega, ⟨bl6.chg hc (fun e => by omega), bL6.chg hc (fun e => by omega)⟩, hc.obj hl6 (fun e => by omega), hc.obj hD6 (fun e => by omega), .slice none 0 0, [], bo6.chg hc (fun e => by omega), OwnR.nil _ _ _, ⟨rfl, fun k e hk => by omega⟩, fun k hk => by simp [sameBlock, Value.ownBlock] at hk⟩
  case hY =>
    rintro S i W ⟨h1, h2, h3, h4, h5, ov, xs, h6, h7, h8, h9⟩ hSW hi
    obtain ⟨e, he⟩ : ∃ e, es[i]? = some e := ⟨es[i], by simp [hi]⟩
    obtain ⟨s, hs⟩ : ∃ s, stOf E i0 ((es.take i).map Ent.m) = s := ⟨_, rfl⟩
    rw [hs]
    have e1 := congrArg Rc.assign hrc
    have e2 := congrArg Rc.body hrc
    have e3 := congrArg Rc.params hrc
    have e4 := congrArg Rc.tmps hrc
    dsimp only at e1 e2 e3 e4
    suffices hX : ∀ R : Ending → World → Prop, (∀ W', (Up w W' ∧ D + 2 ≤ S ∧ (Blk W' (Bo + 1) [.pointer (some ⟨a, 0, none⟩)] ∧ Blk W' w.heap.size [.pointer (some ⟨a, 0, none⟩)]) ∧ W'.heap[D + 1]? = some (rc.at .ready none) ∧ W'.heap[D]? = some (.deferred (some [])) ∧ ∃ ov xs, Blk W' Bo [ov] ∧ OwnR W' 51 19 ov (i + 1) xs ∧ OutIs E i0 es (i + 1) xs ∧ ∀ k, sameBlock ov k → D + 2 ≤ k ∧ k ≠ S) ∧
        W'.heap[S]? = W.heap[S]? ∧ (∀ j, W'.frozen? ⟨S, j, none⟩ = W.frozen? ⟨S, j, none⟩) → R (.returned (.bool true)) W') →
        YieldAt Fence.wide 0 Tryz.prog (D + 1) #[.int .i64 i, s.val] W R from hX _ (fun W' h => ⟨rfl, h⟩)
    intro R hR
    refine yieldAt_of h4 (by rw [e3]; rfl) ?_
    rw [e1, e2, e3, e4]
    have HY := Lib.hid (And.intro h1 (And.intro h2 (And.intro h3 (And.intro h4 (And.intro h5 (And.intro h6 (And.intro h7 (And.intro h8 h9))))))))
    have HE := Lib.hid (And.intro he hs)
    have HR := Lib.hid hR
    have HDB := Lib.hid hDB
    have hDlo : Bo + 2 < D := by omega
    have HIE := Lib.hid (And.intro hi0 (And.intro hz0 (And.intro hz1 hz2)))
    clear bL6 bL e1 e2 e3 e4 h1 h2 h3 h4 h5 h6 h7 h8 h9 he hs hrc bl6 bf6 bo6 hU06 hU16 hl6 hD6 hfl bf bl bO hR hDB hi0 hz0 hz1 hz2 hN hD hs1 hs3 hs3' hs5 hs6 hBo
    simp only [Sta.val, Sta.cells]
    gi_wp2
    obtain ⟨y1, y2, y3, y4, y5, y6, y7, y8, y9⟩ := HY.out
    have hDlt : D + 1 < W.heap.size := (Array.getElem?_eq_some_iff.1 y4).1
    obtain ⟨W1a, hW1a⟩ : ∃ W1a, W.alloc (.cells #[.int .i64 (s.r 0), .int .i64 (s.r 1), .int .i64 (s.r 2), .int .i64 (s.r 3), .int .i64 (s.r 4), .int .i64 (s.r 5), .int .i64 (s.r 6), .int .i64 (s.r 7), .int .i64 s.d, .int .i64 s.n] 34) = W1a := ⟨_, rfl⟩
    have hUa : Up W W1a := by rw [← hW1a]; exact alloc_up _ _ _
    have bX : Blk W1a W.heap.size s.list := by rw [← hW1a]; exact Blk.alloc W s.list 34
    have hsa : W1a.heap.size = W.heap.size + 1 := by rw [← hW1a]; simp
    rw [hW1a]
    have hl1a := (Chg.of_up (S := fun _ => False) hUa).obj y4 id
    refine ⟨hl1a, ?_⟩
    have hcb : Chg (· = D + 1) W1a (W1a.putObj (D + 1) (rc.at .busy none)) := putObj_chg _ hl1a rfl rfl
    have hlb : (W1a.putObj (D + 1) (rc.at .busy none)).heap[D + 1]? = some (rc.at .busy none) := World.putObj_heap_same (by omega)
    obtain ⟨X, hX⟩ : ∃ X, W.heap.size = X := ⟨_, rfl⟩
    rw [hX] at bX hDlt ⊢
    have bXb := bX.chg hcb (fun e => by omega)
    generalize (W1a.putObj (D + 1) (rc.at .busy none)) = W2 at *
    have hc02 : Chg (· = D + 1) W W2 := (Chg.of_up hUa).trans hcb (fun _ _ e => e)
    have hUw2 : Up w W2 := ((Chg.of_up y1).trans hc02 (fun _ _ e => e)).to_up (fun k hk e => by omega)
    have hL2 := H.out.1.up hUw2
    obtain ⟨g, cap, hlv, hbe⟩ := hL2.r.ent HE.out.1
    have hl16 := hL2.r.l
    rw [hlv] at hl16
    obtain ⟨ps, cs, hsv⟩ := (hL2.r.sent e (List.mem_of_getElem? HE.out.1)).form
    have bO2 := y6.chg hc02 (fun e => by omega)
    have kO := bO2.lift
    have kL := (y3.2.chg hc02 (fun e => by omega)).lift
    have kA := lift hl16
    have kE := hbe.lift
    have kE0 := lift hbe.zero
    have kX := bXb.lift
    have hi1 : decide ((i : Int) < (es.length : Int)) = true := decide_eq_true (by omega)
    obtain ⟨ahv, hahv⟩ : ∃ v, e.ah.map (fun b => (⟨b, 0, none⟩ : Addr)) = v := ⟨_, rfl⟩
    simp only [Ent.list, hsv, hahv] at kE
    obtain ⟨po, co, hov⟩ := y7.form
    subst hov
    have H2 := Lib.hid (And.intro hlb (And.intro hc02 (And.intro hUw2 (And.intro hL2 (And.intro bO2 (And.intro hsv hX))))))
    clear hlb hc02 hUw2 hL2 bO2 hsv hX hlv hbe hl16 y1 y3 y4 y5 y6 y7 y8 bX bXb hcb hl1a hUa hsa hW1a hahv y9
    apply wpIn_block
    refine region_inL [] [0, 1, 2, 3, 4, 5, 6, 7, 8] [9, 10] 11 [12] (by kernel_rfl) (by kernel_rfl) ?_
    simp only [getOps, List.getElem?_cons_zero, List.getElem?_cons_succ]
    repeat (apply wpUp_step rfl rfl; (focus (intro W hU; go_simp; exact ⟨rfl, Up.refl _⟩)); go_simp)
    refine wpUp_nil fun W3 hW3 => ?_
    clear kO kL kA kE kE0 kX hi1
    obtain ⟨b1, b2, b3, b4, b5, b6, b7⟩ := H2.out
    obtain ⟨y1, y2, y3, y4, y5, y6, y7, y8, y9⟩ := HY.out
    have hU3 : Up W2 W3 := up_drew.trans hW3
    refine wpNew_step rfl fun W4 hW4 K hK => ?_
    go_simp
    have hsv4 := (b4.up (hU3.trans hW4)).r.sent e (List.mem_of_getElem? HE.out.1)
    rw [b6] at hsv4
    refine (entry_any e.m e.f (.slice ps e.sent.length cs) e.sent (.pointer ahv) rfl s W4 hsv4 (H.out.2.2.2.2 e (List.mem_of_getElem? HE.out.1))).mono ?_
    rintro e' W5 ⟨hU5, v5, rfl, hov5, hnb5⟩
    refine ⟨_, rfl, hU5, hK _ _ ?_⟩
    clear hK K
    obtain ⟨p5, c5, rfl⟩ := hov5.form
    refine wpNew_step rfl fun W6 hW6 K hK => ?_
    go_simp
    refine ⟨alloc_up _ _ _, hK _ _ ?_⟩
    clear hK K
    refine wpNew_nil fun W7 hW7 => ?_
    have hU7 : Up W2 W7 := ((((hU3.trans hW4).trans hU5).trans hW6).trans (alloc_up _ _ _)).trans hW7
    have bX := (Blk.alloc W6 (entList e.m s e.f (.slice p5 e.sent.length c5)) 51).up hW7
    have hsrc := srcBlk bX
    have hc27 : Chg (· = D + 1) W W7 := b2.up hU7
    have ho7 := y7.chg hc27 (fun k hk e => by have := (y9 k hk).1; omega)
    have hone : ∀ u ∈ entList e.m s e.f (.slice p5 e.sent.length c5), u.oneCell' = true := by simp [Value.oneCell']
    have hes40 := H.out.2.1.n
    refine wpTail_append rfl (.tmp 12) (.tmp 22) 47 rfl 51 i0e _ 19 168 Tryz.underlying47 HIE.out.1 HIE.out.2.1 HIE.out.2.2.1 HIE.out.2.2.2 rfl (by decide) (.slice po i co) i _ rfl ho7 _ 1 _ rfl (by simp) hsrc hone (by unfold maxLen; omega) (by omega) ?_
    intro v' W8 hown8 hchg8 hnew8
    obtain ⟨p8, c8, rfl⟩ := hown8.form
    have hrowBo : ¬ sameBlock (.slice po i co) Bo := fun hk => by have := (y9 Bo hk).1; omega
    have bO8 := (b5.up hU7).chg hchg8 hrowBo
    have hFO : W8.frozen? ⟨Bo, 0, none⟩ = false := (hchg8.marks _).trans ((hU7.2 _).trans (new_free w (.map #[] 0) b3 0 _ (by omega)))
    have rO := bO8.get
    have H8 := Lib.hid (And.intro bO8 (And.intro hown8 (And.intro hchg8 (And.intro hnew8 (And.intro hc27 hU7)))))
    clear hown8 hchg8 hnew8 bO8 hc27 ho7 hsrc bX hone
    go_simp
    refine wpTail_step rfl fun K hK => ?_
    go_simp
    refine hK _ _ ?_
    clear hK K
    refine wpTail_nil ?_
    obtain ⟨z1, z2, z3, z4, z5, z6⟩ := H8.out
    have hWs : W.heap.size ≤ W7.heap.size := z5.size
    have c9 : Chg (· = Bo) W8 (W8.setCell ⟨Bo, 0, none⟩ (.slice p8 (i + 1) c8)) := Chg.setCell (S := (· = Bo)) (p := ⟨Bo, 0, none⟩) (Chg.refl _ _) (Or.inl rfl) _
    have bO9 := z1.set 0 (.slice p8 (i + 1) c8) (by simp)
    have hnew : ∀ k, sameBlock (.slice p8 (i + 1) c8) k → D + 2 ≤ k ∧ k ≠ S := fun k hk => by
      rcases z4 k hk with h1 | h1
      · exact y9 k h1
      · exact ⟨by omega, by omega⟩
    have own9 := z2.chg c9 (fun k hk e => by have := (hnew k hk).1; omega)
    have hcT : Chg (fun k => k = D + 1 ∨ k = Bo ∨ sameBlock (.slice po i co) k) W (W8.setCell ⟨Bo, 0, none⟩ (.slice p8 (i + 1) c8)) :=
      ((z5.mono (T := fun k => k = D + 1 ∨ k = Bo ∨ sameBlock (.slice po i co) k) (fun _ _ e => .inl e)).trans z3 (fun _ _ e => .inr (.inr e))).trans c9 (fun _ _ e => .inr (.inl e))
    have hlb9 : (W8.setCell ⟨Bo, 0, none⟩ (.slice p8 (i + 1) c8)).heap[D + 1]? = some (rc.at .busy none) :=
      c9.obj (z3.obj ((Chg.of_up (S := fun _ => False) z6).obj b1 id) (fun hk => by have := (y9 (D + 1) hk).1; omega)) (fun e => by omega)
    generalize (W8.setCell ⟨Bo, 0, none⟩ (.slice p8 (i + 1) c8)) = W9 at *
    refine ⟨hlb9, HR.out _ ?_⟩
    have c10 : Chg (· = D + 1) W9 (W9.putObj (D + 1) (rc.at .ready none)) := putObj_chg _ hlb9 rfl rfl
    have hlr : (W9.putObj (D + 1) (rc.at .ready none)).heap[D + 1]? = some (rc.at .ready none) := World.putObj_heap_same (Array.getElem?_eq_some_iff.1 hlb9).1
    have hcT2 := hcT.trans c10 (fun _ _ e => .inl e)
    have nT : ∀ k, k ≠ D + 1 → k ≠ Bo → (k < D + 2 ∨ k = S) → ¬ (k = D + 1 ∨ k = Bo ∨ sameBlock (.slice po i co) k) := fun k n1 n2 n3 e => by
      rcases e with e | e | e
      · exact n1 e
      · exact n2 e
      · have := y9 k e
        rcases n3 with n3 | n3 <;> omega
    have hSl : S < W.heap.size := hSW
    refine ⟨⟨((Chg.of_up y1).trans hcT2 (fun _ _ e => e)).to_up (fun k hk => nT k (by omega) (by omega) (.inl (by omega))), y2, ⟨y3.1.chg hcT2 (nT _ (by omega) (by omega) (.inl (by omega))), y3.2.chg hcT2 (nT _ (by omega) (by omega) (.inl (by omega)))⟩, hlr, hcT2.obj y5 (nT _ (by omega) (by omega) (.inl (by omega))), _, _, bO9.chg c10 (fun e => by omega), own9.chg c10 (fun k hk e => by have := (hnew k hk).1; omega), ?_, hnew⟩,
      hcT2.block S hSl (nT S (by omega) (by omega) (.inr rfl)), fun j => hcT2.marks _⟩
    have := y8.snoc HE.out.1 p5 c5
    rw [HE.out.2] at this
    exact this
  · rintro e W3 ⟨rfl, S, h1, h2, h3, h4, h5, ov, xs, h6, h7, h8, h9⟩
    refine ⟨⟨_, rfl⟩, .ready, none, by simp, h4, fun W4 hc4 => ?_⟩
    dsimp only
    have h5' := hc4.obj h5 (fun e => by omega)
    have h1' : Up w W4 := ((Chg.of_up h1).trans hc4 (fun _ _ e => e)).to_up (fun k hk e => by omega)
    have h6' := h6.chg hc4 (fun e => by omega)
    have h7' := h7.chg hc4 (fun k hk e => by have := (h9 k hk).1; omega)
    have rO := h6'.get
    have HZ := Lib.hid (And.intro h1' (And.intro h5' (And.intro h7' (And.intro h8 h9))))
    have HDD := Lib.hid hDB
    clear h1 h2 h3 h4 h5 h6 h7 h8 h9 h1' h5' h6' h7' hDB hrc hl6 hD6 hc4 bl6 bL6 bf6 bo6 hU06 hU16
    go_wp2
    have hDge : w.heap.size ≤ D := by have := HDD.out; omega
    refine marks_ret HZ.out.2.1 fun W' hc => ⟨_, results_tmp rfl _ _ _, ?_⟩
    exact ⟨((Chg.of_up HZ.out.1).trans hc (fun _ _ e => e)).to_up (fun k hk e => by omega), _, xs, rfl, HZ.out.2.2.1.chg hc (fun k hk e => by have := (HZ.out.2.2.2.2 k hk).1; omega), HZ.out.2.2.2.1⟩
end Go.Proofs.YtalmjdlcogdpmaaGreatDoor
